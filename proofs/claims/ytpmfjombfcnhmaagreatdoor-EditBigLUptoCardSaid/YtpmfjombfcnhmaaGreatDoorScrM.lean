/- Screens: may one be? -/
import Derived.Test.YtpmfjombfcnhmaaGreatDoorTit
import Derived.Deep.DeepCutAuto
import Derived.Deep.CutBlock
import Derived.Deep.MidRow
set_option linter.unusedVariables false
set_option linter.unusedSimpArgs false
namespace Go.Proofs.YtpmfjombfcnhmaaGreatDoor
open Go Go.RowKit

structure Scr where
  (mr mc : Int) (ms : List Cell) (orr oc : Int) (os : List Cell) (sw : Bool) (cur sav too : Cur) (top bot : Int) (tabs : List Bool) (modes : Int) (title : ByteArray) (last : Int)

/-- what a screen holds is not greater than a bound -/
def Scr.small (s : Scr) : Prop := s.ms.length ≤ 1048576 ∧ s.os.length ≤ 1048576 ∧ s.tabs.length ≤ 1048576 ∧ s.title.size ≤ 1048576 ∧ txtOk s.ms ∧ txtOk s.os
def marginsOk (s : Scr) : Bool := if s.mr = 1 then decide (s.top = 0 ∧ s.bot = 0) else decide (0 ≤ s.top ∧ s.top < s.bot ∧ s.bot < s.mr)
noncomputable def gridsOk (s : Scr) : Bool := gridB s.mr s.mc s.ms && gridB s.orr s.oc s.os && decide (s.mr = s.orr) && decide (s.mc = s.oc)
def cursOk (s : Scr) : Bool := curOk s.cur s.mr s.mc && curOk s.sav s.mr s.mc && curOk s.too s.mr s.mc
def restOk (s : Scr) : Bool := marginsOk s && decide ((s.tabs.length : Int) = s.mc) && decide (0 ≤ s.modes ∧ s.modes ≤ 1023) && titleOk s.title && decide (s.last = 0 ∨ 0 < widthOf s.last)
/-- a screen may be -/
noncomputable def scrB (s : Scr) : Bool := gridsOk s && cursOk s && restOk s

/-- a screen that was laid in a new block -/
abbrev newS (s : Scr) (m o t : Value) (w : World) : World := w.alloc (.cells #[.int .i64 s.mr, .int .i64 s.mc, m, .int .i64 s.orr, .int .i64 s.oc, o, .bool s.sw, .int .i64 s.cur.row, .int .i64 s.cur.col, .bool s.cur.wrap, .int .i64 s.cur.a.fg, .int .i64 s.cur.a.bg, .int .i64 s.cur.a.fl, .int .i64 s.cur.g0, .int .i64 s.cur.g1, .int .i64 s.cur.sh, .bool s.cur.org, .int .i64 s.sav.row, .int .i64 s.sav.col, .bool s.sav.wrap, .int .i64 s.sav.a.fg, .int .i64 s.sav.a.bg, .int .i64 s.sav.a.fl, .int .i64 s.sav.g0, .int .i64 s.sav.g1, .int .i64 s.sav.sh, .bool s.sav.org, .int .i64 s.too.row, .int .i64 s.too.col, .bool s.too.wrap, .int .i64 s.too.a.fg, .int .i64 s.too.a.bg, .int .i64 s.too.a.fl, .int .i64 s.too.g0, .int .i64 s.too.g1, .int .i64 s.too.sh, .bool s.too.org, .int .i64 s.top, .int .i64 s.bot, t, .int .i64 s.modes, .string s.title, .int .i64 s.last] 38)
theorem newS_cells (s : Scr) (m o t : Value) (w : World) : ∀ W, Below (newS s m o t w).heap.size (newS s m o t w) W → ∀ (k : Nat) (v : Value), (#[.int .i64 s.mr, .int .i64 s.mc, m, .int .i64 s.orr, .int .i64 s.oc, o, .bool s.sw, .int .i64 s.cur.row, .int .i64 s.cur.col, .bool s.cur.wrap, .int .i64 s.cur.a.fg, .int .i64 s.cur.a.bg, .int .i64 s.cur.a.fl, .int .i64 s.cur.g0, .int .i64 s.cur.g1, .int .i64 s.cur.sh, .bool s.cur.org, .int .i64 s.sav.row, .int .i64 s.sav.col, .bool s.sav.wrap, .int .i64 s.sav.a.fg, .int .i64 s.sav.a.bg, .int .i64 s.sav.a.fl, .int .i64 s.sav.g0, .int .i64 s.sav.g1, .int .i64 s.sav.sh, .bool s.sav.org, .int .i64 s.too.row, .int .i64 s.too.col, .bool s.too.wrap, .int .i64 s.too.a.fg, .int .i64 s.too.a.bg, .int .i64 s.too.a.fl, .int .i64 s.too.g0, .int .i64 s.too.g1, .int .i64 s.too.sh, .bool s.too.org, .int .i64 s.top, .int .i64 s.bot, t, .int .i64 s.modes, .string s.title, .int .i64 s.last] : Array Value)[k]? = some v → W.cell? ⟨w.heap.size, k, none⟩ = some v :=
  fun _ h _ _ hk => cell_below h ((cell_new _ _ _ _ _).trans hk)
theorem newS_below {s : Scr} {m o t : Value} {w W : World} (h : Below (newS s m o t w).heap.size (newS s m o t w) W) : Below w.heap.size w W := after (alloc_below (Below.refl _ _) _) h

set_option maxHeartbeats 1000000 in
theorem margins_is {s : Scr} {x : Bool} (h : marginsOk s = x) (m o t : Value) (w : World) : Calls Tryz.prog 57 #[.agg #[.int .i64 s.mr, .int .i64 s.mc, m, .int .i64 s.orr, .int .i64 s.oc, o, .bool s.sw, .int .i64 s.cur.row, .int .i64 s.cur.col, .bool s.cur.wrap, .int .i64 s.cur.a.fg, .int .i64 s.cur.a.bg, .int .i64 s.cur.a.fl, .int .i64 s.cur.g0, .int .i64 s.cur.g1, .int .i64 s.cur.sh, .bool s.cur.org, .int .i64 s.sav.row, .int .i64 s.sav.col, .bool s.sav.wrap, .int .i64 s.sav.a.fg, .int .i64 s.sav.a.bg, .int .i64 s.sav.a.fl, .int .i64 s.sav.g0, .int .i64 s.sav.g1, .int .i64 s.sav.sh, .bool s.sav.org, .int .i64 s.too.row, .int .i64 s.too.col, .bool s.too.wrap, .int .i64 s.too.a.fg, .int .i64 s.too.a.bg, .int .i64 s.too.a.fl, .int .i64 s.too.g0, .int .i64 s.too.g1, .int .i64 s.too.sh, .bool s.too.org, .int .i64 s.top, .int .i64 s.bot, t, .int .i64 s.modes, .string s.title, .int .i64 s.last]] w fun e w' => e = .returned (.bool x) ∧ Below w.heap.size w w' := by
  have H := hid h
  clear h
  go_enter Tryz.func57, Tryz.ntmps57
  go_wp2
  all_goals (go_ret; refine ⟨ret_bool ?_, alloc_below (Below.refl _ _) _⟩; rw [← H.out, marginsOk]; clear H; rw [Bool.eq_iff_iff]; split <;> simp_all <;> omega)

theorem loadS {s : Scr} {m o t : Value} {g : Nat} {W : World} (h : ∀ (k : Nat) (v : Value), (#[.int .i64 s.mr, .int .i64 s.mc, m, .int .i64 s.orr, .int .i64 s.oc, o, .bool s.sw, .int .i64 s.cur.row, .int .i64 s.cur.col, .bool s.cur.wrap, .int .i64 s.cur.a.fg, .int .i64 s.cur.a.bg, .int .i64 s.cur.a.fl, .int .i64 s.cur.g0, .int .i64 s.cur.g1, .int .i64 s.cur.sh, .bool s.cur.org, .int .i64 s.sav.row, .int .i64 s.sav.col, .bool s.sav.wrap, .int .i64 s.sav.a.fg, .int .i64 s.sav.a.bg, .int .i64 s.sav.a.fl, .int .i64 s.sav.g0, .int .i64 s.sav.g1, .int .i64 s.sav.sh, .bool s.sav.org, .int .i64 s.too.row, .int .i64 s.too.col, .bool s.too.wrap, .int .i64 s.too.a.fg, .int .i64 s.too.a.bg, .int .i64 s.too.a.fl, .int .i64 s.too.g0, .int .i64 s.too.g1, .int .i64 s.too.sh, .bool s.too.org, .int .i64 s.top, .int .i64 s.bot, t, .int .i64 s.modes, .string s.title, .int .i64 s.last] : Array Value)[k]? = some v → W.cell? ⟨g, k, none⟩ = some v) :
    (Instr.loadAt 38 (.pointer (some ⟨g, 0, none⟩))).run Tryz.prog W = .ok (.agg #[.int .i64 s.mr, .int .i64 s.mc, m, .int .i64 s.orr, .int .i64 s.oc, o, .bool s.sw, .int .i64 s.cur.row, .int .i64 s.cur.col, .bool s.cur.wrap, .int .i64 s.cur.a.fg, .int .i64 s.cur.a.bg, .int .i64 s.cur.a.fl, .int .i64 s.cur.g0, .int .i64 s.cur.g1, .int .i64 s.cur.sh, .bool s.cur.org, .int .i64 s.sav.row, .int .i64 s.sav.col, .bool s.sav.wrap, .int .i64 s.sav.a.fg, .int .i64 s.sav.a.bg, .int .i64 s.sav.a.fl, .int .i64 s.sav.g0, .int .i64 s.sav.g1, .int .i64 s.sav.sh, .bool s.sav.org, .int .i64 s.too.row, .int .i64 s.too.col, .bool s.too.wrap, .int .i64 s.too.a.fg, .int .i64 s.too.a.bg, .int .i64 s.too.a.fl, .int .i64 s.too.g0, .int .i64 s.too.g1, .int .i64 s.too.sh, .bool s.too.org, .int .i64 s.top, .int .i64 s.bot, t, .int .i64 s.modes, .string s.title, .int .i64 s.last]) W :=
  run_loadAt_mid W g 0 38 [.int .i64 s.mr, .int .i64 s.mc, m, .int .i64 s.orr, .int .i64 s.oc, o, .bool s.sw, .int .i64 s.cur.row, .int .i64 s.cur.col, .bool s.cur.wrap, .int .i64 s.cur.a.fg, .int .i64 s.cur.a.bg, .int .i64 s.cur.a.fl, .int .i64 s.cur.g0, .int .i64 s.cur.g1, .int .i64 s.cur.sh, .bool s.cur.org, .int .i64 s.sav.row, .int .i64 s.sav.col, .bool s.sav.wrap, .int .i64 s.sav.a.fg, .int .i64 s.sav.a.bg, .int .i64 s.sav.a.fl, .int .i64 s.sav.g0, .int .i64 s.sav.g1, .int .i64 s.sav.sh, .bool s.sav.org, .int .i64 s.too.row, .int .i64 s.too.col, .bool s.too.wrap, .int .i64 s.too.a.fg, .int .i64 s.too.a.bg, .int .i64 s.too.a.fl, .int .i64 s.too.g0, .int .i64 s.too.g1, .int .i64 s.too.sh, .bool s.too.org, .int .i64 s.top, .int .i64 s.bot, t, .int .i64 s.modes, .string s.title, .int .i64 s.last] _ (fun j v hj => by rw [Nat.zero_add]; exact h j v (List.getElem?_toArray.trans hj)) Tryz.underlying38 rfl (by kernel_rfl)
theorem loadC {c : Cur} {g q : Nat} {W : World} (h : ∀ (k : Nat) (v : Value), (#[.int .i64 c.row, .int .i64 c.col, .bool c.wrap, .int .i64 c.a.fg, .int .i64 c.a.bg, .int .i64 c.a.fl, .int .i64 c.g0, .int .i64 c.g1, .int .i64 c.sh, .bool c.org] : Array Value)[k]? = some v → W.cell? ⟨g, q + k, none⟩ = some v) :
    (Instr.loadAt 35 (.pointer (some ⟨g, q, none⟩))).run Tryz.prog W = .ok (.agg #[.int .i64 c.row, .int .i64 c.col, .bool c.wrap, .int .i64 c.a.fg, .int .i64 c.a.bg, .int .i64 c.a.fl, .int .i64 c.g0, .int .i64 c.g1, .int .i64 c.sh, .bool c.org]) W :=
  run_loadAt_mid W g q 35 [.int .i64 c.row, .int .i64 c.col, .bool c.wrap, .int .i64 c.a.fg, .int .i64 c.a.bg, .int .i64 c.a.fl, .int .i64 c.g0, .int .i64 c.g1, .int .i64 c.sh, .bool c.org] _ (fun j v hj => h j v (List.getElem?_toArray.trans hj)) Tryz.underlying35 rfl (by kernel_rfl)
def findRegion (n : Nat) : Code → Option Code
  | .region k ops d => if k = n then some (.region k ops d) else none
  | .seq a b => match findRegion n a with
    | some c => some c
    | none => findRegion n b
  | .cond _ a b => match findRegion n a with
    | some c => some c
    | none => findRegion n b
  | .loop c => findRegion n c
  | .block _ c => findRegion n c
  | .scope c => findRegion n c
  | _ => none
noncomputable def reg9 : Code := ((Tryz.f30.body.bind (findRegion 9)).getD .skip)
set_option maxHeartbeats 4000000 in
set_option maxRecDepth 100000 in
theorem reg9_is {s : Scr} {m o : Value} {ct : Nat} {A : Option Addr} {g : Nat} {wr : World} {x b1 b2 b3 b4 b5 b6 : Bool} {y7 : Int} {Q : Exit → Act → World → Prop}
    (hF : (b1 && b3 && b4 && b5 && (b6 || decide (0 < y7))) = x) (h32 : b3 = true → b2 = true)
    (hMG : ∀ y : After wr, Calls Tryz.prog 57 #[.agg #[.int .i64 s.mr, .int .i64 s.mc, m, .int .i64 s.orr, .int .i64 s.oc, o, .bool s.sw, .int .i64 s.cur.row, .int .i64 s.cur.col, .bool s.cur.wrap, .int .i64 s.cur.a.fg, .int .i64 s.cur.a.bg, .int .i64 s.cur.a.fl, .int .i64 s.cur.g0, .int .i64 s.cur.g1, .int .i64 s.cur.sh, .bool s.cur.org, .int .i64 s.sav.row, .int .i64 s.sav.col, .bool s.sav.wrap, .int .i64 s.sav.a.fg, .int .i64 s.sav.a.bg, .int .i64 s.sav.a.fl, .int .i64 s.sav.g0, .int .i64 s.sav.g1, .int .i64 s.sav.sh, .bool s.sav.org, .int .i64 s.too.row, .int .i64 s.too.col, .bool s.too.wrap, .int .i64 s.too.a.fg, .int .i64 s.too.a.bg, .int .i64 s.too.a.fl, .int .i64 s.too.g0, .int .i64 s.too.g1, .int .i64 s.too.sh, .bool s.too.org, .int .i64 s.top, .int .i64 s.bot, (.slice A s.tabs.length ct), .int .i64 s.modes, .string s.title, .int .i64 s.last]] y.W fun e w' => e = .returned (.bool b1) ∧ Below y.W.heap.size y.W w')
    (hTA : ∀ y : After wr, Calls Tryz.prog 58 #[.slice A s.tabs.length ct] y.W fun e w' => e = .returned (.bool b2) ∧ y.W = w')
    (hMO : ∀ y : After wr, Calls Tryz.prog 59 #[.int .i64 s.modes] y.W fun e w' => e = .returned (.bool b4) ∧ y.W = w')
    (hTI : ∀ y : After wr, Calls Tryz.prog 60 #[.string s.title] y.W fun e w' => e = .returned (.bool b5) ∧ Below y.W.heap.size y.W w')
    (hWI : ∀ y : After wr, Calls Tryz.prog 61 #[.int .i64 s.last] y.W fun e w' => e = .returned (.int .i64 y7) ∧ Below y.W.heap.size y.W w')
    (HH2 : ∀ W, Below wr.heap.size wr W → ∀ (k : Nat) (v : Value), (#[.int .i64 s.mr, .int .i64 s.mc, m, .int .i64 s.orr, .int .i64 s.oc, o, .bool s.sw, .int .i64 s.cur.row, .int .i64 s.cur.col, .bool s.cur.wrap, .int .i64 s.cur.a.fg, .int .i64 s.cur.a.bg, .int .i64 s.cur.a.fl, .int .i64 s.cur.g0, .int .i64 s.cur.g1, .int .i64 s.cur.sh, .bool s.cur.org, .int .i64 s.sav.row, .int .i64 s.sav.col, .bool s.sav.wrap, .int .i64 s.sav.a.fg, .int .i64 s.sav.a.bg, .int .i64 s.sav.a.fl, .int .i64 s.sav.g0, .int .i64 s.sav.g1, .int .i64 s.sav.sh, .bool s.sav.org, .int .i64 s.too.row, .int .i64 s.too.col, .bool s.too.wrap, .int .i64 s.too.a.fg, .int .i64 s.too.a.bg, .int .i64 s.too.a.fl, .int .i64 s.too.g0, .int .i64 s.too.g1, .int .i64 s.too.sh, .bool s.too.org, .int .i64 s.top, .int .i64 s.bot, (.slice A s.tabs.length ct), .int .i64 s.modes, .string s.title, .int .i64 s.last] : Array Value)[k]? = some v → W.cell? ⟨g, k, none⟩ = some v)
    (hb3 : ((s.tabs.length : Int) == s.mc) = b3) (hb6 : (s.last == 0) = b6) (u0 u2 u3 u4 u5 u6 u7 u8 u9 u10 u11 u12 u13 u14 u15 u16 u17 u18 u19 u20 u21 u22 u23 u24 u25 u26 u27 u28 u29 u30 u31 u32 u33 u34 u35 u36 u37 u38 u39 u40 u41 u42 u43 u44 u45 u46 u47 u48 u49 u50 u51 u52 u53 u54 u55 u56 u57 u58 u59 u60 u61 u62 u63 u64 u65 u66 u67 u68 u69 u70 u71 u72 u73 u74 u75 u76 u77 u78 u79 u80 u81 u82 u83 u84 u85 u86 u87 u88 u89 u90 u91 : Value)
    (hQ : ∀ wz, Below wr.heap.size wr wz → ∀ v55 v56 v57 v58 v59 v60 v61 v62 v63 v64 v65 v66 v67 v68 v69 v70 v71 v72 v73 v74 v75 v76 v77 v78 v79 v80 v81 v82 v83 v84 v85 v86 v87 v88 v89 v90 v91 : Value, Q .normal ⟨#[u0, .pointer (some ⟨g, 0, none⟩), .bool x, u3, u4, u5, u6, u7, u8, u9, u10, u11, u12, u13, u14, u15, u16, u17, u18, u19, u20, u21, u22, u23, u24, u25, u26, u27, u28, u29, u30, u31, u32, u33, u34, u35, u36, u37, u38, u39, u40, u41, u42, u43, u44, u45, u46, u47, u48, u49, u50, u51, u52, u53, u54, v55, v56, v57, v58, v59, v60, v61, v62, v63, v64, v65, v66, v67, v68, v69, v70, v71, v72, v73, v74, v75, v76, v77, v78, v79, v80, v81, v82, v83, v84, v85, v86, v87, v88, v89, v90, v91], []⟩ wz) :
    Code.wp Tryz.prog reg9 Q ⟨#[u0, .pointer (some ⟨g, 0, none⟩), u2, u3, u4, u5, u6, u7, u8, u9, u10, u11, u12, u13, u14, u15, u16, u17, u18, u19, u20, u21, u22, u23, u24, u25, u26, u27, u28, u29, u30, u31, u32, u33, u34, u35, u36, u37, u38, u39, u40, u41, u42, u43, u44, u45, u46, u47, u48, u49, u50, u51, u52, u53, u54, u55, u56, u57, u58, u59, u60, u61, u62, u63, u64, u65, u66, u67, u68, u69, u70, u71, u72, u73, u74, u75, u76, u77, u78, u79, u80, u81, u82, u83, u84, u85, u86, u87, u88, u89, u90, u91], []⟩ wr := by
  have HF := hid hF
  have H32 := hid h32
  have HMG := hid hMG
  have HTA := hid hTA
  have HMO := hid hMO
  have HTI := hid hTI
  have HWI := hid hWI
  clear hF h32 hMG hTA hMO hTI hWI
  have f0 : ∀ x : After wr, x.W.cell? ⟨g, 0, none⟩ = some (.int .i64 s.mr) := fun x => HH2 x.W x.h 0 _ rfl; have f1 : ∀ x : After wr, x.W.cell? ⟨g, 1, none⟩ = some (.int .i64 s.mc) := fun x => HH2 x.W x.h 1 _ rfl; have f37 : ∀ x : After wr, x.W.cell? ⟨g, 37, none⟩ = some (.int .i64 s.top) := fun x => HH2 x.W x.h 37 _ rfl; have f38 : ∀ x : After wr, x.W.cell? ⟨g, 38, none⟩ = some (.int .i64 s.bot) := fun x => HH2 x.W x.h 38 _ rfl; have f39 : ∀ x : After wr, x.W.cell? ⟨g, 39, none⟩ = some ((.slice A s.tabs.length ct)) := fun x => HH2 x.W x.h 39 _ rfl; have f40 : ∀ x : After wr, x.W.cell? ⟨g, 40, none⟩ = some (.int .i64 s.modes) := fun x => HH2 x.W x.h 40 _ rfl; have f41 : ∀ x : After wr, x.W.cell? ⟨g, 41, none⟩ = some (.string s.title) := fun x => HH2 x.W x.h 41 _ rfl; have f42 : ∀ x : After wr, x.W.cell? ⟨g, 42, none⟩ = some (.int .i64 s.last) := fun x => HH2 x.W x.h 42 _ rfl
  have hload : ∀ y : After wr, (Instr.loadAt 38 (.pointer (some ⟨g, 0, none⟩))).run Tryz.prog y.W = _ := fun y => loadS (HH2 y.W y.h)
  clear HH2
  conv => arg 2; whnf
  conv => arg 4; zeta
  cases b1 with
  | false =>
    have hx : x = false := by rw [← HF.out]; rfl
    subst hx
    refine wp_region_seq (w0 := wr) (Below.refl _ _) ?_
    go_big_quiet_want
    refine quiet_load (w0 := wr) rfl rfl hload ?_
    go_simp
    go_big_quiet_on
    repeat (go_big_quiet_step ((first | (go_at_call 57; with_reducible exact after_call _ (HMG.out _)) | (go_at_call 58; with_reducible exact after_still _ (HTA.out _)) | (go_at_call 59; with_reducible exact after_still _ (HMO.out _)) | (go_at_call 60; with_reducible exact after_call _ (HTI.out _)) | (go_at_call 61; with_reducible exact after_call _ (HWI.out _)))))
    refine wpQuiet_nil ?_
    rintro wz ⟨⟨_, hBz⟩, rfl⟩
    exact hQ wz hBz _ _ _ _ _ _ _ _ _ _ _ _ _ _ _ _ _ _ _ _ _ _ _ _ _ _ _ _ _ _ _ _ _ _ _ _ _
  | true =>
  cases b2 with
  | false =>
    cases b3 with
    | true => exact absurd (H32.out rfl) (by decide)
    | false =>
      have hx : x = false := by rw [← HF.out]; rfl
      subst hx
      refine wp_region_seq (w0 := wr) (Below.refl _ _) ?_
      go_big_quiet_want
      refine quiet_load (w0 := wr) rfl rfl hload ?_
      go_simp
      go_big_quiet_on
      repeat (go_big_quiet_step ((first | (go_at_call 57; with_reducible exact after_call _ (HMG.out _)) | (go_at_call 58; with_reducible exact after_still _ (HTA.out _)) | (go_at_call 59; with_reducible exact after_still _ (HMO.out _)) | (go_at_call 60; with_reducible exact after_call _ (HTI.out _)) | (go_at_call 61; with_reducible exact after_call _ (HWI.out _)))))
      refine wpQuiet_nil ?_
      rintro wz ⟨⟨_, hBz⟩, rfl⟩
      exact hQ wz hBz _ _ _ _ _ _ _ _ _ _ _ _ _ _ _ _ _ _ _ _ _ _ _ _ _ _ _ _ _ _ _ _ _ _ _ _ _
  | true =>
  cases b3 with
  | false =>
    have hx : x = false := by rw [← HF.out]; rfl
    subst hx
    refine wp_region_seq (w0 := wr) (Below.refl _ _) ?_
    go_big_quiet_want
    refine quiet_load (w0 := wr) rfl rfl hload ?_
    go_simp
    go_big_quiet_on
    repeat (go_big_quiet_step ((first | (go_at_call 57; with_reducible exact after_call _ (HMG.out _)) | (go_at_call 58; with_reducible exact after_still _ (HTA.out _)) | (go_at_call 59; with_reducible exact after_still _ (HMO.out _)) | (go_at_call 60; with_reducible exact after_call _ (HTI.out _)) | (go_at_call 61; with_reducible exact after_call _ (HWI.out _)))))
    refine wpQuiet_nil ?_
    rintro wz ⟨⟨_, hBz⟩, rfl⟩
    exact hQ wz hBz _ _ _ _ _ _ _ _ _ _ _ _ _ _ _ _ _ _ _ _ _ _ _ _ _ _ _ _ _ _ _ _ _ _ _ _ _
  | true =>
  cases b4 with
  | false =>
    have hx : x = false := by rw [← HF.out]; rfl
    subst hx
    refine wp_region_seq (w0 := wr) (Below.refl _ _) ?_
    go_big_quiet_want
    refine quiet_load (w0 := wr) rfl rfl hload ?_
    go_simp
    go_big_quiet_on
    repeat (go_big_quiet_step ((first | (go_at_call 57; with_reducible exact after_call _ (HMG.out _)) | (go_at_call 58; with_reducible exact after_still _ (HTA.out _)) | (go_at_call 59; with_reducible exact after_still _ (HMO.out _)) | (go_at_call 60; with_reducible exact after_call _ (HTI.out _)) | (go_at_call 61; with_reducible exact after_call _ (HWI.out _)))))
    refine wpQuiet_nil ?_
    rintro wz ⟨⟨_, hBz⟩, rfl⟩
    exact hQ wz hBz _ _ _ _ _ _ _ _ _ _ _ _ _ _ _ _ _ _ _ _ _ _ _ _ _ _ _ _ _ _ _ _ _ _ _ _ _
  | true =>
  cases b5 with
  | false =>
    have hx : x = false := by rw [← HF.out]; rfl
    subst hx
    refine wp_region_seq (w0 := wr) (Below.refl _ _) ?_
    go_big_quiet_want
    refine quiet_load (w0 := wr) rfl rfl hload ?_
    go_simp
    go_big_quiet_on
    repeat (go_big_quiet_step ((first | (go_at_call 57; with_reducible exact after_call _ (HMG.out _)) | (go_at_call 58; with_reducible exact after_still _ (HTA.out _)) | (go_at_call 59; with_reducible exact after_still _ (HMO.out _)) | (go_at_call 60; with_reducible exact after_call _ (HTI.out _)) | (go_at_call 61; with_reducible exact after_call _ (HWI.out _)))))
    refine wpQuiet_nil ?_
    rintro wz ⟨⟨_, hBz⟩, rfl⟩
    exact hQ wz hBz _ _ _ _ _ _ _ _ _ _ _ _ _ _ _ _ _ _ _ _ _ _ _ _ _ _ _ _ _ _ _ _ _ _ _ _ _
  | true =>
  cases b6 with
  | true =>
    have hx : x = true := by rw [← HF.out]; rfl
    subst hx
    refine wp_region_seq (w0 := wr) (Below.refl _ _) ?_
    go_big_quiet_want
    refine quiet_load (w0 := wr) rfl rfl hload ?_
    go_simp
    go_big_quiet_on
    repeat (go_big_quiet_step ((first | (go_at_call 57; with_reducible exact after_call _ (HMG.out _)) | (go_at_call 58; with_reducible exact after_still _ (HTA.out _)) | (go_at_call 59; with_reducible exact after_still _ (HMO.out _)) | (go_at_call 60; with_reducible exact after_call _ (HTI.out _)) | (go_at_call 61; with_reducible exact after_call _ (HWI.out _)))))
    refine wpQuiet_nil ?_
    rintro wz ⟨⟨_, hBz⟩, rfl⟩
    exact hQ wz hBz _ _ _ _ _ _ _ _ _ _ _ _ _ _ _ _ _ _ _ _ _ _ _ _ _ _ _ _ _ _ _ _ _ _ _ _ _
  | false =>
    have hx : x = decide (0 < y7) := by rw [← HF.out]; rfl
    subst hx
    refine wp_region_seq (w0 := wr) (Below.refl _ _) ?_
    go_big_quiet_want
    refine quiet_load (w0 := wr) rfl rfl hload ?_
    go_simp
    go_big_quiet_on
    repeat (go_big_quiet_step ((first | (go_at_call 57; with_reducible exact after_call _ (HMG.out _)) | (go_at_call 58; with_reducible exact after_still _ (HTA.out _)) | (go_at_call 59; with_reducible exact after_still _ (HMO.out _)) | (go_at_call 60; with_reducible exact after_call _ (HTI.out _)) | (go_at_call 61; with_reducible exact after_call _ (HWI.out _)))))
    refine wpQuiet_nil ?_
    rintro wz ⟨⟨_, hBz⟩, rfl⟩
    exact hQ wz hBz _ _ _ _ _ _ _ _ _ _ _ _ _ _ _ _ _ _ _ _ _ _ _ _ _ _ _ _ _ _ _ _ _ _ _ _ _

/-- three cursors that were laid in a new block -/
abbrev newArr (a b c : Cur) (w : World) : World := w.alloc (.cells #[.int .i64 a.row, .int .i64 a.col, .bool a.wrap, .int .i64 a.a.fg, .int .i64 a.a.bg, .int .i64 a.a.fl, .int .i64 a.g0, .int .i64 a.g1, .int .i64 a.sh, .bool a.org, .int .i64 b.row, .int .i64 b.col, .bool b.wrap, .int .i64 b.a.fg, .int .i64 b.a.bg, .int .i64 b.a.fl, .int .i64 b.g0, .int .i64 b.g1, .int .i64 b.sh, .bool b.org, .int .i64 c.row, .int .i64 c.col, .bool c.wrap, .int .i64 c.a.fg, .int .i64 c.a.bg, .int .i64 c.a.fl, .int .i64 c.g0, .int .i64 c.g1, .int .i64 c.sh, .bool c.org] 35)
theorem newArr_cells {a b c : Cur} {w W : World} (h : Below (newArr a b c w).heap.size (newArr a b c w) W) (k : Nat) (v : Value) (hk : (#[.int .i64 a.row, .int .i64 a.col, .bool a.wrap, .int .i64 a.a.fg, .int .i64 a.a.bg, .int .i64 a.a.fl, .int .i64 a.g0, .int .i64 a.g1, .int .i64 a.sh, .bool a.org, .int .i64 b.row, .int .i64 b.col, .bool b.wrap, .int .i64 b.a.fg, .int .i64 b.a.bg, .int .i64 b.a.fl, .int .i64 b.g0, .int .i64 b.g1, .int .i64 b.sh, .bool b.org, .int .i64 c.row, .int .i64 c.col, .bool c.wrap, .int .i64 c.a.fg, .int .i64 c.a.bg, .int .i64 c.a.fl, .int .i64 c.g0, .int .i64 c.g1, .int .i64 c.sh, .bool c.org] : Array Value)[k]? = some v) : W.cell? ⟨w.heap.size, k, none⟩ = some v :=
  cell_below h ((cell_new _ _ _ _ _).trans hk)
theorem newArr_below {a b c : Cur} {w W : World} (h : Below (newArr a b c w).heap.size (newArr a b c w) W) : Below w.heap.size w W := after (alloc_below (Below.refl _ _) _) h

set_option maxHeartbeats 2000000 in
set_option maxRecDepth 100000 in
theorem mayS_is {s : Scr} {x : Bool} (h : scrB s = x) (m o t : Value) (w : World) (hm : RdC w m s.ms) (ho : RdC w o s.os) (ht : RdB w t s.tabs) (hs : s.small) (hT : U8 w) :
    Calls Tryz.prog 30 #[.agg #[.int .i64 s.mr, .int .i64 s.mc, m, .int .i64 s.orr, .int .i64 s.oc, o, .bool s.sw, .int .i64 s.cur.row, .int .i64 s.cur.col, .bool s.cur.wrap, .int .i64 s.cur.a.fg, .int .i64 s.cur.a.bg, .int .i64 s.cur.a.fl, .int .i64 s.cur.g0, .int .i64 s.cur.g1, .int .i64 s.cur.sh, .bool s.cur.org, .int .i64 s.sav.row, .int .i64 s.sav.col, .bool s.sav.wrap, .int .i64 s.sav.a.fg, .int .i64 s.sav.a.bg, .int .i64 s.sav.a.fl, .int .i64 s.sav.g0, .int .i64 s.sav.g1, .int .i64 s.sav.sh, .bool s.sav.org, .int .i64 s.too.row, .int .i64 s.too.col, .bool s.too.wrap, .int .i64 s.too.a.fg, .int .i64 s.too.a.bg, .int .i64 s.too.a.fl, .int .i64 s.too.g0, .int .i64 s.too.g1, .int .i64 s.too.sh, .bool s.too.org, .int .i64 s.top, .int .i64 s.bot, t, .int .i64 s.modes, .string s.title, .int .i64 s.last]] w fun e w' => e = .returned (.bool x) ∧ Below w.heap.size w w' := by
  obtain ⟨l1, l2, l3, l4, l5, l6⟩ := hs
  obtain ⟨g1, hg1⟩ : ∃ v, gridB s.mr s.mc s.ms = v := ⟨_, rfl⟩
  obtain ⟨g2, hg2⟩ : ∃ v, gridB s.orr s.oc s.os = v := ⟨_, rfl⟩
  have HG1 := hid hg1
  have HS := newS_cells s m o t w
  have HWB : ∀ W, Below (newS s m o t w).heap.size (newS s m o t w) W → Below w.heap.size w W := fun W h => newS_below h
  have hGA : ∀ W, Below w.heap.size w W → Calls Tryz.prog 55 #[.agg #[.int .i64 s.mr, .int .i64 s.mc, m]] W fun e w' => e = .returned (.bool g1) ∧ Below W.heap.size W w' := fun W hW => mayGrid_is hg1 m W (hm.below hW) l1 l5 (hT.below hW)
  have hGB : ∀ W, Below w.heap.size w W → Calls Tryz.prog 55 #[.agg #[.int .i64 s.orr, .int .i64 s.oc, o]] W fun e w' => e = .returned (.bool g2) ∧ Below W.heap.size W w' := fun W hW => mayGrid_is hg2 o W (ho.below hW) l2 l6 (hT.below hW)
  obtain ⟨g3, hg3⟩ : ∃ v, decide (s.mr = s.orr) = v := ⟨_, rfl⟩
  obtain ⟨g4, hg4⟩ : ∃ v, decide (s.mc = s.oc) = v := ⟨_, rfl⟩
  have hG : gridsOk s = (g1 && g2 && g3 && g4) := by rw [gridsOk, hg1, hg2, hg3, hg4]
  have H := hid (show ((g1 && g2 && g3 && g4) && cursOk s && restOk s) = x by rw [← h, scrB, hG])
  have HT : Hid (∀ W, Below w.heap.size w W → U8 W) := hid fun W hW => hT.below hW
  have HTB : Hid (∀ W, Below w.heap.size w W → RdB W t s.tabs) := hid fun W hW => ht.below hW
  have e3 : (s.mr != s.orr) = !g3 := by rw [← hg3]; by_cases h : s.mr = s.orr <;> simp [h]
  have e4 : (s.mc != s.oc) = !g4 := by rw [← hg4]; by_cases h : s.mc = s.oc <;> simp [h]
  obtain ⟨wn, hwn⟩ : ∃ wn, wn = newS s m o t w := ⟨_, rfl⟩
  have HWN := hid hwn
  rw [← hwn] at HS HWB
  have HA : Hid (∀ x : After wn, Calls Tryz.prog 55 #[.agg #[.int .i64 s.mr, .int .i64 s.mc, m]] x.W _) := hid fun x => hGA x.W (HWB _ x.h)
  have HB : Hid (∀ x : After wn, Calls Tryz.prog 55 #[.agg #[.int .i64 s.orr, .int .i64 s.oc, o]] x.W _) := hid fun x => hGB x.W (HWB _ x.h)
  have hfin : (g1 && g2 && g3 && g4) = false → x = false := fun h => by rw [← H.out, h]; rfl
  clear h hm ho ht hT hGA hGB hg1 hg2 hg3 hg4 hG hwn
  have HHS := hid HS
  have HHW := hid HWB
  go_enter Tryz.func30, Tryz.ntmps30
  go_upto_region 1 with (fail)
  change Code.wp _ _ _ _ (newS s m o t w)
  rw [← HWN.out]
  have f0 : ∀ x : After wn, x.W.cell? ⟨w.heap.size, 0, none⟩ = some (.int .i64 s.mr) := fun x => HS x.W x.h 0 _ rfl; have f1 : ∀ x : After wn, x.W.cell? ⟨w.heap.size, 1, none⟩ = some (.int .i64 s.mc) := fun x => HS x.W x.h 1 _ rfl; have f2 : ∀ x : After wn, x.W.cell? ⟨w.heap.size, 2, none⟩ = some (m) := fun x => HS x.W x.h 2 _ rfl; have f3 : ∀ x : After wn, x.W.cell? ⟨w.heap.size, 3, none⟩ = some (.int .i64 s.orr) := fun x => HS x.W x.h 3 _ rfl; have f4 : ∀ x : After wn, x.W.cell? ⟨w.heap.size, 4, none⟩ = some (.int .i64 s.oc) := fun x => HS x.W x.h 4 _ rfl; have f5 : ∀ x : After wn, x.W.cell? ⟨w.heap.size, 5, none⟩ = some (o) := fun x => HS x.W x.h 5 _ rfl
  clear HS HWB
  have HF := hid hfin
  clear hfin
  cases g1 with
  | false =>
    have hx := HF.out (by simp)
    subst hx
    refine wp_region_seq (w0 := wn) (Below.refl _ _) ?_
    repeat (go_big_quiet_step ((first | (go_at_call 55; with_reducible exact after_call _ (HA.out _)) | (go_at_call 55; with_reducible exact after_call _ (HB.out _)))))
    refine wpQuiet_nil ?_
    rintro wq ⟨⟨_, hB4⟩, rfl⟩
    have HB4 := hid (HHW.out _ hB4)
    clear hB4
    clear f0 f1 f2 f3 f4 f5
    go_wp2
    go_ret
    exact ⟨rfl, HB4.out⟩
  | true =>
  cases g2 with
  | false =>
    have hx := HF.out (by simp)
    subst hx
    refine wp_region_seq (w0 := wn) (Below.refl _ _) ?_
    repeat (go_big_quiet_step ((first | (go_at_call 55; with_reducible exact after_call _ (HA.out _)) | (go_at_call 55; with_reducible exact after_call _ (HB.out _)))))
    refine wpQuiet_nil ?_
    rintro wq ⟨⟨_, hB4⟩, rfl⟩
    have HB4 := hid (HHW.out _ hB4)
    clear hB4
    clear f0 f1 f2 f3 f4 f5
    go_wp2
    go_ret
    exact ⟨rfl, HB4.out⟩
  | true =>
  cases g3 with
  | false =>
    have hx := HF.out (by simp)
    subst hx
    refine wp_region_seq (w0 := wn) (Below.refl _ _) ?_
    repeat (go_big_quiet_step ((first | (go_at_call 55; with_reducible exact after_call _ (HA.out _)) | (go_at_call 55; with_reducible exact after_call _ (HB.out _)))))
    refine wpQuiet_nil ?_
    rintro wq ⟨⟨_, hB4⟩, rfl⟩
    have HB4 := hid (HHW.out _ hB4)
    clear hB4
    clear f0 f1 f2 f3 f4 f5
    go_wp2
    go_ret
    exact ⟨rfl, HB4.out⟩
  | true =>
  cases g4 with
  | false =>
    have hx := HF.out (by simp)
    subst hx
    refine wp_region_seq (w0 := wn) (Below.refl _ _) ?_
    repeat (go_big_quiet_step ((first | (go_at_call 55; with_reducible exact after_call _ (HA.out _)) | (go_at_call 55; with_reducible exact after_call _ (HB.out _)))))
    refine wpQuiet_nil ?_
    rintro wq ⟨⟨_, hB4⟩, rfl⟩
    have HB4 := hid (HHW.out _ hB4)
    clear hB4
    clear f0 f1 f2 f3 f4 f5
    go_wp2
    go_ret
    exact ⟨rfl, HB4.out⟩
  | true =>
    refine wp_region_seq (w0 := wn) (Below.refl _ _) ?_
    repeat (go_big_quiet_step ((first | (go_at_call 55; with_reducible exact after_call _ (HA.out _)) | (go_at_call 55; with_reducible exact after_call _ (HB.out _)))))
    refine wpQuiet_nil ?_
    rintro wq ⟨⟨_, hB4⟩, rfl⟩
    clear f0 f1 f2 f3 f4 f5
    obtain ⟨q1, hq1⟩ : ∃ v, curOk s.cur s.mr s.mc = v := ⟨_, rfl⟩
    obtain ⟨q2, hq2⟩ : ∃ v, curOk s.sav s.mr s.mc = v := ⟨_, rfl⟩
    obtain ⟨q3, hq3⟩ : ∃ v, curOk s.too s.mr s.mc = v := ⟨_, rfl⟩
    have hsz := sidesOk_iff.1 (gridB_iff.1 HG1.out).1
    have hcu1 : ∀ W, Calls Tryz.prog 56 #[.agg #[.int .i64 s.cur.row, .int .i64 s.cur.col, .bool s.cur.wrap, .int .i64 s.cur.a.fg, .int .i64 s.cur.a.bg, .int .i64 s.cur.a.fl, .int .i64 s.cur.g0, .int .i64 s.cur.g1, .int .i64 s.cur.sh, .bool s.cur.org], .int .i64 s.mr, .int .i64 s.mc] W _ := fun W => curP_is hq1 W ⟨hsz.2.2.1, hsz.2.2.2⟩
    have hcu2 : ∀ W, Calls Tryz.prog 56 #[.agg #[.int .i64 s.sav.row, .int .i64 s.sav.col, .bool s.sav.wrap, .int .i64 s.sav.a.fg, .int .i64 s.sav.a.bg, .int .i64 s.sav.a.fl, .int .i64 s.sav.g0, .int .i64 s.sav.g1, .int .i64 s.sav.sh, .bool s.sav.org], .int .i64 s.mr, .int .i64 s.mc] W _ := fun W => curP_is hq2 W ⟨hsz.2.2.1, hsz.2.2.2⟩
    have hcu3 : ∀ W, Calls Tryz.prog 56 #[.agg #[.int .i64 s.too.row, .int .i64 s.too.col, .bool s.too.wrap, .int .i64 s.too.a.fg, .int .i64 s.too.a.bg, .int .i64 s.too.a.fl, .int .i64 s.too.g0, .int .i64 s.too.g1, .int .i64 s.too.sh, .bool s.too.org], .int .i64 s.mr, .int .i64 s.mc] W _ := fun W => curP_is hq3 W ⟨hsz.2.2.1, hsz.2.2.2⟩
    have HC1 := hid hcu1
    have HC2 := hid hcu2
    have HC3 := hid hcu3
    have HQ := hid (show cursOk s = (q1 && q2 && q3) by rw [cursOk, hq1, hq2, hq3])
    have HB4 := hid hB4
    have d7 : World.cell? wq ⟨w.heap.size, 7, none⟩ = some (.int .i64 s.cur.row) := HHS.out _ hB4 7 _ rfl; have d8 : World.cell? wq ⟨w.heap.size, 8, none⟩ = some (.int .i64 s.cur.col) := HHS.out _ hB4 8 _ rfl; have d9 : World.cell? wq ⟨w.heap.size, 9, none⟩ = some (.bool s.cur.wrap) := HHS.out _ hB4 9 _ rfl; have d10 : World.cell? wq ⟨w.heap.size, 10, none⟩ = some (.int .i64 s.cur.a.fg) := HHS.out _ hB4 10 _ rfl; have d11 : World.cell? wq ⟨w.heap.size, 11, none⟩ = some (.int .i64 s.cur.a.bg) := HHS.out _ hB4 11 _ rfl; have d12 : World.cell? wq ⟨w.heap.size, 12, none⟩ = some (.int .i64 s.cur.a.fl) := HHS.out _ hB4 12 _ rfl; have d13 : World.cell? wq ⟨w.heap.size, 13, none⟩ = some (.int .i64 s.cur.g0) := HHS.out _ hB4 13 _ rfl; have d14 : World.cell? wq ⟨w.heap.size, 14, none⟩ = some (.int .i64 s.cur.g1) := HHS.out _ hB4 14 _ rfl; have d15 : World.cell? wq ⟨w.heap.size, 15, none⟩ = some (.int .i64 s.cur.sh) := HHS.out _ hB4 15 _ rfl; have d16 : World.cell? wq ⟨w.heap.size, 16, none⟩ = some (.bool s.cur.org) := HHS.out _ hB4 16 _ rfl; have d17 : World.cell? wq ⟨w.heap.size, 17, none⟩ = some (.int .i64 s.sav.row) := HHS.out _ hB4 17 _ rfl; have d18 : World.cell? wq ⟨w.heap.size, 18, none⟩ = some (.int .i64 s.sav.col) := HHS.out _ hB4 18 _ rfl; have d19 : World.cell? wq ⟨w.heap.size, 19, none⟩ = some (.bool s.sav.wrap) := HHS.out _ hB4 19 _ rfl; have d20 : World.cell? wq ⟨w.heap.size, 20, none⟩ = some (.int .i64 s.sav.a.fg) := HHS.out _ hB4 20 _ rfl; have d21 : World.cell? wq ⟨w.heap.size, 21, none⟩ = some (.int .i64 s.sav.a.bg) := HHS.out _ hB4 21 _ rfl; have d22 : World.cell? wq ⟨w.heap.size, 22, none⟩ = some (.int .i64 s.sav.a.fl) := HHS.out _ hB4 22 _ rfl; have d23 : World.cell? wq ⟨w.heap.size, 23, none⟩ = some (.int .i64 s.sav.g0) := HHS.out _ hB4 23 _ rfl; have d24 : World.cell? wq ⟨w.heap.size, 24, none⟩ = some (.int .i64 s.sav.g1) := HHS.out _ hB4 24 _ rfl; have d25 : World.cell? wq ⟨w.heap.size, 25, none⟩ = some (.int .i64 s.sav.sh) := HHS.out _ hB4 25 _ rfl; have d26 : World.cell? wq ⟨w.heap.size, 26, none⟩ = some (.bool s.sav.org) := HHS.out _ hB4 26 _ rfl; have d27 : World.cell? wq ⟨w.heap.size, 27, none⟩ = some (.int .i64 s.too.row) := HHS.out _ hB4 27 _ rfl; have d28 : World.cell? wq ⟨w.heap.size, 28, none⟩ = some (.int .i64 s.too.col) := HHS.out _ hB4 28 _ rfl; have d29 : World.cell? wq ⟨w.heap.size, 29, none⟩ = some (.bool s.too.wrap) := HHS.out _ hB4 29 _ rfl; have d30 : World.cell? wq ⟨w.heap.size, 30, none⟩ = some (.int .i64 s.too.a.fg) := HHS.out _ hB4 30 _ rfl; have d31 : World.cell? wq ⟨w.heap.size, 31, none⟩ = some (.int .i64 s.too.a.bg) := HHS.out _ hB4 31 _ rfl; have d32 : World.cell? wq ⟨w.heap.size, 32, none⟩ = some (.int .i64 s.too.a.fl) := HHS.out _ hB4 32 _ rfl; have d33 : World.cell? wq ⟨w.heap.size, 33, none⟩ = some (.int .i64 s.too.g0) := HHS.out _ hB4 33 _ rfl; have d34 : World.cell? wq ⟨w.heap.size, 34, none⟩ = some (.int .i64 s.too.g1) := HHS.out _ hB4 34 _ rfl; have d35 : World.cell? wq ⟨w.heap.size, 35, none⟩ = some (.int .i64 s.too.sh) := HHS.out _ hB4 35 _ rfl; have d36 : World.cell? wq ⟨w.heap.size, 36, none⟩ = some (.bool s.too.org) := HHS.out _ hB4 36 _ rfl
    clear hB4 hcu1 hcu2 hcu3 hq1 hq2 hq3 e3 e4
    go_wp2_with (fail)
    clear d7 d8 d9 d10 d11 d12 d13 d14 d15 d16 d17 d18 d19 d20 d21 d22 d23 d24 d25 d26 d27 d28 d29 d30 d31 d32 d33 d34 d35 d36
    go_loopg [4, 41] 4 (fun gk s4 s41 wx => ∃ i : Nat, s41 = .int .i64 i ∧ i ≤ 3 ∧ gk = 4 - i ∧ Below (newArr s.cur s.sav s.too wq).heap.size (newArr s.cur s.sav s.too wq) wx ∧ Hid ((0 < i → q1 = true) ∧ (1 < i → q2 = true) ∧ (2 < i → q3 = true)))
    case atStart => exact ⟨0, rfl, by omega, by omega, Below.refl _ _, hid ⟨fun h => absurd h (by omega), fun h => absurd h (by omega), fun h => absurd h (by omega)⟩⟩
    case round =>
      obtain ⟨i, rfl, hi, hgk, hbw, HP⟩ := hrel
      have hbn := HB4.out.trans ((newArr_below hbw).mono HB4.out.size)
      have HBN := hid hbn
      have d0 : World.cell? wr ⟨w.heap.size, 0, none⟩ = some (.int .i64 s.mr) := HHS.out _ HBN.out 0 _ rfl; have d1 : World.cell? wr ⟨w.heap.size, 1, none⟩ = some (.int .i64 s.mc) := HHS.out _ HBN.out 1 _ rfl
      clear hbn
      by_cases hlt : i < 3
      · rcases (show i = 0 ∨ i = 1 ∨ i = 2 by omega) with rfl | rfl | rfl
        · have a0 : wr.cell? ⟨wq.heap.size, 0, none⟩ = some (.int .i64 s.cur.row) := newArr_cells hbw 0 _ rfl; have a1 : wr.cell? ⟨wq.heap.size, 1, none⟩ = some (.int .i64 s.cur.col) := newArr_cells hbw 1 _ rfl; have a2 : wr.cell? ⟨wq.heap.size, 2, none⟩ = some (.bool s.cur.wrap) := newArr_cells hbw 2 _ rfl; have a3 : wr.cell? ⟨wq.heap.size, 3, none⟩ = some (.int .i64 s.cur.a.fg) := newArr_cells hbw 3 _ rfl; have a4 : wr.cell? ⟨wq.heap.size, 4, none⟩ = some (.int .i64 s.cur.a.bg) := newArr_cells hbw 4 _ rfl; have a5 : wr.cell? ⟨wq.heap.size, 5, none⟩ = some (.int .i64 s.cur.a.fl) := newArr_cells hbw 5 _ rfl; have a6 : wr.cell? ⟨wq.heap.size, 6, none⟩ = some (.int .i64 s.cur.g0) := newArr_cells hbw 6 _ rfl; have a7 : wr.cell? ⟨wq.heap.size, 7, none⟩ = some (.int .i64 s.cur.g1) := newArr_cells hbw 7 _ rfl; have a8 : wr.cell? ⟨wq.heap.size, 8, none⟩ = some (.int .i64 s.cur.sh) := newArr_cells hbw 8 _ rfl; have a9 : wr.cell? ⟨wq.heap.size, 9, none⟩ = some (.bool s.cur.org) := newArr_cells hbw 9 _ rfl
          have e0 : (newCur s.cur wr).cell? ⟨w.heap.size, 0, none⟩ = some (.int .i64 s.mr) := cell_below (alloc_below (Below.refl _ _) _) d0
          have e1 : (newCur s.cur wr).cell? ⟨w.heap.size, 1, none⟩ = some (.int .i64 s.mc) := cell_below (alloc_below (Below.refl _ _) _) d1
          have HBW := hid hbw
          clear hbw
          cases q1 with
          | false =>
            have hx : x = false := by rw [← H.out, HQ.out]; simp
            subst hx
            go_wp2_with (go_at_call 56; (with_reducible refine (HC1.out _).mono ?_); rintro e w5 ⟨rfl, hB⟩; have HB5 := hid (newCur_below s.cur hB); clear hB)
            go_ret
            exact ⟨rfl, HHW.out _ (HB4.out.trans ((newArr_below (HBW.out.trans (HB5.out.mono HBW.out.size))).mono HB4.out.size))⟩
          | true =>
            go_wp2_with (go_at_call 56; (with_reducible refine (HC1.out _).mono ?_); rintro e w5 ⟨rfl, hB⟩; have HB5 := hid (newCur_below s.cur hB); clear hB)
            go_roundg (gk - 1)
            case measure => omega
            case rel => exact ⟨1, by rfl, by omega, by omega, HBW.out.trans (HB5.out.mono HBW.out.size), hid (by have := HP.out; simp_all)⟩
        · have a0 : wr.cell? ⟨wq.heap.size, 10, none⟩ = some (.int .i64 s.sav.row) := newArr_cells hbw 10 _ rfl; have a1 : wr.cell? ⟨wq.heap.size, 11, none⟩ = some (.int .i64 s.sav.col) := newArr_cells hbw 11 _ rfl; have a2 : wr.cell? ⟨wq.heap.size, 12, none⟩ = some (.bool s.sav.wrap) := newArr_cells hbw 12 _ rfl; have a3 : wr.cell? ⟨wq.heap.size, 13, none⟩ = some (.int .i64 s.sav.a.fg) := newArr_cells hbw 13 _ rfl; have a4 : wr.cell? ⟨wq.heap.size, 14, none⟩ = some (.int .i64 s.sav.a.bg) := newArr_cells hbw 14 _ rfl; have a5 : wr.cell? ⟨wq.heap.size, 15, none⟩ = some (.int .i64 s.sav.a.fl) := newArr_cells hbw 15 _ rfl; have a6 : wr.cell? ⟨wq.heap.size, 16, none⟩ = some (.int .i64 s.sav.g0) := newArr_cells hbw 16 _ rfl; have a7 : wr.cell? ⟨wq.heap.size, 17, none⟩ = some (.int .i64 s.sav.g1) := newArr_cells hbw 17 _ rfl; have a8 : wr.cell? ⟨wq.heap.size, 18, none⟩ = some (.int .i64 s.sav.sh) := newArr_cells hbw 18 _ rfl; have a9 : wr.cell? ⟨wq.heap.size, 19, none⟩ = some (.bool s.sav.org) := newArr_cells hbw 19 _ rfl
          have e0 : (newCur s.sav wr).cell? ⟨w.heap.size, 0, none⟩ = some (.int .i64 s.mr) := cell_below (alloc_below (Below.refl _ _) _) d0
          have e1 : (newCur s.sav wr).cell? ⟨w.heap.size, 1, none⟩ = some (.int .i64 s.mc) := cell_below (alloc_below (Below.refl _ _) _) d1
          have HBW := hid hbw
          clear hbw
          cases q2 with
          | false =>
            have hx : x = false := by rw [← H.out, HQ.out]; simp
            subst hx
            go_wp2_with (go_at_call 56; (with_reducible refine (HC2.out _).mono ?_); rintro e w5 ⟨rfl, hB⟩; have HB5 := hid (newCur_below s.sav hB); clear hB)
            go_ret
            exact ⟨rfl, HHW.out _ (HB4.out.trans ((newArr_below (HBW.out.trans (HB5.out.mono HBW.out.size))).mono HB4.out.size))⟩
          | true =>
            go_wp2_with (go_at_call 56; (with_reducible refine (HC2.out _).mono ?_); rintro e w5 ⟨rfl, hB⟩; have HB5 := hid (newCur_below s.sav hB); clear hB)
            go_roundg (gk - 1)
            case measure => omega
            case rel => exact ⟨2, by rfl, by omega, by omega, HBW.out.trans (HB5.out.mono HBW.out.size), hid (by have := HP.out; simp_all)⟩
        · have a0 : wr.cell? ⟨wq.heap.size, 20, none⟩ = some (.int .i64 s.too.row) := newArr_cells hbw 20 _ rfl; have a1 : wr.cell? ⟨wq.heap.size, 21, none⟩ = some (.int .i64 s.too.col) := newArr_cells hbw 21 _ rfl; have a2 : wr.cell? ⟨wq.heap.size, 22, none⟩ = some (.bool s.too.wrap) := newArr_cells hbw 22 _ rfl; have a3 : wr.cell? ⟨wq.heap.size, 23, none⟩ = some (.int .i64 s.too.a.fg) := newArr_cells hbw 23 _ rfl; have a4 : wr.cell? ⟨wq.heap.size, 24, none⟩ = some (.int .i64 s.too.a.bg) := newArr_cells hbw 24 _ rfl; have a5 : wr.cell? ⟨wq.heap.size, 25, none⟩ = some (.int .i64 s.too.a.fl) := newArr_cells hbw 25 _ rfl; have a6 : wr.cell? ⟨wq.heap.size, 26, none⟩ = some (.int .i64 s.too.g0) := newArr_cells hbw 26 _ rfl; have a7 : wr.cell? ⟨wq.heap.size, 27, none⟩ = some (.int .i64 s.too.g1) := newArr_cells hbw 27 _ rfl; have a8 : wr.cell? ⟨wq.heap.size, 28, none⟩ = some (.int .i64 s.too.sh) := newArr_cells hbw 28 _ rfl; have a9 : wr.cell? ⟨wq.heap.size, 29, none⟩ = some (.bool s.too.org) := newArr_cells hbw 29 _ rfl
          have e0 : (newCur s.too wr).cell? ⟨w.heap.size, 0, none⟩ = some (.int .i64 s.mr) := cell_below (alloc_below (Below.refl _ _) _) d0
          have e1 : (newCur s.too wr).cell? ⟨w.heap.size, 1, none⟩ = some (.int .i64 s.mc) := cell_below (alloc_below (Below.refl _ _) _) d1
          have HBW := hid hbw
          clear hbw
          cases q3 with
          | false =>
            have hx : x = false := by rw [← H.out, HQ.out]; simp
            subst hx
            go_wp2_with (go_at_call 56; (with_reducible refine (HC3.out _).mono ?_); rintro e w5 ⟨rfl, hB⟩; have HB5 := hid (newCur_below s.too hB); clear hB)
            go_ret
            exact ⟨rfl, HHW.out _ (HB4.out.trans ((newArr_below (HBW.out.trans (HB5.out.mono HBW.out.size))).mono HB4.out.size))⟩
          | true =>
            go_wp2_with (go_at_call 56; (with_reducible refine (HC3.out _).mono ?_); rintro e w5 ⟨rfl, hB⟩; have HB5 := hid (newCur_below s.too hB); clear hB)
            go_roundg (gk - 1)
            case measure => omega
            case rel => exact ⟨3, by rfl, by omega, by omega, HBW.out.trans (HB5.out.mono HBW.out.size), hid (by have := HP.out; simp_all)⟩
      · obtain rfl : i = 3 := by omega
        obtain ⟨rfl, rfl, rfl⟩ : q1 = true ∧ q2 = true ∧ q3 = true := ⟨HP.out.1 (by omega), HP.out.2.1 (by omega), HP.out.2.2 (by omega)⟩
        have hF : restOk s = x := by rw [← H.out, HQ.out]; simp
        obtain ⟨At, ct, rfl, -, -⟩ := (HTB.out w (Below.refl _ _)).open_
        obtain ⟨b1, hb1⟩ : ∃ v, marginsOk s = v := ⟨_, rfl⟩
        obtain ⟨b2, hb2⟩ : ∃ v, tabsOk s.tabs = v := ⟨_, rfl⟩
        obtain ⟨b3, hb3⟩ : ∃ v, ((s.tabs.length : Int) == s.mc) = v := ⟨_, rfl⟩
        obtain ⟨b4, hb4⟩ : ∃ v, decide (0 ≤ s.modes ∧ s.modes ≤ 1023) = v := ⟨_, rfl⟩
        obtain ⟨b5, hb5⟩ : ∃ v, titleOk s.title = v := ⟨_, rfl⟩
        obtain ⟨b6, hb6⟩ : ∃ v, (s.last == 0) = v := ⟨_, rfl⟩
        obtain ⟨y7, hy7⟩ : ∃ v, widthOf s.last = v := ⟨_, rfl⟩
        have hF2 : (b1 && b3 && b4 && b5 && (b6 || decide (0 < y7))) = x := by
          rw [← hF, restOk, hb1, ← hb3, hb4, hb5, ← hb6, hy7]
          rw [Bool.eq_iff_iff]; simp
        have h32 : b3 = true → b2 = true := fun h => by
          rw [← hb2, tabsOk]
          have : (s.tabs.length : Int) = s.mc := by rw [h] at hb3; simpa using hb3
          exact decide_eq_true (by omega)
        have HMG : Hid (∀ y : After wr, Calls Tryz.prog 57 #[.agg #[.int .i64 s.mr, .int .i64 s.mc, m, .int .i64 s.orr, .int .i64 s.oc, o, .bool s.sw, .int .i64 s.cur.row, .int .i64 s.cur.col, .bool s.cur.wrap, .int .i64 s.cur.a.fg, .int .i64 s.cur.a.bg, .int .i64 s.cur.a.fl, .int .i64 s.cur.g0, .int .i64 s.cur.g1, .int .i64 s.cur.sh, .bool s.cur.org, .int .i64 s.sav.row, .int .i64 s.sav.col, .bool s.sav.wrap, .int .i64 s.sav.a.fg, .int .i64 s.sav.a.bg, .int .i64 s.sav.a.fl, .int .i64 s.sav.g0, .int .i64 s.sav.g1, .int .i64 s.sav.sh, .bool s.sav.org, .int .i64 s.too.row, .int .i64 s.too.col, .bool s.too.wrap, .int .i64 s.too.a.fg, .int .i64 s.too.a.bg, .int .i64 s.too.a.fl, .int .i64 s.too.g0, .int .i64 s.too.g1, .int .i64 s.too.sh, .bool s.too.org, .int .i64 s.top, .int .i64 s.bot, (.slice At s.tabs.length ct), .int .i64 s.modes, .string s.title, .int .i64 s.last]] y.W _) := hid fun y => margins_is hb1 m o _ y.W
        have HTA : Hid (∀ y : After wr, Calls Tryz.prog 58 #[.slice At s.tabs.length ct] y.W _) := hid fun y => may_is hb2 At ct y.W (by omega)
        have HMO : Hid (∀ y : After wr, Calls Tryz.prog 59 #[.int .i64 s.modes] y.W _) := hid fun y => moded_is hb4 y.W
        have HTI : Hid (∀ y : After wr, Calls Tryz.prog 60 #[.string s.title] y.W _) := hid fun y => titled_is hb5 y.W l4 (HT.out _ (HHW.out _ (HBN.out.trans (y.h.mono HBN.out.size))))
        have HWI : Hid (∀ y : After wr, Calls Tryz.prog 61 #[.int .i64 s.last] y.W _) := hid fun y => of_is hy7 y.W
        have HF := hid hF2
        have H32 := hid h32
        have HH2 : ∀ W, Below wr.heap.size wr W → _ := fun W hW => HHS.out W (HBN.out.trans (hW.mono HBN.out.size))
        clear hF hF2 hb1 hb2 hb4 hb5 hy7 h32 hbw d0 d1
        have HC9 := hid HH2
        clear HH2
        go_upto_region 9 with (fail)
        refine reg9_is HF.out H32.out HMG.out HTA.out HMO.out HTI.out HWI.out HC9.out hb3 hb6 _ _ _ _ _ _ _ _ _ _ _ _ _ _ _ _ _ _ _ _ _ _ _ _ _ _ _ _ _ _ _ _ _ _ _ _ _ _ _ _ _ _ _ _ _ _ _ _ _ _ _ _ _ _ _ _ _ _ _ _ _ _ _ _ _ _ _ _ _ _ _ _ _ _ _ _ _ _ _ _ _ _ _ _ _ _ _ _ _ _ _ ?_
        rintro wz hBz v55 v56 v57 v58 v59 v60 v61 v62 v63 v64 v65 v66 v67 v68 v69 v70 v71 v72 v73 v74 v75 v76 v77 v78 v79 v80 v81 v82 v83 v84 v85 v86 v87 v88 v89 v90 v91
        have HBZ := hid (HHW.out _ (HBN.out.trans (hBz.mono HBN.out.size)))
        clear hBz
        go_wp2
        go_ret
        exact ⟨rfl, HBZ.out⟩
end Go.Proofs.YtpmfjombfcnhmaaGreatDoor
