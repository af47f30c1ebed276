/- A screen in memory of its own: one statement that calls thrice and stores thrice. -/
import Derived.Test.YtpmfjombfcnhmaaGreatDoorSCop
import Derived.Test.YtpmfjombfcnhmaaGreatDoorScrS
import Derived.Test.YtpmfjombfcnhmaaGreatDoorWLast
set_option linter.unusedVariables false
set_option linter.unusedSimpArgs false
namespace Go.Proofs.YtpmfjombfcnhmaaGreatDoor
open Go Go.RowKit Go.Proofs.YtpmfjombfcnhmaaGreatDoorW.PrintLast

theorem scr_g0 (s : Scr) (m o t : Value) (k : Nat) (v : Value) (hk : (#[.int .i64 s.mr, .int .i64 s.mc, m] : Array Value)[k]? = some v) : (#[.int .i64 s.mr, .int .i64 s.mc, m, .int .i64 s.orr, .int .i64 s.oc, o, .bool s.sw, .int .i64 s.cur.row, .int .i64 s.cur.col, .bool s.cur.wrap, .int .i64 s.cur.a.fg, .int .i64 s.cur.a.bg, .int .i64 s.cur.a.fl, .int .i64 s.cur.g0, .int .i64 s.cur.g1, .int .i64 s.cur.sh, .bool s.cur.org, .int .i64 s.sav.row, .int .i64 s.sav.col, .bool s.sav.wrap, .int .i64 s.sav.a.fg, .int .i64 s.sav.a.bg, .int .i64 s.sav.a.fl, .int .i64 s.sav.g0, .int .i64 s.sav.g1, .int .i64 s.sav.sh, .bool s.sav.org, .int .i64 s.too.row, .int .i64 s.too.col, .bool s.too.wrap, .int .i64 s.too.a.fg, .int .i64 s.too.a.bg, .int .i64 s.too.a.fl, .int .i64 s.too.g0, .int .i64 s.too.g1, .int .i64 s.too.sh, .bool s.too.org, .int .i64 s.top, .int .i64 s.bot, t, .int .i64 s.modes, .string s.title, .int .i64 s.last] : Array Value)[k]? = some v := by
  match k with
  | 0 | 1 | 2 => exact hk
  | k + 3 => simp at hk
theorem scr_g3 (s : Scr) (m o t : Value) (k : Nat) (v : Value) (hk : (#[.int .i64 s.orr, .int .i64 s.oc, o] : Array Value)[k]? = some v) : (#[.int .i64 s.mr, .int .i64 s.mc, m, .int .i64 s.orr, .int .i64 s.oc, o, .bool s.sw, .int .i64 s.cur.row, .int .i64 s.cur.col, .bool s.cur.wrap, .int .i64 s.cur.a.fg, .int .i64 s.cur.a.bg, .int .i64 s.cur.a.fl, .int .i64 s.cur.g0, .int .i64 s.cur.g1, .int .i64 s.cur.sh, .bool s.cur.org, .int .i64 s.sav.row, .int .i64 s.sav.col, .bool s.sav.wrap, .int .i64 s.sav.a.fg, .int .i64 s.sav.a.bg, .int .i64 s.sav.a.fl, .int .i64 s.sav.g0, .int .i64 s.sav.g1, .int .i64 s.sav.sh, .bool s.sav.org, .int .i64 s.too.row, .int .i64 s.too.col, .bool s.too.wrap, .int .i64 s.too.a.fg, .int .i64 s.too.a.bg, .int .i64 s.too.a.fl, .int .i64 s.too.g0, .int .i64 s.too.g1, .int .i64 s.too.sh, .bool s.too.org, .int .i64 s.top, .int .i64 s.bot, t, .int .i64 s.modes, .string s.title, .int .i64 s.last] : Array Value)[3 + k]? = some v := by
  match k with
  | 0 | 1 | 2 => exact hk
  | k + 3 => simp at hk
theorem loadG {r c : Int} {m : Value} {g q : Nat} {W : World} (h : ∀ (k : Nat) (v : Value), (#[.int .i64 r, .int .i64 c, m] : Array Value)[k]? = some v → W.cell? ⟨g, q + k, none⟩ = some v) :
    (Instr.loadAt 31 (.pointer (some ⟨g, q, none⟩))).run Tryz.prog W = .ok (.agg #[.int .i64 r, .int .i64 c, m]) W :=
  run_loadAt_mid W g q 31 [.int .i64 r, .int .i64 c, m] _ (fun j v hj => h j v (List.getElem?_toArray.trans hj)) Tryz.underlying31 rfl (by kernel_rfl)

theorem store_ {P : Program} {ops : Array Oper} {Q : Exit → Act → World → Prop} {oi : Oper} {a : Act} {w : World} {K : Act → World → Prop} (hw : Region.wanted oi (yielded ops a.tmps) = true) (hN : oi.dst = none) (ty : TypeId) (x y : Operand) (ho : oi.op = .store ty x y)
    (b o : Nat) (cells : Array Value) (hx : a.eval x = .pointer (some ⟨b, o, none⟩)) (hy : a.eval y = .agg cells) (ht : w.there b o cells.size) (hi : (P.info? ty).map (·.size) = some cells.size) (h1 : cells.all (·.oneCell') = true)
    (h : K a (w.setCells b o cells.toList)) : if Region.wanted oi (yielded ops a.tmps) = true then Oper.wp P oi a w K Q else K (a.put none undef) w := by
  rw [if_pos hw]
  refine wp_store_mid ty x y ho b o cells hx hy ht hi h1 ?_
  rw [hN]; exact h
theorem RowL.thereAt {w : World} {b o n : Nat} {t : TypeId} {l : List Value} (h : RowL w b t l) (hn : o + n ≤ l.length) : w.there b o n := fun j hj =>
  ⟨by rw [h.cell (o + j) _ (List.getElem?_eq_getElem (by omega))]; rfl, h.free _⟩

set_option maxHeartbeats 4000000 in
set_option maxRecDepth 100000 in
theorem ownS_any (s : Scr) (m o t : Value) (w : World) (hm : RdC w m s.ms) (ho : RdC w o s.os) (ht : RdB w t s.tabs) (hs : s.small) :
    Calls Tryz.prog 32 #[.agg #[.int .i64 s.mr, .int .i64 s.mc, m, .int .i64 s.orr, .int .i64 s.oc, o, .bool s.sw, .int .i64 s.cur.row, .int .i64 s.cur.col, .bool s.cur.wrap, .int .i64 s.cur.a.fg, .int .i64 s.cur.a.bg, .int .i64 s.cur.a.fl, .int .i64 s.cur.g0, .int .i64 s.cur.g1, .int .i64 s.cur.sh, .bool s.cur.org, .int .i64 s.sav.row, .int .i64 s.sav.col, .bool s.sav.wrap, .int .i64 s.sav.a.fg, .int .i64 s.sav.a.bg, .int .i64 s.sav.a.fl, .int .i64 s.sav.g0, .int .i64 s.sav.g1, .int .i64 s.sav.sh, .bool s.sav.org, .int .i64 s.too.row, .int .i64 s.too.col, .bool s.too.wrap, .int .i64 s.too.a.fg, .int .i64 s.too.a.bg, .int .i64 s.too.a.fl, .int .i64 s.too.g0, .int .i64 s.too.g1, .int .i64 s.too.sh, .bool s.too.org, .int .i64 s.top, .int .i64 s.bot, t, .int .i64 s.modes, .string s.title, .int .i64 s.last]] w fun e w' => ∃ m' o' t', e = .returned (.agg #[.int .i64 s.mr, .int .i64 s.mc, m', .int .i64 s.orr, .int .i64 s.oc, o', .bool s.sw, .int .i64 s.cur.row, .int .i64 s.cur.col, .bool s.cur.wrap, .int .i64 s.cur.a.fg, .int .i64 s.cur.a.bg, .int .i64 s.cur.a.fl, .int .i64 s.cur.g0, .int .i64 s.cur.g1, .int .i64 s.cur.sh, .bool s.cur.org, .int .i64 s.sav.row, .int .i64 s.sav.col, .bool s.sav.wrap, .int .i64 s.sav.a.fg, .int .i64 s.sav.a.bg, .int .i64 s.sav.a.fl, .int .i64 s.sav.g0, .int .i64 s.sav.g1, .int .i64 s.sav.sh, .bool s.sav.org, .int .i64 s.too.row, .int .i64 s.too.col, .bool s.too.wrap, .int .i64 s.too.a.fg, .int .i64 s.too.a.bg, .int .i64 s.too.a.fl, .int .i64 s.too.g0, .int .i64 s.too.g1, .int .i64 s.too.sh, .bool s.too.org, .int .i64 s.top, .int .i64 s.bot, t', .int .i64 s.modes, .string s.title, .int .i64 s.last]) ∧ OwnC w' w.heap.size m' s.ms ∧ OwnC w' w.heap.size o' s.os ∧ OwnB w' w.heap.size t' s.tabs ∧ Below w.heap.size w w' ∧ apartV m' o' ∧ apartV m' t' ∧ apartV o' t' := by
  obtain ⟨l1, l2, l3, l4, l5, l6⟩ := hs
  obtain ⟨Am, km, rfl, -, -⟩ := hm.open_
  obtain ⟨Ao, ko, rfl, -, -⟩ := ho.open_
  obtain ⟨At, kt, rfl, -, -⟩ := ht.open_
  have HM : Hid (∀ W, Below w.heap.size w W → Calls Tryz.prog 63 #[.agg #[.int .i64 s.mr, .int .i64 s.mc, .slice Am s.ms.length km]] W _) := hid fun W hW => ownG_any _ _ _ _ W (hm.below hW) l1
  have HO : Hid (∀ W, Below w.heap.size w W → Calls Tryz.prog 63 #[.agg #[.int .i64 s.orr, .int .i64 s.oc, .slice Ao s.os.length ko]] W _) := hid fun W hW => ownG_any _ _ _ _ W (ho.below hW) l2
  have HT : Hid (∀ W, Below w.heap.size w W → Calls Tryz.prog 64 #[.slice At s.tabs.length kt] W _) := hid fun W hW => cloneB_any _ _ W (ht.below hW) (by omega)
  obtain ⟨wA, hwA⟩ : ∃ wA, wA = ((w.alloc (.cells #[.int .i64 s.mr, .int .i64 s.mc, (.slice Am s.ms.length km), .int .i64 s.orr, .int .i64 s.oc, (.slice Ao s.os.length ko), .bool s.sw, .int .i64 s.cur.row, .int .i64 s.cur.col, .bool s.cur.wrap, .int .i64 s.cur.a.fg, .int .i64 s.cur.a.bg, .int .i64 s.cur.a.fl, .int .i64 s.cur.g0, .int .i64 s.cur.g1, .int .i64 s.cur.sh, .bool s.cur.org, .int .i64 s.sav.row, .int .i64 s.sav.col, .bool s.sav.wrap, .int .i64 s.sav.a.fg, .int .i64 s.sav.a.bg, .int .i64 s.sav.a.fl, .int .i64 s.sav.g0, .int .i64 s.sav.g1, .int .i64 s.sav.sh, .bool s.sav.org, .int .i64 s.too.row, .int .i64 s.too.col, .bool s.too.wrap, .int .i64 s.too.a.fg, .int .i64 s.too.a.bg, .int .i64 s.too.a.fl, .int .i64 s.too.g0, .int .i64 s.too.g1, .int .i64 s.too.sh, .bool s.too.org, .int .i64 s.top, .int .i64 s.bot, (.slice At s.tabs.length kt), .int .i64 s.modes, .string s.title, .int .i64 s.last] 38)).alloc (.cells #[.int .i64 0, .int .i64 0, .slice none 0 0, .int .i64 0, .int .i64 0, .slice none 0 0, .bool false, .int .i64 0, .int .i64 0, .bool false, .int .i64 0, .int .i64 0, .int .i64 0, .int .i64 0, .int .i64 0, .int .i64 0, .bool false, .int .i64 0, .int .i64 0, .bool false, .int .i64 0, .int .i64 0, .int .i64 0, .int .i64 0, .int .i64 0, .int .i64 0, .bool false, .int .i64 0, .int .i64 0, .bool false, .int .i64 0, .int .i64 0, .int .i64 0, .int .i64 0, .int .i64 0, .int .i64 0, .bool false, .int .i64 0, .int .i64 0, .slice none 0 0, .int .i64 0, .string ⟨#[]⟩, .int .i64 0] 38)) := ⟨_, rfl⟩
  have r0 : RowL wA w.heap.size 38 [.int .i64 s.mr, .int .i64 s.mc, (.slice Am s.ms.length km), .int .i64 s.orr, .int .i64 s.oc, (.slice Ao s.os.length ko), .bool s.sw, .int .i64 s.cur.row, .int .i64 s.cur.col, .bool s.cur.wrap, .int .i64 s.cur.a.fg, .int .i64 s.cur.a.bg, .int .i64 s.cur.a.fl, .int .i64 s.cur.g0, .int .i64 s.cur.g1, .int .i64 s.cur.sh, .bool s.cur.org, .int .i64 s.sav.row, .int .i64 s.sav.col, .bool s.sav.wrap, .int .i64 s.sav.a.fg, .int .i64 s.sav.a.bg, .int .i64 s.sav.a.fl, .int .i64 s.sav.g0, .int .i64 s.sav.g1, .int .i64 s.sav.sh, .bool s.sav.org, .int .i64 s.too.row, .int .i64 s.too.col, .bool s.too.wrap, .int .i64 s.too.a.fg, .int .i64 s.too.a.bg, .int .i64 s.too.a.fl, .int .i64 s.too.g0, .int .i64 s.too.g1, .int .i64 s.too.sh, .bool s.too.org, .int .i64 s.top, .int .i64 s.bot, (.slice At s.tabs.length kt), .int .i64 s.modes, .string s.title, .int .i64 s.last] := by
    rw [hwA]; exact (RowL.new w 38 _).below (alloc_below (Below.refl _ _) _)
  have r1 : RowL wA (w.heap.size + 1) 38 zeroL := by
    rw [hwA]
    have h := RowL.new (w.alloc (.cells #[.int .i64 s.mr, .int .i64 s.mc, (.slice Am s.ms.length km), .int .i64 s.orr, .int .i64 s.oc, (.slice Ao s.os.length ko), .bool s.sw, .int .i64 s.cur.row, .int .i64 s.cur.col, .bool s.cur.wrap, .int .i64 s.cur.a.fg, .int .i64 s.cur.a.bg, .int .i64 s.cur.a.fl, .int .i64 s.cur.g0, .int .i64 s.cur.g1, .int .i64 s.cur.sh, .bool s.cur.org, .int .i64 s.sav.row, .int .i64 s.sav.col, .bool s.sav.wrap, .int .i64 s.sav.a.fg, .int .i64 s.sav.a.bg, .int .i64 s.sav.a.fl, .int .i64 s.sav.g0, .int .i64 s.sav.g1, .int .i64 s.sav.sh, .bool s.sav.org, .int .i64 s.too.row, .int .i64 s.too.col, .bool s.too.wrap, .int .i64 s.too.a.fg, .int .i64 s.too.a.bg, .int .i64 s.too.a.fl, .int .i64 s.too.g0, .int .i64 s.too.g1, .int .i64 s.too.sh, .bool s.too.org, .int .i64 s.top, .int .i64 s.bot, (.slice At s.tabs.length kt), .int .i64 s.modes, .string s.title, .int .i64 s.last] 38)) 38 #[.int .i64 0, .int .i64 0, .slice none 0 0, .int .i64 0, .int .i64 0, .slice none 0 0, .bool false, .int .i64 0, .int .i64 0, .bool false, .int .i64 0, .int .i64 0, .int .i64 0, .int .i64 0, .int .i64 0, .int .i64 0, .bool false, .int .i64 0, .int .i64 0, .bool false, .int .i64 0, .int .i64 0, .int .i64 0, .int .i64 0, .int .i64 0, .int .i64 0, .bool false, .int .i64 0, .int .i64 0, .bool false, .int .i64 0, .int .i64 0, .int .i64 0, .int .i64 0, .int .i64 0, .int .i64 0, .bool false, .int .i64 0, .int .i64 0, .slice none 0 0, .int .i64 0, .string ⟨#[]⟩, .int .i64 0]
    have hsz : (w.alloc (.cells #[.int .i64 s.mr, .int .i64 s.mc, (.slice Am s.ms.length km), .int .i64 s.orr, .int .i64 s.oc, (.slice Ao s.os.length ko), .bool s.sw, .int .i64 s.cur.row, .int .i64 s.cur.col, .bool s.cur.wrap, .int .i64 s.cur.a.fg, .int .i64 s.cur.a.bg, .int .i64 s.cur.a.fl, .int .i64 s.cur.g0, .int .i64 s.cur.g1, .int .i64 s.cur.sh, .bool s.cur.org, .int .i64 s.sav.row, .int .i64 s.sav.col, .bool s.sav.wrap, .int .i64 s.sav.a.fg, .int .i64 s.sav.a.bg, .int .i64 s.sav.a.fl, .int .i64 s.sav.g0, .int .i64 s.sav.g1, .int .i64 s.sav.sh, .bool s.sav.org, .int .i64 s.too.row, .int .i64 s.too.col, .bool s.too.wrap, .int .i64 s.too.a.fg, .int .i64 s.too.a.bg, .int .i64 s.too.a.fl, .int .i64 s.too.g0, .int .i64 s.too.g1, .int .i64 s.too.sh, .bool s.too.org, .int .i64 s.top, .int .i64 s.bot, (.slice At s.tabs.length kt), .int .i64 s.modes, .string s.title, .int .i64 s.last] 38)).heap.size = w.heap.size + 1 := by simp
    rw [hsz] at h
    exact h
  have hzA : wA.heap.size = w.heap.size + 1 + 1 := by rw [hwA]; simp
  have hbA : Below w.heap.size w wA := by rw [hwA]; exact alloc_below (alloc_below (Below.refl _ _) _) _
  have HWA := hid hwA
  have R0 := hid r0
  have R1 := hid r1
  have HZA := hid hzA
  have HBA := hid hbA
  clear hwA r0 r1 hzA hbA hm ho ht
  go_enter Tryz.func32, Tryz.ntmps32
  go_upto_region 1 with (fail)
  change Code.wp _ _ _ _ ((w.alloc (.cells #[.int .i64 s.mr, .int .i64 s.mc, (.slice Am s.ms.length km), .int .i64 s.orr, .int .i64 s.oc, (.slice Ao s.os.length ko), .bool s.sw, .int .i64 s.cur.row, .int .i64 s.cur.col, .bool s.cur.wrap, .int .i64 s.cur.a.fg, .int .i64 s.cur.a.bg, .int .i64 s.cur.a.fl, .int .i64 s.cur.g0, .int .i64 s.cur.g1, .int .i64 s.cur.sh, .bool s.cur.org, .int .i64 s.sav.row, .int .i64 s.sav.col, .bool s.sav.wrap, .int .i64 s.sav.a.fg, .int .i64 s.sav.a.bg, .int .i64 s.sav.a.fl, .int .i64 s.sav.g0, .int .i64 s.sav.g1, .int .i64 s.sav.sh, .bool s.sav.org, .int .i64 s.too.row, .int .i64 s.too.col, .bool s.too.wrap, .int .i64 s.too.a.fg, .int .i64 s.too.a.bg, .int .i64 s.too.a.fl, .int .i64 s.too.g0, .int .i64 s.too.g1, .int .i64 s.too.sh, .bool s.too.org, .int .i64 s.top, .int .i64 s.bot, (.slice At s.tabs.length kt), .int .i64 s.modes, .string s.title, .int .i64 s.last] 38)).alloc (.cells #[.int .i64 0, .int .i64 0, .slice none 0 0, .int .i64 0, .int .i64 0, .slice none 0 0, .bool false, .int .i64 0, .int .i64 0, .bool false, .int .i64 0, .int .i64 0, .int .i64 0, .int .i64 0, .int .i64 0, .int .i64 0, .bool false, .int .i64 0, .int .i64 0, .bool false, .int .i64 0, .int .i64 0, .int .i64 0, .int .i64 0, .int .i64 0, .int .i64 0, .bool false, .int .i64 0, .int .i64 0, .bool false, .int .i64 0, .int .i64 0, .int .i64 0, .int .i64 0, .int .i64 0, .int .i64 0, .bool false, .int .i64 0, .int .i64 0, .slice none 0 0, .int .i64 0, .string ⟨#[]⟩, .int .i64 0] 38))
  rw [← HWA.out]
  refine start_ (n := 15) (S := fun W => ∀ (k : Nat) (v : Value), (#[.int .i64 s.mr, .int .i64 s.mc, (.slice Am s.ms.length km), .int .i64 s.orr, .int .i64 s.oc, (.slice Ao s.os.length ko), .bool s.sw, .int .i64 s.cur.row, .int .i64 s.cur.col, .bool s.cur.wrap, .int .i64 s.cur.a.fg, .int .i64 s.cur.a.bg, .int .i64 s.cur.a.fl, .int .i64 s.cur.g0, .int .i64 s.cur.g1, .int .i64 s.cur.sh, .bool s.cur.org, .int .i64 s.sav.row, .int .i64 s.sav.col, .bool s.sav.wrap, .int .i64 s.sav.a.fg, .int .i64 s.sav.a.bg, .int .i64 s.sav.a.fl, .int .i64 s.sav.g0, .int .i64 s.sav.g1, .int .i64 s.sav.sh, .bool s.sav.org, .int .i64 s.too.row, .int .i64 s.too.col, .bool s.too.wrap, .int .i64 s.too.a.fg, .int .i64 s.too.a.bg, .int .i64 s.too.a.fl, .int .i64 s.too.g0, .int .i64 s.too.g1, .int .i64 s.too.sh, .bool s.too.org, .int .i64 s.top, .int .i64 s.bot, (.slice At s.tabs.length kt), .int .i64 s.modes, .string s.title, .int .i64 s.last] : Array Value)[k]? = some v → W.cell? ⟨w.heap.size, k, none⟩ = some v) (ds := [10, 12, 14]) #[false, false, false, false, false, false, false, false, false, false, false, false, false, false, false] (by kernel_rfl) rfl rfl (fun k v hk => (R0.out.below (Below.refl _ _).drew).cell k v (List.getElem?_toArray.symm.trans hk)) (fun hHeld => ?_)
  refine pure_ (i := 0) (N := some 3) (a' := ?_) (v := .pointer (some ⟨w.heap.size, 0, none⟩)) #[true, false, false, false, false, false, false, false, false, false, false, false, false, false, false] rfl rfl (by kernel_rfl) (fun _ _ _ h => h) (Or.inl ⟨by rfl, fun w' => by go_simp⟩) ?_ ?_
  rotate_left
  · simp only [Act.put, List.setIfInBounds_toArray, List.set_cons_zero, List.set_cons_succ]
    rfl
  refine pure_ (i := 3) (N := some 6) (a' := ?_) (v := .pointer (some ⟨w.heap.size, 3, none⟩)) #[true, false, false, true, false, false, false, false, false, false, false, false, false, false, false] rfl rfl (by kernel_rfl) (fun _ _ _ h => h) (Or.inl ⟨by rfl, fun w' => by go_simp⟩) ?_ ?_
  rotate_left
  · simp only [Act.put, List.setIfInBounds_toArray, List.set_cons_zero, List.set_cons_succ]
    rfl
  refine pure_ (i := 6) (N := some 9) (a' := ?_) (v := .pointer (some ⟨w.heap.size, 39, none⟩)) #[true, false, false, true, false, false, true, false, false, false, false, false, false, false, false] rfl rfl (by kernel_rfl) (fun _ _ _ h => h) (Or.inl ⟨by rfl, fun w' => by go_simp⟩) ?_ ?_
  rotate_left
  · simp only [Act.put, List.setIfInBounds_toArray, List.set_cons_zero, List.set_cons_succ]
    rfl
  refine take_ (i := 1) (N := some 4) (a' := ?_) #[true, true, false, true, false, false, true, false, false, false, false, false, false, false, false] rfl rfl (by kernel_rfl) (fun _ _ _ h => h) (yieldsIf_load_mid (by rfl) 31 _ rfl w.heap.size 0 rfl [.int .i64 s.mr, .int .i64 s.mc, (.slice Am s.ms.length km)] _ (fun w' hS k v hk => by rw [Nat.zero_add]; exact hS _ _ (scr_g0 s _ _ _ k v (List.getElem?_toArray.trans hk))) Tryz.underlying31 rfl (by kernel_rfl)) hHeld ?_ ?_
  rotate_left
  · simp only [Act.put, List.setIfInBounds_toArray, List.set_cons_zero, List.set_cons_succ]
    rfl
  refine take_ (i := 4) (N := some 7) (a' := ?_) #[true, true, false, true, true, false, true, false, false, false, false, false, false, false, false] rfl rfl (by kernel_rfl) (fun _ _ _ h => h) (yieldsIf_load_mid (by rfl) 31 _ rfl w.heap.size 3 rfl [.int .i64 s.orr, .int .i64 s.oc, (.slice Ao s.os.length ko)] _ (fun w' hS k v hk => hS _ _ (scr_g3 s _ _ _ k v (List.getElem?_toArray.trans hk))) Tryz.underlying31 rfl (by kernel_rfl)) hHeld ?_ ?_
  rotate_left
  · simp only [Act.put, List.setIfInBounds_toArray, List.set_cons_zero, List.set_cons_succ]
    rfl
  refine take_ (i := 7) (N := some 10) (a' := ?_) (v := (.slice At s.tabs.length kt)) #[true, true, false, true, true, false, true, true, false, false, false, false, false, false, false] rfl rfl (by kernel_rfl) (fun _ _ _ h => h) (Or.inl ⟨by rfl, fun w' hS => by have h39 : w'.cell? ⟨w.heap.size, 39, none⟩ = some (.slice At s.tabs.length kt) := hS 39 _ rfl; go_simp⟩) hHeld ?_ ?_
  rotate_left
  · simp only [Act.put, List.setIfInBounds_toArray, List.set_cons_zero, List.set_cons_succ]
    rfl
  refine one_ (i := 2) (N := some 5) #[true, true, true, true, true, false, true, true, false, false, false, false, false, false, false] rfl rfl (by kernel_rfl) (by decide) (fun K hK => ?_)
  refine goes_ Tryz.func63 (by kernel_rfl) rfl #[.agg #[.int .i64 s.mr, .int .i64 s.mc, (.slice Am s.ms.length km)]] (by rfl) rfl rfl (by simp only [List.map_toArray, List.map_cons, List.map_nil]; rfl) ?_
  refine (HM.out _ (HBA.out.drew)).mono ?_
  rintro e w1 ⟨v', rfl, hO, hB⟩
  obtain ⟨Am', km', rfl⟩ := hO.slice
  have HO1 := hid hO
  have HB1 := hid (after HBA.out.drew hB)
  have HD1 := hid hB
  refine ⟨_, rfl, hK.out _ _ (fun k v hk => cell_below hB (hHeld k v hk)) (fun hHeld => ?_)⟩
  clear hK K
  refine norm_ (a' := ?_) ?_ ?_
  rotate_left
  · simp only [Act.put, List.setIfInBounds_toArray, List.set_cons_zero, List.set_cons_succ]
    rfl
  refine pure_ (i := 9) (N := some 12) (a' := ?_) (v := .pointer (some ⟨w.heap.size, 0, none⟩)) #[true, true, true, true, true, false, true, true, false, true, false, false, false, false, false] rfl rfl (by kernel_rfl) (fun _ _ _ h => h) (Or.inl ⟨by rfl, fun w' => by go_simp⟩) ?_ ?_
  rotate_left
  · simp only [Act.put, List.setIfInBounds_toArray, List.set_cons_zero, List.set_cons_succ]
    rfl
  refine one_ (i := 5) (N := some 8) #[true, true, true, true, true, true, true, true, false, true, false, false, false, false, false] rfl rfl (by kernel_rfl) (by decide) (fun K hK => ?_)
  refine goes_ Tryz.func63 (by kernel_rfl) rfl #[.agg #[.int .i64 s.orr, .int .i64 s.oc, (.slice Ao s.os.length ko)]] (by rfl) rfl rfl (by simp only [List.map_toArray, List.map_cons, List.map_nil]; rfl) ?_
  refine (HO.out _ HB1.out).mono ?_
  rintro e w2 ⟨v', rfl, hO, hB⟩
  obtain ⟨Ao', ko', rfl⟩ := hO.slice
  have HO2 := hid hO
  have HB2 := hid (after HB1.out hB)
  have HD2 := hid hB
  refine ⟨_, rfl, hK.out _ _ (fun k v hk => cell_below hB (hHeld k v hk)) (fun hHeld => ?_)⟩
  clear hK K
  refine norm_ (a' := ?_) ?_ ?_
  rotate_left
  · simp only [Act.put, List.setIfInBounds_toArray, List.set_cons_zero, List.set_cons_succ]
    rfl
  refine one_ (i := 8) (N := some 11) #[true, true, true, true, true, true, true, true, true, true, false, false, false, false, false] rfl rfl (by kernel_rfl) (by decide) (fun K hK => ?_)
  refine goes_ Tryz.func64 (by kernel_rfl) rfl #[(.slice At s.tabs.length kt)] (by rfl) rfl rfl (by simp only [List.map_toArray, List.map_cons, List.map_nil]; rfl) ?_
  refine (HT.out _ HB2.out).mono ?_
  rintro e w3 ⟨v', rfl, hO, hB⟩
  obtain ⟨At', kt', rfl⟩ := ownB_slice hO
  have HO3 := hid hO
  have HB3 := hid (after HB2.out hB)
  have HD3 := hid hB
  refine ⟨_, rfl, hK.out _ _ (fun k v hk => cell_below hB (hHeld k v hk)) (fun hHeld => ?_)⟩
  clear hK K
  refine norm_ (a' := ?_) ?_ ?_
  rotate_left
  · simp only [Act.put, List.setIfInBounds_toArray, List.set_cons_zero, List.set_cons_succ]
    rfl
  have hR0 : RowL w3 w.heap.size 38 [.int .i64 s.mr, .int .i64 s.mc, (.slice Am s.ms.length km), .int .i64 s.orr, .int .i64 s.oc, (.slice Ao s.os.length ko), .bool s.sw, .int .i64 s.cur.row, .int .i64 s.cur.col, .bool s.cur.wrap, .int .i64 s.cur.a.fg, .int .i64 s.cur.a.bg, .int .i64 s.cur.a.fl, .int .i64 s.cur.g0, .int .i64 s.cur.g1, .int .i64 s.cur.sh, .bool s.cur.org, .int .i64 s.sav.row, .int .i64 s.sav.col, .bool s.sav.wrap, .int .i64 s.sav.a.fg, .int .i64 s.sav.a.bg, .int .i64 s.sav.a.fl, .int .i64 s.sav.g0, .int .i64 s.sav.g1, .int .i64 s.sav.sh, .bool s.sav.org, .int .i64 s.too.row, .int .i64 s.too.col, .bool s.too.wrap, .int .i64 s.too.a.fg, .int .i64 s.too.a.bg, .int .i64 s.too.a.fl, .int .i64 s.too.g0, .int .i64 s.too.g1, .int .i64 s.too.sh, .bool s.too.org, .int .i64 s.top, .int .i64 s.bot, (.slice At s.tabs.length kt), .int .i64 s.modes, .string s.title, .int .i64 s.last] := (((R0.out.below (Below.refl _ _).drew).below HD1.out).below HD2.out).below HD3.out
  have RB0 := hid hR0
  clear hR0
  refine last_ (i := 10) (N := none) #[true, true, true, true, true, true, true, true, true, true, true, false, false, false, false] rfl rfl (by kernel_rfl) (by decide) (fun K hK => ?_)
  refine store_ (by rfl) rfl 31 _ _ rfl w.heap.size 0 (#[.int .i64 s.mr, .int .i64 s.mc, (.slice Am' s.ms.length km')]) rfl rfl (RB0.out.thereAt (Nat.le_of_ble_eq_true rfl)) (by kernel_rfl) (by rw [List.all_toArray]; rfl) (hK.out _ _ ?_)
  clear hK K
  generalize hw_ : World.setCells _ _ _ _ = w4
  have RB4 : Hid (RowL w4 w.heap.size 38 [.int .i64 s.mr, .int .i64 s.mc, (.slice Am' s.ms.length km'), .int .i64 s.orr, .int .i64 s.oc, (.slice Ao s.os.length ko), .bool s.sw, .int .i64 s.cur.row, .int .i64 s.cur.col, .bool s.cur.wrap, .int .i64 s.cur.a.fg, .int .i64 s.cur.a.bg, .int .i64 s.cur.a.fl, .int .i64 s.cur.g0, .int .i64 s.cur.g1, .int .i64 s.cur.sh, .bool s.cur.org, .int .i64 s.sav.row, .int .i64 s.sav.col, .bool s.sav.wrap, .int .i64 s.sav.a.fg, .int .i64 s.sav.a.bg, .int .i64 s.sav.a.fl, .int .i64 s.sav.g0, .int .i64 s.sav.g1, .int .i64 s.sav.sh, .bool s.sav.org, .int .i64 s.too.row, .int .i64 s.too.col, .bool s.too.wrap, .int .i64 s.too.a.fg, .int .i64 s.too.a.bg, .int .i64 s.too.a.fl, .int .i64 s.too.g0, .int .i64 s.too.g1, .int .i64 s.too.sh, .bool s.too.org, .int .i64 s.top, .int .i64 s.bot, (.slice At s.tabs.length kt), .int .i64 s.modes, .string s.title, .int .i64 s.last]) := hid (by rw [← hw_]; exact ((RB0.out.set 0 _).set 1 _).set 2 _)
  have Hw4 : Hid (World.grownBy w3 w4 (some w.heap.size)) := hid (by rw [← hw_]; exact grown_setCells _ _ _)
  clear hw_
  refine pure_ (i := 11) (N := some 13) (a' := ?_) (v := .pointer (some ⟨w.heap.size, 3, none⟩)) #[true, true, true, true, true, true, true, true, true, true, true, true, false, false, false] rfl rfl (by kernel_rfl) (fun _ _ _ h => h) (Or.inl ⟨by rfl, fun w' => by go_simp⟩) ?_ ?_
  rotate_left
  · simp only [Act.put, List.setIfInBounds_toArray, List.set_cons_zero, List.set_cons_succ]
    rfl
  refine last_ (i := 12) (N := none) #[true, true, true, true, true, true, true, true, true, true, true, true, true, false, false] rfl rfl (by kernel_rfl) (by decide) (fun K hK => ?_)
  refine store_ (by rfl) rfl 31 _ _ rfl w.heap.size 3 (#[.int .i64 s.orr, .int .i64 s.oc, (.slice Ao' s.os.length ko')]) rfl rfl (RB4.out.thereAt (Nat.le_of_ble_eq_true rfl)) (by kernel_rfl) (by rw [List.all_toArray]; rfl) (hK.out _ _ ?_)
  clear hK K
  generalize hw_ : World.setCells _ _ _ _ = w5
  have RB5 : Hid (RowL w5 w.heap.size 38 [.int .i64 s.mr, .int .i64 s.mc, (.slice Am' s.ms.length km'), .int .i64 s.orr, .int .i64 s.oc, (.slice Ao' s.os.length ko'), .bool s.sw, .int .i64 s.cur.row, .int .i64 s.cur.col, .bool s.cur.wrap, .int .i64 s.cur.a.fg, .int .i64 s.cur.a.bg, .int .i64 s.cur.a.fl, .int .i64 s.cur.g0, .int .i64 s.cur.g1, .int .i64 s.cur.sh, .bool s.cur.org, .int .i64 s.sav.row, .int .i64 s.sav.col, .bool s.sav.wrap, .int .i64 s.sav.a.fg, .int .i64 s.sav.a.bg, .int .i64 s.sav.a.fl, .int .i64 s.sav.g0, .int .i64 s.sav.g1, .int .i64 s.sav.sh, .bool s.sav.org, .int .i64 s.too.row, .int .i64 s.too.col, .bool s.too.wrap, .int .i64 s.too.a.fg, .int .i64 s.too.a.bg, .int .i64 s.too.a.fl, .int .i64 s.too.g0, .int .i64 s.too.g1, .int .i64 s.too.sh, .bool s.too.org, .int .i64 s.top, .int .i64 s.bot, (.slice At s.tabs.length kt), .int .i64 s.modes, .string s.title, .int .i64 s.last]) := hid (by rw [← hw_]; exact ((RB4.out.set 3 _).set 4 _).set 5 _)
  have Hw5 : Hid (World.grownBy w4 w5 (some w.heap.size)) := hid (by rw [← hw_]; exact grown_setCells _ _ _)
  clear hw_
  refine pure_ (i := 13) (N := some 14) (a' := ?_) (v := .pointer (some ⟨w.heap.size, 39, none⟩)) #[true, true, true, true, true, true, true, true, true, true, true, true, true, true, false] rfl rfl (by kernel_rfl) (fun _ _ _ h => h) (Or.inl ⟨by rfl, fun w' => by go_simp⟩) ?_ ?_
  rotate_left
  · simp only [Act.put, List.setIfInBounds_toArray, List.set_cons_zero, List.set_cons_succ]
    rfl
  refine last_ (i := 14) (N := none) #[true, true, true, true, true, true, true, true, true, true, true, true, true, true, true] rfl rfl (by kernel_rfl) (by decide) (fun K hK => ?_)
  have c39 : w5.cell? ⟨w.heap.size, 39, none⟩ = some (.slice At s.tabs.length kt) := RB5.out.cell 39 _ rfl
  have f39 := RB5.out.free 39
  refine skip_ (w1 := w5.setCell ⟨w.heap.size, 39, none⟩ (.slice At' s.tabs.length kt')) (by rfl) rfl (by go_simp) (hK.out _ _ ?_)
  clear hK K
  generalize hw_ : World.setCell _ _ _ = w6
  have RB6 : Hid (RowL w6 w.heap.size 38 [.int .i64 s.mr, .int .i64 s.mc, (.slice Am' s.ms.length km'), .int .i64 s.orr, .int .i64 s.oc, (.slice Ao' s.os.length ko'), .bool s.sw, .int .i64 s.cur.row, .int .i64 s.cur.col, .bool s.cur.wrap, .int .i64 s.cur.a.fg, .int .i64 s.cur.a.bg, .int .i64 s.cur.a.fl, .int .i64 s.cur.g0, .int .i64 s.cur.g1, .int .i64 s.cur.sh, .bool s.cur.org, .int .i64 s.sav.row, .int .i64 s.sav.col, .bool s.sav.wrap, .int .i64 s.sav.a.fg, .int .i64 s.sav.a.bg, .int .i64 s.sav.a.fl, .int .i64 s.sav.g0, .int .i64 s.sav.g1, .int .i64 s.sav.sh, .bool s.sav.org, .int .i64 s.too.row, .int .i64 s.too.col, .bool s.too.wrap, .int .i64 s.too.a.fg, .int .i64 s.too.a.bg, .int .i64 s.too.a.fl, .int .i64 s.too.g0, .int .i64 s.too.g1, .int .i64 s.too.sh, .bool s.too.org, .int .i64 s.top, .int .i64 s.bot, (.slice At' s.tabs.length kt'), .int .i64 s.modes, .string s.title, .int .i64 s.last]) := hid (by rw [← hw_]; exact RB5.out.set 39 _)
  have Hw6 : Hid (World.grownBy w5 w6 (some w.heap.size)) := hid (by rw [← hw_]; exact grown_set _ _ _ _)
  clear hw_ c39 f39
  refine done_ (by kernel_rfl) ?_
  have hzA := HZA.out
  have hd : wA.drew.heap.size = wA.heap.size := rfl
  have z1 := HD1.out.size
  have z2 := HD2.out.size
  have z3 := HD3.out.size
  have g36 : w3.grownBy w6 (some w.heap.size) := grown_trans (grown_trans Hw4.out Hw5.out) Hw6.out
  have q1 : RowL w6 (w.heap.size + 1) 38 zeroL := World.rowIs.of_block ((((R1.out.below (Below.refl _ _).drew).below HD1.out).below HD2.out).below HD3.out) (g36.block _ ((((R1.out.below (Below.refl _ _).drew).below HD1.out).below HD2.out).below HD3.out).lt (by simp))
  have om : OwnC w6 (w.heap.size + 1 + 1) (.slice Am' s.ms.length km') s.ms := own_grown (OwnC.lower ((HO1.out.below HD2.out).below HD3.out) (by omega)) g36 (by omega)
  have oo : OwnC w6 (w.heap.size + 1 + 1) (.slice Ao' s.os.length ko') s.os := own_grown (OwnC.lower (HO2.out.below HD3.out) (by omega)) g36 (by omega)
  have ot : OwnB w6 (w.heap.size + 1 + 1) (.slice At' s.tabs.length kt') s.tabs := own_grown (ownB_lower (w' := w) HO3.out (by omega)) g36 (by omega)
  have AMO : Hid (apartV (.slice Am' s.ms.length km') (.slice Ao' s.os.length ko')) := hid (apart_of HO1.out HO2.out (Nat.le_refl _))
  have AMT : Hid (apartV (.slice Am' s.ms.length km') (.slice At' s.tabs.length kt')) := hid (apart_of HO1.out HO3.out (by omega))
  have AOT : Hid (apartV (.slice Ao' s.os.length ko') (.slice At' s.tabs.length kt')) := hid (apart_of HO2.out HO3.out (Nat.le_refl _))
  have hb6 : Below w.heap.size w w6 := below_of_grown HB3.out g36 (fun k hk => by cases hk; exact Nat.le_refl _)
  have Q1 := hid q1
  have OM := hid om
  have OO := hid oo
  have OT := hid ot
  have HB6 := hid hb6
  clear hzA hd z1 z2 z3 g36 q1 om oo ot hb6 hHeld RB0 RB4 RB5 Hw4 Hw5 Hw6 HO1 HO2 HO3 HB1 HB2 HB3 HD1 HD2 HD3
  go_upto_region 2 with (fail)
  refine wp_region_lit ?_
  refine wpList_load_mid rfl 38 _ rfl w.heap.size 0 rfl [.int .i64 s.mr, .int .i64 s.mc, (.slice Am' s.ms.length km'), .int .i64 s.orr, .int .i64 s.oc, (.slice Ao' s.os.length ko'), .bool s.sw, .int .i64 s.cur.row, .int .i64 s.cur.col, .bool s.cur.wrap, .int .i64 s.cur.a.fg, .int .i64 s.cur.a.bg, .int .i64 s.cur.a.fl, .int .i64 s.cur.g0, .int .i64 s.cur.g1, .int .i64 s.cur.sh, .bool s.cur.org, .int .i64 s.sav.row, .int .i64 s.sav.col, .bool s.sav.wrap, .int .i64 s.sav.a.fg, .int .i64 s.sav.a.bg, .int .i64 s.sav.a.fl, .int .i64 s.sav.g0, .int .i64 s.sav.g1, .int .i64 s.sav.sh, .bool s.sav.org, .int .i64 s.too.row, .int .i64 s.too.col, .bool s.too.wrap, .int .i64 s.too.a.fg, .int .i64 s.too.a.bg, .int .i64 s.too.a.fl, .int .i64 s.too.g0, .int .i64 s.too.g1, .int .i64 s.too.sh, .bool s.too.org, .int .i64 s.top, .int .i64 s.bot, (.slice At' s.tabs.length kt'), .int .i64 s.modes, .string s.title, .int .i64 s.last] _ RB6.out.range Tryz.underlying38 rfl (by kernel_rfl) ?_
  refine wpList_store_mid rfl 38 _ _ rfl (w.heap.size + 1) 0 (#[.int .i64 s.mr, .int .i64 s.mc, (.slice Am' s.ms.length km'), .int .i64 s.orr, .int .i64 s.oc, (.slice Ao' s.os.length ko'), .bool s.sw, .int .i64 s.cur.row, .int .i64 s.cur.col, .bool s.cur.wrap, .int .i64 s.cur.a.fg, .int .i64 s.cur.a.bg, .int .i64 s.cur.a.fl, .int .i64 s.cur.g0, .int .i64 s.cur.g1, .int .i64 s.cur.sh, .bool s.cur.org, .int .i64 s.sav.row, .int .i64 s.sav.col, .bool s.sav.wrap, .int .i64 s.sav.a.fg, .int .i64 s.sav.a.bg, .int .i64 s.sav.a.fl, .int .i64 s.sav.g0, .int .i64 s.sav.g1, .int .i64 s.sav.sh, .bool s.sav.org, .int .i64 s.too.row, .int .i64 s.too.col, .bool s.too.wrap, .int .i64 s.too.a.fg, .int .i64 s.too.a.bg, .int .i64 s.too.a.fl, .int .i64 s.too.g0, .int .i64 s.too.g1, .int .i64 s.too.sh, .bool s.too.org, .int .i64 s.top, .int .i64 s.bot, (.slice At' s.tabs.length kt'), .int .i64 s.modes, .string s.title, .int .i64 s.last]) rfl rfl ?_ ?_ ?_ ?_
  · exact Q1.out.there rfl
  · kernel_rfl
  · rw [List.all_toArray]; rfl
  generalize hwF : World.setCells _ _ _ _ = wF
  have RF1 : Hid (RowL wF (w.heap.size + 1) 38 [.int .i64 s.mr, .int .i64 s.mc, (.slice Am' s.ms.length km'), .int .i64 s.orr, .int .i64 s.oc, (.slice Ao' s.os.length ko'), .bool s.sw, .int .i64 s.cur.row, .int .i64 s.cur.col, .bool s.cur.wrap, .int .i64 s.cur.a.fg, .int .i64 s.cur.a.bg, .int .i64 s.cur.a.fl, .int .i64 s.cur.g0, .int .i64 s.cur.g1, .int .i64 s.cur.sh, .bool s.cur.org, .int .i64 s.sav.row, .int .i64 s.sav.col, .bool s.sav.wrap, .int .i64 s.sav.a.fg, .int .i64 s.sav.a.bg, .int .i64 s.sav.a.fl, .int .i64 s.sav.g0, .int .i64 s.sav.g1, .int .i64 s.sav.sh, .bool s.sav.org, .int .i64 s.too.row, .int .i64 s.too.col, .bool s.too.wrap, .int .i64 s.too.a.fg, .int .i64 s.too.a.bg, .int .i64 s.too.a.fl, .int .i64 s.too.g0, .int .i64 s.too.g1, .int .i64 s.too.sh, .bool s.too.org, .int .i64 s.top, .int .i64 s.bot, (.slice At' s.tabs.length kt'), .int .i64 s.modes, .string s.title, .int .i64 s.last]) := hid (by rw [← hwF]; exact setCells_all Q1.out rfl)
  have HGR : w6.grownBy wF (some (w.heap.size + 1)) := by rw [← hwF]; exact grown_setCells _ _ _
  have HTF : Hid (OwnB wF w.heap.size (.slice At' s.tabs.length kt') s.tabs) := hid (ownB_lower (w' := w) (own_grown OT.out HGR (by omega)) (by omega))
  have HOF : Hid (OwnC wF w.heap.size (.slice Ao' s.os.length ko') s.os) := hid (OwnC.lower (own_grown OO.out HGR (by omega)) (by omega))
  have HMF : Hid (OwnC wF w.heap.size (.slice Am' s.ms.length km') s.ms) := hid (OwnC.lower (own_grown OM.out HGR (by omega)) (by omega))
  have HBF : Hid (Below w.heap.size w wF) := hid (below_of_grown HB6.out HGR (fun k hk => by cases hk; omega))
  clear hwF HGR
  go_wp2
  exact bodyPost_ret (results_cell Tryz.results32 _ _ (w.heap.size + 1) 0 rfl _ (run_loadVar_mid _ (w.heap.size + 1) 0 38 [.int .i64 s.mr, .int .i64 s.mc, (.slice Am' s.ms.length km'), .int .i64 s.orr, .int .i64 s.oc, (.slice Ao' s.os.length ko'), .bool s.sw, .int .i64 s.cur.row, .int .i64 s.cur.col, .bool s.cur.wrap, .int .i64 s.cur.a.fg, .int .i64 s.cur.a.bg, .int .i64 s.cur.a.fl, .int .i64 s.cur.g0, .int .i64 s.cur.g1, .int .i64 s.cur.sh, .bool s.cur.org, .int .i64 s.sav.row, .int .i64 s.sav.col, .bool s.sav.wrap, .int .i64 s.sav.a.fg, .int .i64 s.sav.a.bg, .int .i64 s.sav.a.fl, .int .i64 s.sav.g0, .int .i64 s.sav.g1, .int .i64 s.sav.sh, .bool s.sav.org, .int .i64 s.too.row, .int .i64 s.too.col, .bool s.too.wrap, .int .i64 s.too.a.fg, .int .i64 s.too.a.bg, .int .i64 s.too.a.fl, .int .i64 s.too.g0, .int .i64 s.too.g1, .int .i64 s.too.sh, .bool s.too.org, .int .i64 s.top, .int .i64 s.bot, (.slice At' s.tabs.length kt'), .int .i64 s.modes, .string s.title, .int .i64 s.last] _ RF1.out.range Tryz.underlying38 rfl (by kernel_rfl))) rfl ⟨_, _, _, rfl, HMF.out, HOF.out, HTF.out, HBF.out, AMO.out, AMT.out, AOT.out⟩
end Go.Proofs.YtpmfjombfcnhmaaGreatDoor
