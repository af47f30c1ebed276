import Derived.Test.YtpmfjombfcnhmaaGreatDoorETx
import Derived.Test.YtpmfjombfcnhmaaGreatDoorREdKeys
set_option linter.unusedVariables false
set_option linter.unusedSimpArgs false
set_option linter.unnecessarySimpa false
/- The law's statements whose order is open (edits), each a theorem of its own. -/
namespace Go.Proofs.YtpmfjombfcnhmaaGreatDoor
open Go Go.RowKit Go.Proofs.YtpmfjombfcnhmaaGreatDoorW.PrintLast

noncomputable def ereg (n : Nat) : Code := ((Tryz.f16.body.bind (findRegion n)).getD .skip)
theorem slice8 (a b c d e f g h : Int) (w : World) : (Instr.buildSlice 27 8 #[(0, .int .i64 a), (1, .int .i64 b), (2, .int .i64 c), (3, .int .i64 d), (4, .int .i64 e), (5, .int .i64 f), (6, .int .i64 g), (7, .int .i64 h)]).run Tryz.prog w = .ok (.slice (some ⟨w.heap.size, 0, none⟩) 8 8) (w.alloc (.cells ([.int .i64 a, .int .i64 b, .int .i64 c, .int .i64 d, .int .i64 e, .int .i64 f, .int .i64 g, .int .i64 h] : List Value).toArray 3)) := by
  kernel_rfl
def nsE (n : Int) : List Value := [.int .i64 n, .int .i64 (-1), .int .i64 0, .int .i64 1, .int .i64 2, .int .i64 3, .int .i64 (withinZ n 12), .int .i64 9999]
theorem load_one {P : Program} {ty : TypeId} {d : TypeDesc} (hu : P.underlying ty = some d) (hd : d.isRow = false) {ad : Addr} {v : Value} {w : World} (hc : w.cell? ad = some v) : (Instr.loadAt ty (.pointer (some ad))).run P w = .ok v w := load1E hu hd hc
section
variable {P : Program} {ops : Array Oper} {op : Oper} {a : Act} {w0 w wr : World} {Q : Exit → Act → World → Prop} {F : List Ent}
/-- a world of the class, behind a world -/
structure MemB (w0 wr : World) (F : List Ent) where
  W : World
  h : Mem w0 W F
  k : Below wr.heap.size wr W
theorem MemB.below {w0 wr : World} {F : List Ent} (x : MemB w0 wr F) : Below w0.heap.size w0 x.W := x.h.below
theorem mb_seq {id : Nat} {l : List Oper} (hM : Mem w0 w F)
    (h : Nonempty (MemB w0 w F) → wpQuiet P l.toArray (fun w' => ∃ x : MemB w0 w F, w' = x.W) (fun a' => ∀ w', Mem w0 w' F → Below w.heap.size w w' → Q .normal a' w') l a) : (Code.region id l.toArray false).wp P Q a w :=
  wp_region_lit (wpList_of_quiet (C := fun w' => ∃ x : MemB w0 w F, w' = x.W) (Q := fun a' => ∀ w', Mem w0 w' F → Below w.heap.size w w' → Q .normal a' w') (fun _ w' hw' h => by obtain ⟨x, rfl⟩ := hw'; exact h _ x.h x.k) l a w ⟨⟨w, hM, Below.refl _ _⟩, rfl⟩ (h ⟨⟨w, hM, Below.refl _ _⟩⟩))
theorem mb_call {f : Nat} {args : Array Value} {v : Value} (x : MemB w0 wr F) (h : Calls P f args x.W fun e w' => e = .returned v ∧ Below x.W.heap.size x.W w') :
    Calls P f args x.W fun e w'' => e = .returned v ∧ ∃ y : MemB w0 wr F, w'' = y.W := h.mono fun _ w' ⟨he, hb⟩ => ⟨he, ⟨w', x.h.call hb, x.k.trans (hb.mono x.k.size)⟩, rfl⟩
theorem mb_still {f : Nat} {args : Array Value} {v : Value} (x : MemB w0 wr F) (h : Calls P f args x.W fun e w' => e = .returned v ∧ x.W = w') :
    Calls P f args x.W fun e w'' => e = .returned v ∧ ∃ y : MemB w0 wr F, w'' = y.W := h.mono fun _ _ ⟨he, hb⟩ => ⟨he, x, hb.symm⟩
theorem mb_load {K : Act → Prop} {ty : TypeId} {x : Operand} (ho : op.op = .load ty x) {b k : Nat} (hx : a.eval x = .pointer (some ⟨b, k, none⟩)) {t : TypeId} {l : List Value} (hF : (b, Row t l) ∈ F)
    {v : Value} (hv : l[k]? = some v) {d : TypeDesc} (hu : P.underlying ty = some d) (hd : d.isRow = false) (h : K (a.put op.dst v)) : op.quiet P a (fun w' => ∃ x : MemB w0 wr F, w' = x.W) K := by
  refine ⟨v, ?_, h⟩
  rintro _ ⟨y, rfl⟩
  unfold Oper.quietAt execOp
  simp only [ho, hx, Instr.loadAt, Instr.sureAddr, Sem.run_bind, Sem.run_pure, Result.andThen_ok, run_loadVar_one hu hd (y.h.cell hF hv)]
  exact ⟨rfl, rfl⟩
end
theorem load_sl {w : World} {s : Scr} {m o t : Value} {b q : Nat} (h : ∀ j u, (scrL s m o t)[j]? = some u → w.cell? ⟨b, q + j, none⟩ = some u) : (Instr.loadAt 38 (.pointer (some ⟨b, q, none⟩))).run Tryz.prog w = .ok (.agg (scrL s m o t).toArray) w :=
  run_loadAt_mid w b q 38 (scrL s m o t) _ h Tryz.underlying38 rfl (by kernel_rfl)
set_option maxRecDepth 100000 in
set_option maxHeartbeats 1000000 in
/-- the numbers -/
theorem ereg9_is {v : Value} {n m k r : Int} {w wr : World} {b : Nat} {Q : Exit → Act → World → Prop} (hM : Mem w wr [(b, Row 24 (askL v n m k r))]) (hP : ∀ c a (d : Tmp) v w, Q (.panic c) (Act.put a (some d) v) w → Q (.panic c) a w) (u0 u1 u3 u4 u5 u6 u7 u8 u9 u10 u11 u12 u13 u14 u15 u16 u17 u18 u19 u20 u21 u22 u23 u24 u25 u26 u27 u28 u29 u30 u31 u32 u33 u34 u35 u36 u37 u38 u39 u40 u41 u42 u43 u44 u45 u46 u47 u48 u49 u50 u51 u52 u53 u54 u55 u56 u57 u58 u59 u60 u61 u62 u63 u64 u65 u66 u67 u68 u69 u70 u71 u72 u73 u74 u75 u76 u77 u78 u79 u80 u81 u82 u83 u84 u85 u86 u87 u88 u89 u90 u91 u92 u93 u94 u95 u96 u97 u98 u99 u100 u101 u102 u103 u104 u105 u106 u107 u108 u109 u110 u111 u112 : Value)
    (hQ : ∀ w' g (v33 v34 v35 v36 v37 v38 : Value), Mem w w' [(g, Row 3 (nsE n)), (b, Row 24 (askL v n m k r))] → Q .normal ⟨#[u0, u1, .pointer (some ⟨b, 0, none⟩), u3, u4, u5, u6, .slice (some ⟨g, 0, none⟩) 8 8, u8, u9, u10, u11, u12, u13, u14, u15, u16, u17, u18, u19, u20, u21, u22, u23, u24, u25, u26, u27, u28, u29, u30, u31, u32, v33, v34, v35, v36, v37, v38, u39, u40, u41, u42, u43, u44, u45, u46, u47, u48, u49, u50, u51, u52, u53, u54, u55, u56, u57, u58, u59, u60, u61, u62, u63, u64, u65, u66, u67, u68, u69, u70, u71, u72, u73, u74, u75, u76, u77, u78, u79, u80, u81, u82, u83, u84, u85, u86, u87, u88, u89, u90, u91, u92, u93, u94, u95, u96, u97, u98, u99, u100, u101, u102, u103, u104, u105, u106, u107, u108, u109, u110, u111, u112], []⟩ w') :
    Code.wp Tryz.prog (ereg 9) Q ⟨#[u0, u1, .pointer (some ⟨b, 0, none⟩), u3, u4, u5, u6, u7, u8, u9, u10, u11, u12, u13, u14, u15, u16, u17, u18, u19, u20, u21, u22, u23, u24, u25, u26, u27, u28, u29, u30, u31, u32, u33, u34, u35, u36, u37, u38, u39, u40, u41, u42, u43, u44, u45, u46, u47, u48, u49, u50, u51, u52, u53, u54, u55, u56, u57, u58, u59, u60, u61, u62, u63, u64, u65, u66, u67, u68, u69, u70, u71, u72, u73, u74, u75, u76, u77, u78, u79, u80, u81, u82, u83, u84, u85, u86, u87, u88, u89, u90, u91, u92, u93, u94, u95, u96, u97, u98, u99, u100, u101, u102, u103, u104, u105, u106, u107, u108, u109, u110, u111, u112], []⟩ wr := by
  have HM := hid hM
  clear hM
  conv => arg 2; whnf
  refine start_ (n := 7) (S := fun W => Mem w W [(b, Row 24 (askL v n m k r))]) (ds := []) #[false, false, false, false, false, false, false] (by kernel_rfl) rfl rfl HM.out.drew (fun hS => ?_)
  refine take_ (i := 0) (N := some 33) (a' := ?_) (v := .pointer (some ⟨b, 1, none⟩)) #[true, false, false, false, false, false, false] rfl rfl (by kernel_rfl) (by first | exact fun _ _ _ h => h | exact fun _ _ _ h => hP _ _ _ _ _ h) (Or.inl ⟨by rfl, fun w' _ => by go_simp⟩) hS ?_ ?_
  rotate_left
  · simp only [Act.put, List.setIfInBounds_toArray, List.set_cons_zero, List.set_cons_succ]
    rfl
  refine take_ (i := 1) (N := some 34) (a' := ?_) (v := .int .i64 n) #[true, true, false, false, false, false, false] rfl rfl (by kernel_rfl) (by first | exact fun _ _ _ h => h | exact fun _ _ _ h => hP _ _ _ _ _ h) (y_load rfl rfl rfl (by first | exact .head _ | exact .tail _ (.head _) | exact .tail _ (.tail _ (.head _)) | exact .tail _ (.tail _ (.tail _ (.head _))) | exact .tail _ (.tail _ (.tail _ (.tail _ (.head _)))) | exact .tail _ (.tail _ (.tail _ (.tail _ (.tail _ (.head _))))) | exact .tail _ (.tail _ (.tail _ (.tail _ (.tail _ (.tail _ (.head _)))))) | exact .tail _ (.tail _ (.tail _ (.tail _ (.tail _ (.tail _ (.tail _ (.head _)))))))) rfl (by first | exact Tryz.underlying3 | exact Tryz.underlying4 | exact Tryz.underlying9 | exact Tryz.underlying29 | exact Tryz.underlying36) rfl) hS ?_ ?_
  rotate_left
  · simp only [Act.put, List.setIfInBounds_toArray, List.set_cons_zero, List.set_cons_succ]
    rfl
  refine take_ (i := 2) (N := some 35) (a' := ?_) (v := .pointer (some ⟨b, 1, none⟩)) #[true, true, true, false, false, false, false] rfl rfl (by kernel_rfl) (by first | exact fun _ _ _ h => h | exact fun _ _ _ h => hP _ _ _ _ _ h) (Or.inl ⟨by rfl, fun w' _ => by go_simp⟩) hS ?_ ?_
  rotate_left
  · simp only [Act.put, List.setIfInBounds_toArray, List.set_cons_zero, List.set_cons_succ]
    rfl
  refine take_ (i := 3) (N := some 36) (a' := ?_) (v := .int .i64 n) #[true, true, true, true, false, false, false] rfl rfl (by kernel_rfl) (by first | exact fun _ _ _ h => h | exact fun _ _ _ h => hP _ _ _ _ _ h) (y_load rfl rfl rfl (by first | exact .head _ | exact .tail _ (.head _) | exact .tail _ (.tail _ (.head _)) | exact .tail _ (.tail _ (.tail _ (.head _))) | exact .tail _ (.tail _ (.tail _ (.tail _ (.head _)))) | exact .tail _ (.tail _ (.tail _ (.tail _ (.tail _ (.head _))))) | exact .tail _ (.tail _ (.tail _ (.tail _ (.tail _ (.tail _ (.head _)))))) | exact .tail _ (.tail _ (.tail _ (.tail _ (.tail _ (.tail _ (.tail _ (.head _)))))))) rfl (by first | exact Tryz.underlying3 | exact Tryz.underlying4 | exact Tryz.underlying9 | exact Tryz.underlying29 | exact Tryz.underlying36) rfl) hS ?_ ?_
  rotate_left
  · simp only [Act.put, List.setIfInBounds_toArray, List.set_cons_zero, List.set_cons_succ]
    rfl
  refine one_ (i := 4) (N := some 37) #[true, true, true, true, true, false, false] rfl rfl (by kernel_rfl) (by decide) (fun K hK => ?_)
  refine goes_ Tryz.func18 (by kernel_rfl) rfl #[.int .i64 n, .int .i64 12] (by rfl) rfl rfl (by simp only [List.map_toArray, List.map_cons, List.map_nil]; rfl) ?_
  refine (withinN_any n 12 _ (by decide) (by decide)).mono ?_
  rintro e w4 ⟨rfl, rfl⟩
  refine ⟨_, rfl, hK.out _ _ hS (fun hS2 => ?_)⟩
  clear hK K hS2
  refine norm_ (a' := ?_) ?_ ?_
  rotate_left
  · simp only [Act.put, List.setIfInBounds_toArray, List.set_cons_zero, List.set_cons_succ]
    rfl
  refine one_ (i := 5) (N := some 38) #[true, true, true, true, true, true, false] rfl rfl (by kernel_rfl) (by decide) (fun K hK => ?_)
  refine y_slice (e := 3) hS rfl rfl rfl #[(0, .int .i64 n), (1, .int .i64 (-1)), (2, .int .i64 0), (3, .int .i64 1), (4, .int .i64 2), (5, .int .i64 3), (6, .int .i64 (withinZ n 12)), (7, .int .i64 9999)] (by simp only [List.map_toArray, List.map_cons, List.map_nil]; rfl) _ (fun w' => slice8 _ _ _ _ _ _ _ _ w') (fun g w' hg hB hM => hK.out _ _ (hS.call hB) (fun hS2 => ?_))
  clear hK K hS2
  refine norm_ (a' := ?_) ?_ ?_
  rotate_left
  · simp only [Act.put, List.setIfInBounds_toArray, List.set_cons_zero, List.set_cons_succ]
    rfl
  refine pure_ (i := 6) (N := some 7) (a' := ?_) (v := .slice (some ⟨g, 0, none⟩) 8 8) #[true, true, true, true, true, true, true] rfl rfl (by kernel_rfl) (by first | exact fun _ _ _ h => h | exact fun _ _ _ h => hP _ _ _ _ _ h) (Or.inl ⟨by rfl, fun w' => by go_simp⟩) ?_ ?_
  rotate_left
  · simp only [Act.put, List.setIfInBounds_toArray, List.set_cons_zero, List.set_cons_succ]
    rfl
  refine done_ (by kernel_rfl) ?_
  exact hQ w' g _ _ _ _ _ _ hM
/-- what the program's call comes to -/
def EditOut (s : Scr) (mi oi ti : Value) (key nj : Int) (R : Scr) (ec : Int) (W : World) : Prop :=
  Calls Tryz.prog 20 #[.agg (scrL s mi oi ti).toArray, .int .i64 key, .int .i64 nj] W fun e w' => ∃ A1 k1 A2 k2 A3 k3, e = .returned (.tuple #[.agg (scrL R (.slice A1 R.ms.length k1) (.slice A2 R.os.length k2) (.slice A3 R.tabs.length k3)).toArray, .int .i64 ec]) ∧ OwnScr w' W.heap.size R (.slice A1 R.ms.length k1) (.slice A2 R.os.length k2) (.slice A3 R.tabs.length k3) ∧ Below W.heap.size W w'
set_option maxRecDepth 100000 in
set_option maxHeartbeats 4000000 in
/-- the program's answer -/
theorem ereg14_is {v mi oi ti : Value} {n m k r key nj ec : Int} {s R : Scr} {w wr : World} {b g bin j kk kb ko kl kc : Nat} {Q : Exit → Act → World → Prop} (hM : Mem w wr [(bin, Row 38 (scrL s mi oi ti)), (g, Row 3 (nsE n)), (b, Row 24 (askL v n m k r))]) (hj : j < 8) (hnj : (nsE n)[j]? = some (.int .i64 nj)) (hkk : kk < kl)
    (hkc : ∀ W, Below w.heap.size w W → W.cell? ⟨kb, ko + kk, none⟩ = some (.int .i64 key)) (hmv : ∀ W, Below wr.heap.size wr W → EditOut s mi oi ti key nj R ec W)
    (hP : ∀ c a (d : Tmp) v w, Q (.panic c) (Act.put a (some d) v) w → Q (.panic c) a w) (u0 u3 u4 u5 u10 u11 u12 u13 u14 u15 u16 u17 u18 u19 u20 u21 u22 u23 u24 u25 u26 u27 u28 u29 u30 u31 u32 u33 u34 u35 u36 u37 u38 u39 u40 u41 u42 u43 u44 u45 u46 u47 u48 u49 u50 u51 u52 u53 u54 u55 u56 u57 u58 u59 u60 u61 u62 u63 u64 u65 u66 u67 u68 u69 u70 u71 u72 u73 u74 u75 u76 u77 u78 u79 u80 u81 u82 u83 u84 u85 u86 u87 u88 u89 u90 u91 u92 u93 u94 u95 u96 u97 u98 u99 u100 u101 u102 u103 u104 u105 u106 u107 u108 u109 u110 u111 u112 : Value)
    (hQ : ∀ w' bx A1 k1 A2 k2 A3 k3 (v52 v53 v54 v55 v56 v57 v58 v59 v60 v61 v62 v63 : Value), Mem w w' ((bx, Row 38 (scrL R (.slice A1 R.ms.length k1) (.slice A2 R.os.length k2) (.slice A3 R.tabs.length k3))) :: [(bin, Row 38 (scrL s mi oi ti)), (g, Row 3 (nsE n)), (b, Row 24 (askL v n m k r))]) →
      OwnScr w' wr.heap.size R (.slice A1 R.ms.length k1) (.slice A2 R.os.length k2) (.slice A3 R.tabs.length k3) → Below wr.heap.size wr w' →
      Q .normal ⟨#[u0, .slice (some ⟨kb, ko, none⟩) kl kc, .pointer (some ⟨b, 0, none⟩), u3, u4, u5, .int .i64 kk, .slice (some ⟨g, 0, none⟩) 8 8, .int .i64 j, .pointer (some ⟨bin, 0, none⟩), .pointer (some ⟨bx, 0, none⟩), .int .i64 ec, u12, u13, u14, u15, u16, u17, u18, u19, u20, u21, u22, u23, u24, u25, u26, u27, u28, u29, u30, u31, u32, u33, u34, u35, u36, u37, u38, u39, u40, u41, u42, u43, u44, u45, u46, u47, u48, u49, u50, .tuple #[.agg (scrL R (.slice A1 R.ms.length k1) (.slice A2 R.os.length k2) (.slice A3 R.tabs.length k3)).toArray, .int .i64 ec], v52, v53, v54, v55, v56, v57, v58, v59, v60, v61, v62, v63, u64, u65, u66, u67, u68, u69, u70, u71, u72, u73, u74, u75, u76, u77, u78, u79, u80, u81, u82, u83, u84, u85, u86, u87, u88, u89, u90, u91, u92, u93, u94, u95, u96, u97, u98, u99, u100, u101, u102, u103, u104, u105, u106, u107, u108, u109, u110, u111, u112], []⟩ w') :
    Code.wp Tryz.prog (ereg 14) Q ⟨#[u0, .slice (some ⟨kb, ko, none⟩) kl kc, .pointer (some ⟨b, 0, none⟩), u3, u4, u5, .int .i64 kk, .slice (some ⟨g, 0, none⟩) 8 8, .int .i64 j, .pointer (some ⟨bin, 0, none⟩), u10, u11, u12, u13, u14, u15, u16, u17, u18, u19, u20, u21, u22, u23, u24, u25, u26, u27, u28, u29, u30, u31, u32, u33, u34, u35, u36, u37, u38, u39, u40, u41, u42, u43, u44, u45, u46, u47, u48, u49, u50, u51, u52, u53, u54, u55, u56, u57, u58, u59, u60, u61, u62, u63, u64, u65, u66, u67, u68, u69, u70, u71, u72, u73, u74, u75, u76, u77, u78, u79, u80, u81, u82, u83, u84, u85, u86, u87, u88, u89, u90, u91, u92, u93, u94, u95, u96, u97, u98, u99, u100, u101, u102, u103, u104, u105, u106, u107, u108, u109, u110, u111, u112], []⟩ wr := by
  have HM := hid hM
  have HKC := hid hkc
  have HMV := hid hmv
  have HJ := hid hnj
  have HKK := hid hkk
  have hkk2 : (kk : Int) < (kl : Int) := by omega
  have hj2 : (j : Int) < 8 := by omega
  clear hM hkc hmv hnj
  conv => arg 2; whnf
  refine start_ (n := 16) (S := fun W => Mem w W [(bin, Row 38 (scrL s mi oi ti)), (g, Row 3 (nsE n)), (b, Row 24 (askL v n m k r))]) (ds := [14]) #[false, false, false, false, false, false, false, false, false, false, false, false, false, false, false, false] (by kernel_rfl) rfl rfl HM.out.drew (fun hS => ?_)
  refine take_ (i := 0) (N := some 52) (a' := ?_) (v := .agg (scrL s mi oi ti).toArray) #[true, false, false, false, false, false, false, false, false, false, false, false, false, false, false, false] rfl rfl (by kernel_rfl) (by first | exact fun _ _ _ h => h | exact fun _ _ _ h => hP _ _ _ _ _ h) (y_loadS rfl rfl rfl (by first | exact .head _ | exact .tail _ (.head _) | exact .tail _ (.tail _ (.head _)) | exact .tail _ (.tail _ (.tail _ (.head _))) | exact .tail _ (.tail _ (.tail _ (.tail _ (.head _)))) | exact .tail _ (.tail _ (.tail _ (.tail _ (.tail _ (.head _))))) | exact .tail _ (.tail _ (.tail _ (.tail _ (.tail _ (.tail _ (.head _)))))) | exact .tail _ (.tail _ (.tail _ (.tail _ (.tail _ (.tail _ (.tail _ (.head _)))))))) rfl Tryz.underlying38 rfl (by kernel_rfl)) hS ?_ ?_
  rotate_left
  · simp only [Act.put, List.setIfInBounds_toArray, List.set_cons_zero, List.set_cons_succ]
    rfl
  refine take_ (i := 1) (N := some 53) (a' := ?_) (v := .slice (some ⟨kb, ko, none⟩) kl kc) #[true, true, false, false, false, false, false, false, false, false, false, false, false, false, false, false] rfl rfl (by kernel_rfl) (by first | exact fun _ _ _ h => h | exact fun _ _ _ h => hP _ _ _ _ _ h) (Or.inl ⟨by rfl, fun w' _ => by go_simp⟩) hS ?_ ?_
  rotate_left
  · simp only [Act.put, List.setIfInBounds_toArray, List.set_cons_zero, List.set_cons_succ]
    rfl
  refine take_ (i := 2) (N := some 54) (a' := ?_) (v := .int .i64 kk) #[true, true, true, false, false, false, false, false, false, false, false, false, false, false, false, false] rfl rfl (by kernel_rfl) (by first | exact fun _ _ _ h => h | exact fun _ _ _ h => hP _ _ _ _ _ h) (Or.inl ⟨by rfl, fun w' _ => by go_simp⟩) hS ?_ ?_
  rotate_left
  · simp only [Act.put, List.setIfInBounds_toArray, List.set_cons_zero, List.set_cons_succ]
    rfl
  refine take_ (i := 3) (N := some 55) (a' := ?_) (v := .pointer (some ⟨kb, ko + kk, none⟩)) #[true, true, true, true, false, false, false, false, false, false, false, false, false, false, false, false] rfl rfl (by kernel_rfl) (by first | exact fun _ _ _ h => h | exact fun _ _ _ h => hP _ _ _ _ _ h) (Or.inl ⟨by rfl, fun w' _ => by go_simp⟩) hS ?_ ?_
  rotate_left
  · simp only [Act.put, List.setIfInBounds_toArray, List.set_cons_zero, List.set_cons_succ]
    rfl
  refine take_ (i := 4) (N := some 56) (a' := ?_) (v := .int .i64 key) #[true, true, true, true, true, false, false, false, false, false, false, false, false, false, false, false] rfl rfl (by kernel_rfl) (by first | exact fun _ _ _ h => h | exact fun _ _ _ h => hP _ _ _ _ _ h) (y_any rfl rfl rfl (fun W hW => load_one Tryz.underlying3 rfl (HKC.out W hW.below))) hS ?_ ?_
  rotate_left
  · simp only [Act.put, List.setIfInBounds_toArray, List.set_cons_zero, List.set_cons_succ]
    rfl
  refine take_ (i := 5) (N := some 57) (a' := ?_) (v := .slice (some ⟨g, 0, none⟩) 8 8) #[true, true, true, true, true, true, false, false, false, false, false, false, false, false, false, false] rfl rfl (by kernel_rfl) (by first | exact fun _ _ _ h => h | exact fun _ _ _ h => hP _ _ _ _ _ h) (Or.inl ⟨by rfl, fun w' _ => by go_simp⟩) hS ?_ ?_
  rotate_left
  · simp only [Act.put, List.setIfInBounds_toArray, List.set_cons_zero, List.set_cons_succ]
    rfl
  refine take_ (i := 6) (N := some 58) (a' := ?_) (v := .int .i64 j) #[true, true, true, true, true, true, true, false, false, false, false, false, false, false, false, false] rfl rfl (by kernel_rfl) (by first | exact fun _ _ _ h => h | exact fun _ _ _ h => hP _ _ _ _ _ h) (Or.inl ⟨by rfl, fun w' _ => by go_simp⟩) hS ?_ ?_
  rotate_left
  · simp only [Act.put, List.setIfInBounds_toArray, List.set_cons_zero, List.set_cons_succ]
    rfl
  refine take_ (i := 7) (N := some 59) (a' := ?_) (v := .pointer (some ⟨g, j, none⟩)) #[true, true, true, true, true, true, true, true, false, false, false, false, false, false, false, false] rfl rfl (by kernel_rfl) (by first | exact fun _ _ _ h => h | exact fun _ _ _ h => hP _ _ _ _ _ h) (Or.inl ⟨by rfl, fun w' _ => by go_simp⟩) hS ?_ ?_
  rotate_left
  · simp only [Act.put, List.setIfInBounds_toArray, List.set_cons_zero, List.set_cons_succ]
    rfl
  refine take_ (i := 8) (N := some 60) (a' := ?_) (v := .int .i64 nj) #[true, true, true, true, true, true, true, true, true, false, false, false, false, false, false, false] rfl rfl (by kernel_rfl) (by first | exact fun _ _ _ h => h | exact fun _ _ _ h => hP _ _ _ _ _ h) (y_load rfl rfl rfl (by first | exact .head _ | exact .tail _ (.head _) | exact .tail _ (.tail _ (.head _)) | exact .tail _ (.tail _ (.tail _ (.head _))) | exact .tail _ (.tail _ (.tail _ (.tail _ (.head _)))) | exact .tail _ (.tail _ (.tail _ (.tail _ (.tail _ (.head _))))) | exact .tail _ (.tail _ (.tail _ (.tail _ (.tail _ (.tail _ (.head _)))))) | exact .tail _ (.tail _ (.tail _ (.tail _ (.tail _ (.tail _ (.tail _ (.head _)))))))) HJ.out (by first | exact Tryz.underlying3 | exact Tryz.underlying4 | exact Tryz.underlying9 | exact Tryz.underlying29 | exact Tryz.underlying36) rfl) hS ?_ ?_
  rotate_left
  · simp only [Act.put, List.setIfInBounds_toArray, List.set_cons_zero, List.set_cons_succ]
    rfl
  refine two_ (i := 9) (j := 13) (Ni := some 61) (Nj := some 10) #[true, true, true, true, true, true, true, true, true, true, false, false, false, false, false, false] #[true, true, true, true, true, true, true, true, true, false, false, false, false, true, false, false] rfl rfl rfl rfl (by kernel_rfl) (by decide) (by decide) (fun K hK => ?_) (fun K hK => ?_)
  · refine goes_ Tryz.func20 (by kernel_rfl) rfl #[.agg (scrL s mi oi ti).toArray, .int .i64 key, .int .i64 nj] (by rfl) rfl rfl (by simp only [List.map_toArray, List.map_cons, List.map_nil]; rfl) ?_
    refine (HMV.out _ (Below.refl _ _).drew).mono ?_
    rintro e w4 ⟨A1, k1, A2, k2, A3, k3, rfl, hO, hB⟩
    have HO := hid hO
    have HB := hid ((Below.refl _ _).drew.trans hB)
    refine ⟨_, rfl, hK.out _ _ (hS.call hB) (fun hS2 => ?_)⟩
    clear hK K hO hB hS
    have hS := hS2
    clear hS2
    refine norm_ (a' := ?_) ?_ ?_
    rotate_left
    · simp only [Act.put, List.setIfInBounds_toArray, List.set_cons_zero, List.set_cons_succ]
      rfl
    refine take_ (i := 10) (N := some 51) (a' := ?_) (v := .tuple #[.agg (scrL R (.slice A1 R.ms.length k1) (.slice A2 R.os.length k2) (.slice A3 R.tabs.length k3)).toArray, .int .i64 ec]) #[true, true, true, true, true, true, true, true, true, true, true, false, false, false, false, false] rfl rfl (by kernel_rfl) (by first | exact fun _ _ _ h => h | exact fun _ _ _ h => hP _ _ _ _ _ h) (Or.inl ⟨by rfl, fun w' _ => by go_simp⟩) hS ?_ ?_
    rotate_left
    · simp only [Act.put, List.setIfInBounds_toArray, List.set_cons_zero, List.set_cons_succ]
      rfl
    refine take_ (i := 11) (N := some 62) (a' := ?_) (v := .agg (scrL R (.slice A1 R.ms.length k1) (.slice A2 R.os.length k2) (.slice A3 R.tabs.length k3)).toArray) #[true, true, true, true, true, true, true, true, true, true, true, true, false, false, false, false] rfl rfl (by kernel_rfl) (by first | exact fun _ _ _ h => h | exact fun _ _ _ h => hP _ _ _ _ _ h) (Or.inl ⟨by rfl, fun w' _ => by go_simp⟩) hS ?_ ?_
    rotate_left
    · simp only [Act.put, List.setIfInBounds_toArray, List.set_cons_zero, List.set_cons_succ]
      rfl
    refine pure_ (i := 12) (N := some 63) (a' := ?_) (v := .int .i64 ec) #[true, true, true, true, true, true, true, true, true, true, true, true, true, false, false, false] rfl rfl (by kernel_rfl) (by first | exact fun _ _ _ h => h | exact fun _ _ _ h => hP _ _ _ _ _ h) (Or.inl ⟨by rfl, fun w' => by go_simp⟩) ?_ ?_
    rotate_left
    · simp only [Act.put, List.setIfInBounds_toArray, List.set_cons_zero, List.set_cons_succ]
      rfl
    refine one_ (i := 13) (N := some 10) #[true, true, true, true, true, true, true, true, true, true, true, true, true, true, false, false] rfl rfl (by kernel_rfl) (by decide) (fun K hK => ?_)
    refine y_alloc hS rfl rfl rfl info_zS (fun bx w5 hbx hB5 hM5 => hK.out _ _ (hS.call hB5) (fun hS2 => ?_))
    clear hK K hS hS2
    refine norm_ (a' := ?_) ?_ ?_
    rotate_left
    · simp only [Act.put, List.setIfInBounds_toArray, List.set_cons_zero, List.set_cons_succ]
      rfl
    refine last_ (i := 14) (N := none) #[true, true, true, true, true, true, true, true, true, true, true, true, true, true, true, false] rfl rfl (by kernel_rfl) (by decide) (fun K hK => ?_)
    refine y_storeA hM5 rfl rfl rfl rfl 0 rfl rfl rfl (by kernel_rfl) rfl (fun w6 hM6 hg => hK.out _ _ ?_)
    clear hK K
    refine pure_ (i := 15) (N := some 11) (a' := ?_) (v := .int .i64 ec) #[true, true, true, true, true, true, true, true, true, true, true, true, true, true, true, true] rfl rfl (by kernel_rfl) (by first | exact fun _ _ _ h => h | exact fun _ _ _ h => hP _ _ _ _ _ h) (Or.inl ⟨by rfl, fun w' => by go_simp⟩) ?_ ?_
    rotate_left
    · simp only [Act.put, List.setIfInBounds_toArray, List.set_cons_zero, List.set_cons_succ]
      rfl
    refine done_ (by kernel_rfl) ?_
    have hO5 := HO.out.below hB5
    exact hQ w6 bx _ _ _ _ _ _ _ _ _ _ _ _ _ _ _ _ _ _ hM6 ⟨hO5.hm.kept hg (own_lt HO.out.hm hbx), hO5.ho.kept hg (own_lt HO.out.ho hbx), hO5.ht.kept hg (own_lt HO.out.ht hbx), hO5.mo, hO5.mt, hO5.ot⟩ (below_of_grown (HB.out.trans (hB5.mono HB.out.size)) hg (fun q hq => by cases hq; have := HB.out.size; omega))
  · refine y_alloc hS rfl rfl rfl info_zS (fun bx w4 hbx hB4 hM4 => hK.out _ _ (hS.call hB4) (fun hS2 => ?_))
    clear hK K hS
    have hS := hS2
    have HB4 := hid ((Below.refl _ _).drew.trans hB4)
    clear hS2
    refine norm_ (a' := ?_) ?_ ?_
    rotate_left
    · simp only [Act.put, List.setIfInBounds_toArray, List.set_cons_zero, List.set_cons_succ]
      rfl
    refine one_ (i := 9) (N := some 61) #[true, true, true, true, true, true, true, true, true, true, false, false, false, true, false, false] rfl rfl (by kernel_rfl) (by decide) (fun K hK => ?_)
    refine goes_ Tryz.func20 (by kernel_rfl) rfl #[.agg (scrL s mi oi ti).toArray, .int .i64 key, .int .i64 nj] (by rfl) rfl rfl (by simp only [List.map_toArray, List.map_cons, List.map_nil]; rfl) ?_
    refine (HMV.out _ HB4.out).mono ?_
    rintro e w5 ⟨A1, k1, A2, k2, A3, k3, rfl, hO, hB⟩
    have HO := hid hO
    have hM5 := hM4.call hB
    refine ⟨_, rfl, hK.out _ _ (hS.call hB) (fun hS2 => ?_)⟩
    clear hK K hO hS
    have hS := hS2
    clear hS2
    refine norm_ (a' := ?_) ?_ ?_
    rotate_left
    · simp only [Act.put, List.setIfInBounds_toArray, List.set_cons_zero, List.set_cons_succ]
      rfl
    refine take_ (i := 10) (N := some 51) (a' := ?_) (v := .tuple #[.agg (scrL R (.slice A1 R.ms.length k1) (.slice A2 R.os.length k2) (.slice A3 R.tabs.length k3)).toArray, .int .i64 ec]) #[true, true, true, true, true, true, true, true, true, true, true, false, false, true, false, false] rfl rfl (by kernel_rfl) (by first | exact fun _ _ _ h => h | exact fun _ _ _ h => hP _ _ _ _ _ h) (Or.inl ⟨by rfl, fun w' _ => by go_simp⟩) hS ?_ ?_
    rotate_left
    · simp only [Act.put, List.setIfInBounds_toArray, List.set_cons_zero, List.set_cons_succ]
      rfl
    refine take_ (i := 11) (N := some 62) (a' := ?_) (v := .agg (scrL R (.slice A1 R.ms.length k1) (.slice A2 R.os.length k2) (.slice A3 R.tabs.length k3)).toArray) #[true, true, true, true, true, true, true, true, true, true, true, true, false, true, false, false] rfl rfl (by kernel_rfl) (by first | exact fun _ _ _ h => h | exact fun _ _ _ h => hP _ _ _ _ _ h) (Or.inl ⟨by rfl, fun w' _ => by go_simp⟩) hS ?_ ?_
    rotate_left
    · simp only [Act.put, List.setIfInBounds_toArray, List.set_cons_zero, List.set_cons_succ]
      rfl
    refine pure_ (i := 12) (N := some 63) (a' := ?_) (v := .int .i64 ec) #[true, true, true, true, true, true, true, true, true, true, true, true, true, true, false, false] rfl rfl (by kernel_rfl) (by first | exact fun _ _ _ h => h | exact fun _ _ _ h => hP _ _ _ _ _ h) (Or.inl ⟨by rfl, fun w' => by go_simp⟩) ?_ ?_
    rotate_left
    · simp only [Act.put, List.setIfInBounds_toArray, List.set_cons_zero, List.set_cons_succ]
      rfl
    refine last_ (i := 14) (N := none) #[true, true, true, true, true, true, true, true, true, true, true, true, true, true, true, false] rfl rfl (by kernel_rfl) (by decide) (fun K hK => ?_)
    refine y_storeA hM5 rfl rfl rfl rfl 0 rfl rfl rfl (by kernel_rfl) rfl (fun w6 hM6 hg => hK.out _ _ ?_)
    clear hK K
    refine pure_ (i := 15) (N := some 11) (a' := ?_) (v := .int .i64 ec) #[true, true, true, true, true, true, true, true, true, true, true, true, true, true, true, true] rfl rfl (by kernel_rfl) (by first | exact fun _ _ _ h => h | exact fun _ _ _ h => hP _ _ _ _ _ h) (Or.inl ⟨by rfl, fun w' => by go_simp⟩) ?_ ?_
    rotate_left
    · simp only [Act.put, List.setIfInBounds_toArray, List.set_cons_zero, List.set_cons_succ]
      rfl
    refine done_ (by kernel_rfl) ?_
    have hlt4 : bx < w4.heap.size := hM4.lt (.head _)
    have hz4 := HB4.out.size
    have hO5 := HO.out
    have hne : ∀ (x : Value) (nn : Nat) (ee : TypeId) (q : Nat) (xs : List Value), w5.ownsRow w4.heap.size ee q x nn xs → x.ownBlock = none ∨ x.ownBlock ≠ some bx := fun x nn ee q xs hx => .inr fun e => by have := (hx.lt bx e).1; omega
    have hlow : w4.heap.size ≤ w5.heap.size := hB.size
    exact hQ w6 bx _ _ _ _ _ _ _ _ _ _ _ _ _ _ _ _ _ _ hM6 ⟨OwnC.lower (hO5.hm.kept hg (hne _ _ _ _ _ hO5.hm)) hz4, OwnC.lower (hO5.ho.kept hg (hne _ _ _ _ _ hO5.ho)) hz4, ownB_lower (w' := wr) (hO5.ht.kept hg (hne _ _ _ _ _ hO5.ht)) hz4, hO5.mo, hO5.mt, hO5.ot⟩ (below_of_grown (HB4.out.trans (hB.mono HB4.out.size)) hg (fun q hq => by cases hq; have : wr.drew.heap.size = wr.heap.size := rfl; omega))

def inI (l : List Int) (x : Int) : Int := if x ∈ l then (l.idxOf x : Int) else -1
theorem inI_at {l : List Int} {x : Int} {k : Nat} (hk : k < l.length) (h : l.getD k 0 = x) (hb : ∀ j, j < k → l.getD j 0 ≠ x) : inI l x = k := by
  have hx : l[k] = x := by simpa [hk] using h
  have hm : x ∈ l := hx ▸ List.getElem_mem hk
  have hi : l.idxOf x = k := by
    have h1 : l.idxOf x < l.length := List.idxOf_lt_length_iff.2 hm
    have h2 : l[l.idxOf x] = x := List.getElem_idxOf h1
    rcases Nat.lt_trichotomy (l.idxOf x) k with h3 | h3 | h3
    · exact absurd (by simpa [h1] using h2) (hb _ h3)
    · exact h3
    · have := List.not_of_lt_findIdx (p := (· == x)) (xs := l) (i := k) h3
      simp [hx] at this
  rw [inI, if_pos hm, hi]
theorem inI_no {l : List Int} {x : Int} (hb : ∀ j, j < l.length → l.getD j 0 ≠ x) : inI l x = -1 := by
  rw [inI, if_neg]
  intro hm
  obtain ⟨j, hj, e⟩ := List.getElem_of_mem hm
  exact hb j hj (by simpa [hj] using e)
set_option maxRecDepth 100000 in
set_option maxHeartbeats 1000000 in
theorem in_any {l : List Int} {x r : Int} (h : inI l x = r) (v : Value) (w : World) (hv : RdI w v l) (hl : l.length ≤ 1000) : Calls Tryz.prog 39 #[v, .int .i64 x] w fun e w' => e = .returned (.int .i64 r) ∧ w = w' := by
  have H := hid h
  obtain ⟨A, c, rfl, hc, hcell⟩ := hv.open_
  have HC := hid (hcell w (Below.refl _ _))
  clear h hv hcell
  go_enter Tryz.func39, Tryz.ntmps39
  go_wp2
  go_loop [5] (fun i => ∃ k : Nat, k ≤ l.length ∧ i = .int .i64 k ∧ Hid (∀ j, j < k → l.getD j 0 ≠ x)) (fun i => l.length - (intOf i).toNat)
  case atStart => exact ⟨0, Nat.zero_le _, rfl, hid fun j hj => absurd hj (by omega)⟩
  case round =>
    obtain ⟨k, hk, rfl, HB⟩ := hrel
    by_cases hlt : k < l.length
    · obtain ⟨b, off, rfl, hcl⟩ := HC.out k hlt
      obtain ⟨y, hy⟩ : ∃ y, l.getD k 0 = y := ⟨_, rfl⟩
      rw [hy] at hcl
      have HY := hid hy
      clear hy
      have hlt2 : (k : Int) < (l.length : Int) := by omega
      by_cases hx : y = x
      · have HR := hid (inI_at hlt (HY.out.trans hx) HB.out)
        have hx2 : (y == x) = true := by rw [hx]; simp
        clear hx
        go_wp2
        go_ret
        exact ⟨ret_int (by rw [← H.out, HR.out]), rfl⟩
      · have hx2 : (y == x) = false := by simpa using hx
        have HX := hid (show l.getD k 0 ≠ x by rw [HY.out]; exact hx)
        clear hx
        go_wp2
        go_round
        case rel => exact ⟨k + 1, by omega, by go_num, hid fun j hj => by
          rcases Nat.lt_succ_iff_lt_or_eq.1 hj with h | h
          · exact HB.out j h
          · subst h; exact HX.out⟩
        case measure => simp [intOf]; omega
    · obtain rfl : k = l.length := by omega
      have hlt2 : ¬ (l.length : Int) < (l.length : Int) := by omega
      have HR := hid (inI_no HB.out)
      go_wp2
      go_ret
      exact ⟨ret_int (by rw [← H.out, HR.out]), rfl⟩
def keysE : List Int := [74, 75, 88, 80, 64, 76, 77, 83, 84]
theorem keysE_in {k : Int} : decide (0 ≤ inI keysE k) = editKey k := by
  by_cases h : k ∈ keysE
  · have h0 : 0 ≤ inI keysE k := by unfold inI; rw [if_pos h]; omega
    rw [decide_eq_true h0]
    simp only [keysE, List.mem_cons, List.not_mem_nil, or_false] at h
    exact (decide_eq_true h).symm
  · have h0 : ¬ 0 ≤ inI keysE k := by unfold inI; rw [if_neg h]; omega
    rw [decide_eq_false h0]
    simp only [keysE, List.mem_cons, List.not_mem_nil, or_false] at h
    exact (decide_eq_false h).symm
theorem RdI_new (w : World) (t : TypeId) (l : List Int) (cs : Array Value) (n : Nat) (h : cs.toList = l.map (.int .i64)) (hn : n = l.length) : RdI (w.alloc (.cells cs t)) (.slice (some ⟨w.heap.size, 0, none⟩) n n) l := by
  subst hn
  refine ⟨_, _, rfl, Nat.le_refl _, fun _ => ⟨_, _, rfl, fun i hi j hj => ?_⟩⟩
  obtain rfl : j = 0 := by omega
  rw [cell_new, ← Array.getElem?_toList, h]
  simp [hi]
set_option maxRecDepth 100000 in
theorem editKey_is {k : Int} {x : Bool} (h : editKey k = x) (w : World) : Calls Tryz.prog 22 #[.int .i64 k] w fun e w' => e = .returned (.bool x) ∧ Below w.heap.size w w' := by
  obtain ⟨r, hr⟩ : ∃ r, inI keysE k = r := ⟨_, rfl⟩
  have H := hid (show decide (0 ≤ r) = x by rw [← hr, keysE_in, h])
  have HI : Hid (∀ W, RdI W (.slice (some ⟨w.heap.size, 0, none⟩) 9 9) keysE → Calls Tryz.prog 39 #[.slice (some ⟨w.heap.size, 0, none⟩) 9 9, .int .i64 k] W _) := hid fun W hW => in_any hr _ W hW (by decide)
  clear h hr
  go_enter Tryz.func22, Tryz.ntmps22
  go_wp2_with (go_at_call 39; fail)
  refine (HI.out _ (RdI_new _ _ keysE _ _ rfl rfl)).mono ?_
  rintro e w' ⟨rfl, rfl⟩
  go_wp2
  go_ret
  exact ⟨ret_bool H.out, alloc_below (Below.refl _ _) _⟩
set_option maxRecDepth 100000 in
set_option maxHeartbeats 4000000 in
/-- may it be? -/
theorem ereg15_is {mi oi ti m0 o0 t0 : Value} {n m k r key nj : Int} {s : Scr} {lx : List Value} {w wr : World} {b g bin bx j kk kb ko kl kc sb so sl_ sc ii : Nat} {b1 b2 b3 may : Bool} {Q : Exit → Act → World → Prop}
    (hM : Mem w wr [(bx, Row 38 lx), (bin, Row 38 (scrL s mi oi ti)), (g, Row 3 (nsE n)), (b, Row 24 (askL (.slice (some ⟨sb, so, none⟩) sl_ sc) n m k r))]) (hkk : kk < kl) (hii : ii < sl_)
    (hkc : ∀ W, Below w.heap.size w W → W.cell? ⟨kb, ko + kk, none⟩ = some (.int .i64 key)) (hnj : (nsE n)[j]? = some (.int .i64 nj)) (hj : j < 8) (hel : ∀ W, Below w.heap.size w W → ∀ q u, (scrL s m0 o0 t0)[q]? = some u → W.cell? ⟨sb, so + ii * 43 + q, none⟩ = some u)
    (hmay : (b1 && b2 && b3) = may) (h1 : ∀ W, Below w.heap.size w W → Calls Tryz.prog 21 #[.agg (scrL s m0 o0 t0).toArray] W fun e w' => e = .returned (.bool b1) ∧ Below W.heap.size W w')
    (h2 : editKey key = b2) (h3 : numOk nj = b3) (u0 u3 u4 u9 u10 u11 u12 u13 u14 u15 u16 u17 u18 u19 u20 u21 u22 u23 u24 u25 u26 u27 u28 u29 u30 u31 u32 u33 u34 u35 u36 u37 u38 u39 u40 u41 u42 u43 u44 u45 u46 u47 u48 u49 u50 u51 u52 u53 u54 u55 u56 u57 u58 u59 u60 u61 u62 u63 u64 u65 u66 u67 u68 u69 u70 u71 u72 u73 u74 u75 u76 u77 u78 u79 u80 u81 u82 u83 u84 u85 u86 u87 u88 u89 u90 u91 u92 u93 u94 u95 u96 u97 u98 u99 u100 u101 u102 u103 u104 u105 u106 u107 u108 u109 u110 u111 u112 : Value)
    (hQ : ∀ w' (v64 v65 v66 v67 v68 v69 v70 v71 v72 v73 v74 v75 v76 v77 v78 v79 v80 v81 v82 v83 : Value), Mem w w' [(bx, Row 38 lx), (bin, Row 38 (scrL s mi oi ti)), (g, Row 3 (nsE n)), (b, Row 24 (askL (.slice (some ⟨sb, so, none⟩) sl_ sc) n m k r))] → Below wr.heap.size wr w' → Q .normal ⟨#[u0, .slice (some ⟨kb, ko, none⟩) kl kc, .pointer (some ⟨b, 0, none⟩), u3, u4, .int .i64 ii, .int .i64 kk, .slice (some ⟨g, 0, none⟩) 8 8, .int .i64 j, u9, u10, u11, .bool may, u13, u14, u15, u16, u17, u18, u19, u20, u21, u22, u23, u24, u25, u26, u27, u28, u29, u30, u31, u32, u33, u34, u35, u36, u37, u38, u39, u40, u41, u42, u43, u44, u45, u46, u47, u48, u49, u50, u51, u52, u53, u54, u55, u56, u57, u58, u59, u60, u61, u62, u63, v64, v65, v66, v67, v68, v69, v70, v71, v72, v73, v74, v75, v76, v77, v78, v79, v80, v81, v82, v83, u84, u85, u86, u87, u88, u89, u90, u91, u92, u93, u94, u95, u96, u97, u98, u99, u100, u101, u102, u103, u104, u105, u106, u107, u108, u109, u110, u111, u112], []⟩ w') :
    Code.wp Tryz.prog (ereg 15) Q ⟨#[u0, .slice (some ⟨kb, ko, none⟩) kl kc, .pointer (some ⟨b, 0, none⟩), u3, u4, .int .i64 ii, .int .i64 kk, .slice (some ⟨g, 0, none⟩) 8 8, .int .i64 j, u9, u10, u11, u12, u13, u14, u15, u16, u17, u18, u19, u20, u21, u22, u23, u24, u25, u26, u27, u28, u29, u30, u31, u32, u33, u34, u35, u36, u37, u38, u39, u40, u41, u42, u43, u44, u45, u46, u47, u48, u49, u50, u51, u52, u53, u54, u55, u56, u57, u58, u59, u60, u61, u62, u63, u64, u65, u66, u67, u68, u69, u70, u71, u72, u73, u74, u75, u76, u77, u78, u79, u80, u81, u82, u83, u84, u85, u86, u87, u88, u89, u90, u91, u92, u93, u94, u95, u96, u97, u98, u99, u100, u101, u102, u103, u104, u105, u106, u107, u108, u109, u110, u111, u112], []⟩ wr := by
  have HM := hid hM
  have HKC := hid hkc
  have HEL := hid hel
  have HJ := hid hnj
  have hkk2 : (kk : Int) < (kl : Int) := by omega
  have hii2 : (ii : Int) < (sl_ : Int) := by omega
  have hj2 : (j : Int) < 8 := by omega
  have H := hid hmay
  have HC1 := hid h1
  have HC2 : Hid (∀ W, Calls Tryz.prog 22 #[.int .i64 key] W fun e w' => e = .returned (.bool b2) ∧ Below W.heap.size W w') := hid fun W => editKey_is h2 W
  have HC3 : Hid (∀ W, Calls Tryz.prog 23 #[.int .i64 nj] W fun e w' => e = .returned (.bool b3) ∧ W = w') := hid fun W => numR_is h3 W
  clear hM hkc hel hnj hmay h1 h2 h3
  conv => arg 2; whnf
  conv => arg 4; zeta
  cases b1 with
  | false =>
    have hm : may = false := by rw [← H.out]; rfl
    subst hm
    refine mb_seq HM.out (fun hne => ?_)
    repeat (first | (go_big_quiet_want; refine mb_load rfl rfl (by first | exact .head _ | exact .tail _ (.head _) | exact .tail _ (.tail _ (.head _)) | exact .tail _ (.tail _ (.tail _ (.head _))) | exact .tail _ (.tail _ (.tail _ (.tail _ (.head _)))) | exact .tail _ (.tail _ (.tail _ (.tail _ (.tail _ (.head _))))) | exact .tail _ (.tail _ (.tail _ (.tail _ (.tail _ (.tail _ (.head _)))))) | exact .tail _ (.tail _ (.tail _ (.tail _ (.tail _ (.tail _ (.tail _ (.head _)))))))) rfl Tryz.underlying22 rfl ?_; simp only [Act.put, List.setIfInBounds_toArray, List.set_cons_zero, List.set_cons_succ]; go_big_quiet_on) | (go_big_quiet_want; refine mb_load rfl rfl (by first | exact .head _ | exact .tail _ (.head _) | exact .tail _ (.tail _ (.head _)) | exact .tail _ (.tail _ (.tail _ (.head _))) | exact .tail _ (.tail _ (.tail _ (.tail _ (.head _)))) | exact .tail _ (.tail _ (.tail _ (.tail _ (.tail _ (.head _))))) | exact .tail _ (.tail _ (.tail _ (.tail _ (.tail _ (.tail _ (.head _)))))) | exact .tail _ (.tail _ (.tail _ (.tail _ (.tail _ (.tail _ (.tail _ (.head _)))))))) HJ.out Tryz.underlying3 rfl ?_; simp only [Act.put, List.setIfInBounds_toArray, List.set_cons_zero, List.set_cons_succ]; go_big_quiet_on) | (go_big_quiet_want; refine mq_any rfl rfl (fun W hW => by obtain ⟨y, rfl⟩ := hW; exact load_sl (HEL.out y.W y.h.below)) ?_; simp only [Act.put, List.setIfInBounds_toArray, List.set_cons_zero, List.set_cons_succ]; go_big_quiet_on) | (go_big_quiet_want; refine mq_any rfl rfl (fun W hW => by obtain ⟨y, rfl⟩ := hW; exact load_one Tryz.underlying3 rfl (HKC.out y.W y.h.below)) ?_; simp only [Act.put, List.setIfInBounds_toArray, List.set_cons_zero, List.set_cons_succ]; go_big_quiet_on) | go_big_quiet_step ((first | (go_at_call 21; with_reducible exact mb_call _ (HC1.out _ (MemB.below _))) | (go_at_call 22; with_reducible exact mb_call _ (HC2.out _)) | (go_at_call 23; with_reducible exact mb_still _ (HC3.out _)))))
    refine wpQuiet_nil ?_
    intro wq hMq hBq
    exact hQ wq _ _ _ _ _ _ _ _ _ _ _ _ _ _ _ _ _ _ _ _ hMq hBq
  | true =>
  cases b2 with
  | false =>
    have hm : may = false := by rw [← H.out]; rfl
    subst hm
    refine mb_seq HM.out (fun hne => ?_)
    repeat (first | (go_big_quiet_want; refine mb_load rfl rfl (by first | exact .head _ | exact .tail _ (.head _) | exact .tail _ (.tail _ (.head _)) | exact .tail _ (.tail _ (.tail _ (.head _))) | exact .tail _ (.tail _ (.tail _ (.tail _ (.head _)))) | exact .tail _ (.tail _ (.tail _ (.tail _ (.tail _ (.head _))))) | exact .tail _ (.tail _ (.tail _ (.tail _ (.tail _ (.tail _ (.head _)))))) | exact .tail _ (.tail _ (.tail _ (.tail _ (.tail _ (.tail _ (.tail _ (.head _)))))))) rfl Tryz.underlying22 rfl ?_; simp only [Act.put, List.setIfInBounds_toArray, List.set_cons_zero, List.set_cons_succ]; go_big_quiet_on) | (go_big_quiet_want; refine mb_load rfl rfl (by first | exact .head _ | exact .tail _ (.head _) | exact .tail _ (.tail _ (.head _)) | exact .tail _ (.tail _ (.tail _ (.head _))) | exact .tail _ (.tail _ (.tail _ (.tail _ (.head _)))) | exact .tail _ (.tail _ (.tail _ (.tail _ (.tail _ (.head _))))) | exact .tail _ (.tail _ (.tail _ (.tail _ (.tail _ (.tail _ (.head _)))))) | exact .tail _ (.tail _ (.tail _ (.tail _ (.tail _ (.tail _ (.tail _ (.head _)))))))) HJ.out Tryz.underlying3 rfl ?_; simp only [Act.put, List.setIfInBounds_toArray, List.set_cons_zero, List.set_cons_succ]; go_big_quiet_on) | (go_big_quiet_want; refine mq_any rfl rfl (fun W hW => by obtain ⟨y, rfl⟩ := hW; exact load_sl (HEL.out y.W y.h.below)) ?_; simp only [Act.put, List.setIfInBounds_toArray, List.set_cons_zero, List.set_cons_succ]; go_big_quiet_on) | (go_big_quiet_want; refine mq_any rfl rfl (fun W hW => by obtain ⟨y, rfl⟩ := hW; exact load_one Tryz.underlying3 rfl (HKC.out y.W y.h.below)) ?_; simp only [Act.put, List.setIfInBounds_toArray, List.set_cons_zero, List.set_cons_succ]; go_big_quiet_on) | go_big_quiet_step ((first | (go_at_call 21; with_reducible exact mb_call _ (HC1.out _ (MemB.below _))) | (go_at_call 22; with_reducible exact mb_call _ (HC2.out _)) | (go_at_call 23; with_reducible exact mb_still _ (HC3.out _)))))
    refine wpQuiet_nil ?_
    intro wq hMq hBq
    exact hQ wq _ _ _ _ _ _ _ _ _ _ _ _ _ _ _ _ _ _ _ _ hMq hBq
  | true =>
  cases b3 with
  | false =>
    have hm : may = false := by rw [← H.out]; rfl
    subst hm
    refine mb_seq HM.out (fun hne => ?_)
    repeat (first | (go_big_quiet_want; refine mb_load rfl rfl (by first | exact .head _ | exact .tail _ (.head _) | exact .tail _ (.tail _ (.head _)) | exact .tail _ (.tail _ (.tail _ (.head _))) | exact .tail _ (.tail _ (.tail _ (.tail _ (.head _)))) | exact .tail _ (.tail _ (.tail _ (.tail _ (.tail _ (.head _))))) | exact .tail _ (.tail _ (.tail _ (.tail _ (.tail _ (.tail _ (.head _)))))) | exact .tail _ (.tail _ (.tail _ (.tail _ (.tail _ (.tail _ (.tail _ (.head _)))))))) rfl Tryz.underlying22 rfl ?_; simp only [Act.put, List.setIfInBounds_toArray, List.set_cons_zero, List.set_cons_succ]; go_big_quiet_on) | (go_big_quiet_want; refine mb_load rfl rfl (by first | exact .head _ | exact .tail _ (.head _) | exact .tail _ (.tail _ (.head _)) | exact .tail _ (.tail _ (.tail _ (.head _))) | exact .tail _ (.tail _ (.tail _ (.tail _ (.head _)))) | exact .tail _ (.tail _ (.tail _ (.tail _ (.tail _ (.head _))))) | exact .tail _ (.tail _ (.tail _ (.tail _ (.tail _ (.tail _ (.head _)))))) | exact .tail _ (.tail _ (.tail _ (.tail _ (.tail _ (.tail _ (.tail _ (.head _)))))))) HJ.out Tryz.underlying3 rfl ?_; simp only [Act.put, List.setIfInBounds_toArray, List.set_cons_zero, List.set_cons_succ]; go_big_quiet_on) | (go_big_quiet_want; refine mq_any rfl rfl (fun W hW => by obtain ⟨y, rfl⟩ := hW; exact load_sl (HEL.out y.W y.h.below)) ?_; simp only [Act.put, List.setIfInBounds_toArray, List.set_cons_zero, List.set_cons_succ]; go_big_quiet_on) | (go_big_quiet_want; refine mq_any rfl rfl (fun W hW => by obtain ⟨y, rfl⟩ := hW; exact load_one Tryz.underlying3 rfl (HKC.out y.W y.h.below)) ?_; simp only [Act.put, List.setIfInBounds_toArray, List.set_cons_zero, List.set_cons_succ]; go_big_quiet_on) | go_big_quiet_step ((first | (go_at_call 21; with_reducible exact mb_call _ (HC1.out _ (MemB.below _))) | (go_at_call 22; with_reducible exact mb_call _ (HC2.out _)) | (go_at_call 23; with_reducible exact mb_still _ (HC3.out _)))))
    refine wpQuiet_nil ?_
    intro wq hMq hBq
    exact hQ wq _ _ _ _ _ _ _ _ _ _ _ _ _ _ _ _ _ _ _ _ hMq hBq
  | true =>
    have hm : may = true := by rw [← H.out]; rfl
    subst hm
    refine mb_seq HM.out (fun hne => ?_)
    repeat (first | (go_big_quiet_want; refine mb_load rfl rfl (by first | exact .head _ | exact .tail _ (.head _) | exact .tail _ (.tail _ (.head _)) | exact .tail _ (.tail _ (.tail _ (.head _))) | exact .tail _ (.tail _ (.tail _ (.tail _ (.head _)))) | exact .tail _ (.tail _ (.tail _ (.tail _ (.tail _ (.head _))))) | exact .tail _ (.tail _ (.tail _ (.tail _ (.tail _ (.tail _ (.head _)))))) | exact .tail _ (.tail _ (.tail _ (.tail _ (.tail _ (.tail _ (.tail _ (.head _)))))))) rfl Tryz.underlying22 rfl ?_; simp only [Act.put, List.setIfInBounds_toArray, List.set_cons_zero, List.set_cons_succ]; go_big_quiet_on) | (go_big_quiet_want; refine mb_load rfl rfl (by first | exact .head _ | exact .tail _ (.head _) | exact .tail _ (.tail _ (.head _)) | exact .tail _ (.tail _ (.tail _ (.head _))) | exact .tail _ (.tail _ (.tail _ (.tail _ (.head _)))) | exact .tail _ (.tail _ (.tail _ (.tail _ (.tail _ (.head _))))) | exact .tail _ (.tail _ (.tail _ (.tail _ (.tail _ (.tail _ (.head _)))))) | exact .tail _ (.tail _ (.tail _ (.tail _ (.tail _ (.tail _ (.tail _ (.head _)))))))) HJ.out Tryz.underlying3 rfl ?_; simp only [Act.put, List.setIfInBounds_toArray, List.set_cons_zero, List.set_cons_succ]; go_big_quiet_on) | (go_big_quiet_want; refine mq_any rfl rfl (fun W hW => by obtain ⟨y, rfl⟩ := hW; exact load_sl (HEL.out y.W y.h.below)) ?_; simp only [Act.put, List.setIfInBounds_toArray, List.set_cons_zero, List.set_cons_succ]; go_big_quiet_on) | (go_big_quiet_want; refine mq_any rfl rfl (fun W hW => by obtain ⟨y, rfl⟩ := hW; exact load_one Tryz.underlying3 rfl (HKC.out y.W y.h.below)) ?_; simp only [Act.put, List.setIfInBounds_toArray, List.set_cons_zero, List.set_cons_succ]; go_big_quiet_on) | go_big_quiet_step ((first | (go_at_call 21; with_reducible exact mb_call _ (HC1.out _ (MemB.below _))) | (go_at_call 22; with_reducible exact mb_call _ (HC2.out _)) | (go_at_call 23; with_reducible exact mb_still _ (HC3.out _)))))
    refine wpQuiet_nil ?_
    intro wq hMq hBq
    exact hQ wq _ _ _ _ _ _ _ _ _ _ _ _ _ _ _ _ _ _ _ _ hMq hBq
set_option maxRecDepth 100000 in
set_option maxHeartbeats 4000000 in
/-- the reference's answer -/
theorem ereg18_is {mi oi ti m0 o0 t0 : Value} {n m k r key nj : Int} {s R : Scr} {lx : List Value} {w wr : World} {b g bin bx bw j kk kb ko kl kc sb so sl_ sc ii : Nat} {Q : Exit → Act → World → Prop}
    (hM : Mem w wr [(bw, Row 38 zL), (bx, Row 38 lx), (bin, Row 38 (scrL s mi oi ti)), (g, Row 3 (nsE n)), (b, Row 24 (askL (.slice (some ⟨sb, so, none⟩) sl_ sc) n m k r))]) (hkk : kk < kl) (hii : ii < sl_)
    (hkc : ∀ W, Below w.heap.size w W → W.cell? ⟨kb, ko + kk, none⟩ = some (.int .i64 key)) (hnj : (nsE n)[j]? = some (.int .i64 nj)) (hj : j < 8) (hel : ∀ W, Below w.heap.size w W → ∀ q u, (scrL s m0 o0 t0)[q]? = some u → W.cell? ⟨sb, so + ii * 43 + q, none⟩ = some u)
    (href : ∀ W, Below w.heap.size w W → Calls Tryz.prog 24 #[.agg (scrL s m0 o0 t0).toArray, .int .i64 key, .int .i64 nj] W fun e w' => ∃ m' o' t', e = .returned (.agg (scrL R m' o' t').toArray) ∧ OwnScr w' W.heap.size R m' o' t' ∧ Below W.heap.size W w') (hR : R.small)
    (hP : ∀ c a (d : Tmp) v w, Q (.panic c) (Act.put a (some d) v) w → Q (.panic c) a w) (u0 u3 u4 u9 u10 u11 u12 u14 u15 u16 u17 u18 u19 u20 u21 u22 u23 u24 u25 u26 u27 u28 u29 u30 u31 u32 u33 u34 u35 u36 u37 u38 u39 u40 u41 u42 u43 u44 u45 u46 u47 u48 u49 u50 u51 u52 u53 u54 u55 u56 u57 u58 u59 u60 u61 u62 u63 u64 u65 u66 u67 u68 u69 u70 u71 u72 u73 u74 u75 u76 u77 u78 u79 u80 u81 u82 u83 u84 u85 u86 u87 u88 u89 u90 u91 u92 u93 u94 u95 u96 u97 u98 u99 u100 u101 u102 u103 u104 u105 u106 u107 u108 u109 u110 u111 u112 : Value)
    (hQ : ∀ w' A1 k1 A2 k2 A3 k3 (v86 v87 v88 v89 v90 v91 v92 v93 v94 v95 v96 v97 v98 v99 : Value), Mem w w' [(bw, Row 38 (scrL R (.slice A1 R.ms.length k1) (.slice A2 R.os.length k2) (.slice A3 R.tabs.length k3))), (bx, Row 38 lx), (bin, Row 38 (scrL s mi oi ti)), (g, Row 3 (nsE n)), (b, Row 24 (askL (.slice (some ⟨sb, so, none⟩) sl_ sc) n m k r))] → RdScr w' R (.slice A1 R.ms.length k1) (.slice A2 R.os.length k2) (.slice A3 R.tabs.length k3) → wr.grownBy w' (some bw) →
      Q .normal ⟨#[u0, .slice (some ⟨kb, ko, none⟩) kl kc, .pointer (some ⟨b, 0, none⟩), u3, u4, .int .i64 ii, .int .i64 kk, .slice (some ⟨g, 0, none⟩) 8 8, .int .i64 j, u9, u10, u11, u12, .pointer (some ⟨bw, 0, none⟩), u14, u15, u16, u17, u18, u19, u20, u21, u22, u23, u24, u25, u26, u27, u28, u29, u30, u31, u32, u33, u34, u35, u36, u37, u38, u39, u40, u41, u42, u43, u44, u45, u46, u47, u48, u49, u50, u51, u52, u53, u54, u55, u56, u57, u58, u59, u60, u61, u62, u63, u64, u65, u66, u67, u68, u69, u70, u71, u72, u73, u74, u75, u76, u77, u78, u79, u80, u81, u82, u83, u84, u85, v86, v87, v88, v89, v90, v91, v92, v93, v94, v95, v96, v97, v98, v99, u100, u101, u102, u103, u104, u105, u106, u107, u108, u109, u110, u111, u112], []⟩ w') :
    Code.wp Tryz.prog (ereg 18) Q ⟨#[u0, .slice (some ⟨kb, ko, none⟩) kl kc, .pointer (some ⟨b, 0, none⟩), u3, u4, .int .i64 ii, .int .i64 kk, .slice (some ⟨g, 0, none⟩) 8 8, .int .i64 j, u9, u10, u11, u12, .pointer (some ⟨bw, 0, none⟩), u14, u15, u16, u17, u18, u19, u20, u21, u22, u23, u24, u25, u26, u27, u28, u29, u30, u31, u32, u33, u34, u35, u36, u37, u38, u39, u40, u41, u42, u43, u44, u45, u46, u47, u48, u49, u50, u51, u52, u53, u54, u55, u56, u57, u58, u59, u60, u61, u62, u63, u64, u65, u66, u67, u68, u69, u70, u71, u72, u73, u74, u75, u76, u77, u78, u79, u80, u81, u82, u83, u84, u85, u86, u87, u88, u89, u90, u91, u92, u93, u94, u95, u96, u97, u98, u99, u100, u101, u102, u103, u104, u105, u106, u107, u108, u109, u110, u111, u112], []⟩ wr := by
  have HM := hid hM
  have HKC := hid hkc
  have HEL := hid hel
  have HJ := hid hnj
  have hkk2 : (kk : Int) < (kl : Int) := by omega
  have hii2 : (ii : Int) < (sl_ : Int) := by omega
  have hj2 : (j : Int) < 8 := by omega
  have HRF := hid href
  clear hM hkc hel hnj href
  conv => arg 2; whnf
  conv => arg 4; zeta
  refine start_ (n := 15) (S := fun W => Mem w W [(bw, Row 38 zL), (bx, Row 38 lx), (bin, Row 38 (scrL s mi oi ti)), (g, Row 3 (nsE n)), (b, Row 24 (askL (.slice (some ⟨sb, so, none⟩) sl_ sc) n m k r))]) (ds := [14]) #[false, false, false, false, false, false, false, false, false, false, false, false, false, false, false] (by kernel_rfl) rfl rfl HM.out.drew (fun hS => ?_)
  refine take_ (i := 0) (N := some 86) (a' := ?_) (v := .pointer (some ⟨b, 0, none⟩)) #[true, false, false, false, false, false, false, false, false, false, false, false, false, false, false] rfl rfl (by kernel_rfl) (by first | exact fun _ _ _ h => h | exact fun _ _ _ h => hP _ _ _ _ _ h) (Or.inl ⟨by rfl, fun w' _ => by go_simp⟩) hS ?_ ?_
  rotate_left
  · simp only [Act.put, List.setIfInBounds_toArray, List.set_cons_zero, List.set_cons_succ]
    rfl
  refine take_ (i := 1) (N := some 87) (a' := ?_) (v := .slice (some ⟨sb, so, none⟩) sl_ sc) #[true, true, false, false, false, false, false, false, false, false, false, false, false, false, false] rfl rfl (by kernel_rfl) (by first | exact fun _ _ _ h => h | exact fun _ _ _ h => hP _ _ _ _ _ h) (y_load rfl rfl rfl (by first | exact .head _ | exact .tail _ (.head _) | exact .tail _ (.tail _ (.head _)) | exact .tail _ (.tail _ (.tail _ (.head _))) | exact .tail _ (.tail _ (.tail _ (.tail _ (.head _)))) | exact .tail _ (.tail _ (.tail _ (.tail _ (.tail _ (.head _))))) | exact .tail _ (.tail _ (.tail _ (.tail _ (.tail _ (.tail _ (.head _)))))) | exact .tail _ (.tail _ (.tail _ (.tail _ (.tail _ (.tail _ (.tail _ (.head _)))))))) rfl Tryz.underlying22 rfl) hS ?_ ?_
  rotate_left
  · simp only [Act.put, List.setIfInBounds_toArray, List.set_cons_zero, List.set_cons_succ]
    rfl
  refine take_ (i := 2) (N := some 88) (a' := ?_) (v := .int .i64 ii) #[true, true, true, false, false, false, false, false, false, false, false, false, false, false, false] rfl rfl (by kernel_rfl) (by first | exact fun _ _ _ h => h | exact fun _ _ _ h => hP _ _ _ _ _ h) (Or.inl ⟨by rfl, fun w' _ => by go_simp⟩) hS ?_ ?_
  rotate_left
  · simp only [Act.put, List.setIfInBounds_toArray, List.set_cons_zero, List.set_cons_succ]
    rfl
  refine take_ (i := 3) (N := some 89) (a' := ?_) (v := .pointer (some ⟨sb, so + ii * 43, none⟩)) #[true, true, true, true, false, false, false, false, false, false, false, false, false, false, false] rfl rfl (by kernel_rfl) (by first | exact fun _ _ _ h => h | exact fun _ _ _ h => hP _ _ _ _ _ h) (Or.inl ⟨by rfl, fun w' _ => by go_simp⟩) hS ?_ ?_
  rotate_left
  · simp only [Act.put, List.setIfInBounds_toArray, List.set_cons_zero, List.set_cons_succ]
    rfl
  refine take_ (i := 4) (N := some 90) (a' := ?_) (v := .agg (scrL s m0 o0 t0).toArray) #[true, true, true, true, true, false, false, false, false, false, false, false, false, false, false] rfl rfl (by kernel_rfl) (by first | exact fun _ _ _ h => h | exact fun _ _ _ h => hP _ _ _ _ _ h) (y_any rfl rfl rfl (fun W hW => load_sl (HEL.out W hW.below))) hS ?_ ?_
  rotate_left
  · simp only [Act.put, List.setIfInBounds_toArray, List.set_cons_zero, List.set_cons_succ]
    rfl
  refine take_ (i := 5) (N := some 91) (a' := ?_) (v := .slice (some ⟨kb, ko, none⟩) kl kc) #[true, true, true, true, true, true, false, false, false, false, false, false, false, false, false] rfl rfl (by kernel_rfl) (by first | exact fun _ _ _ h => h | exact fun _ _ _ h => hP _ _ _ _ _ h) (Or.inl ⟨by rfl, fun w' _ => by go_simp⟩) hS ?_ ?_
  rotate_left
  · simp only [Act.put, List.setIfInBounds_toArray, List.set_cons_zero, List.set_cons_succ]
    rfl
  refine take_ (i := 6) (N := some 92) (a' := ?_) (v := .int .i64 kk) #[true, true, true, true, true, true, true, false, false, false, false, false, false, false, false] rfl rfl (by kernel_rfl) (by first | exact fun _ _ _ h => h | exact fun _ _ _ h => hP _ _ _ _ _ h) (Or.inl ⟨by rfl, fun w' _ => by go_simp⟩) hS ?_ ?_
  rotate_left
  · simp only [Act.put, List.setIfInBounds_toArray, List.set_cons_zero, List.set_cons_succ]
    rfl
  refine take_ (i := 7) (N := some 93) (a' := ?_) (v := .pointer (some ⟨kb, ko + kk, none⟩)) #[true, true, true, true, true, true, true, true, false, false, false, false, false, false, false] rfl rfl (by kernel_rfl) (by first | exact fun _ _ _ h => h | exact fun _ _ _ h => hP _ _ _ _ _ h) (Or.inl ⟨by rfl, fun w' _ => by go_simp⟩) hS ?_ ?_
  rotate_left
  · simp only [Act.put, List.setIfInBounds_toArray, List.set_cons_zero, List.set_cons_succ]
    rfl
  refine take_ (i := 8) (N := some 94) (a' := ?_) (v := .int .i64 key) #[true, true, true, true, true, true, true, true, true, false, false, false, false, false, false] rfl rfl (by kernel_rfl) (by first | exact fun _ _ _ h => h | exact fun _ _ _ h => hP _ _ _ _ _ h) (y_any rfl rfl rfl (fun W hW => load_one Tryz.underlying3 rfl (HKC.out W hW.below))) hS ?_ ?_
  rotate_left
  · simp only [Act.put, List.setIfInBounds_toArray, List.set_cons_zero, List.set_cons_succ]
    rfl
  refine take_ (i := 9) (N := some 95) (a' := ?_) (v := .slice (some ⟨g, 0, none⟩) 8 8) #[true, true, true, true, true, true, true, true, true, true, false, false, false, false, false] rfl rfl (by kernel_rfl) (by first | exact fun _ _ _ h => h | exact fun _ _ _ h => hP _ _ _ _ _ h) (Or.inl ⟨by rfl, fun w' _ => by go_simp⟩) hS ?_ ?_
  rotate_left
  · simp only [Act.put, List.setIfInBounds_toArray, List.set_cons_zero, List.set_cons_succ]
    rfl
  refine take_ (i := 10) (N := some 96) (a' := ?_) (v := .int .i64 j) #[true, true, true, true, true, true, true, true, true, true, true, false, false, false, false] rfl rfl (by kernel_rfl) (by first | exact fun _ _ _ h => h | exact fun _ _ _ h => hP _ _ _ _ _ h) (Or.inl ⟨by rfl, fun w' _ => by go_simp⟩) hS ?_ ?_
  rotate_left
  · simp only [Act.put, List.setIfInBounds_toArray, List.set_cons_zero, List.set_cons_succ]
    rfl
  refine take_ (i := 11) (N := some 97) (a' := ?_) (v := .pointer (some ⟨g, j, none⟩)) #[true, true, true, true, true, true, true, true, true, true, true, true, false, false, false] rfl rfl (by kernel_rfl) (by first | exact fun _ _ _ h => h | exact fun _ _ _ h => hP _ _ _ _ _ h) (Or.inl ⟨by rfl, fun w' _ => by go_simp⟩) hS ?_ ?_
  rotate_left
  · simp only [Act.put, List.setIfInBounds_toArray, List.set_cons_zero, List.set_cons_succ]
    rfl
  refine take_ (i := 12) (N := some 98) (a' := ?_) (v := .int .i64 nj) #[true, true, true, true, true, true, true, true, true, true, true, true, true, false, false] rfl rfl (by kernel_rfl) (by first | exact fun _ _ _ h => h | exact fun _ _ _ h => hP _ _ _ _ _ h) (y_load rfl rfl rfl (by first | exact .head _ | exact .tail _ (.head _) | exact .tail _ (.tail _ (.head _)) | exact .tail _ (.tail _ (.tail _ (.head _))) | exact .tail _ (.tail _ (.tail _ (.tail _ (.head _)))) | exact .tail _ (.tail _ (.tail _ (.tail _ (.tail _ (.head _))))) | exact .tail _ (.tail _ (.tail _ (.tail _ (.tail _ (.tail _ (.head _)))))) | exact .tail _ (.tail _ (.tail _ (.tail _ (.tail _ (.tail _ (.tail _ (.head _)))))))) HJ.out (by first | exact Tryz.underlying3 | exact Tryz.underlying4 | exact Tryz.underlying9 | exact Tryz.underlying29 | exact Tryz.underlying36) rfl) hS ?_ ?_
  rotate_left
  · simp only [Act.put, List.setIfInBounds_toArray, List.set_cons_zero, List.set_cons_succ]
    rfl
  refine one_ (i := 13) (N := some 99) #[true, true, true, true, true, true, true, true, true, true, true, true, true, true, false] rfl rfl (by kernel_rfl) (by decide) (fun K hK => ?_)
  refine goes_ Tryz.func24 (by kernel_rfl) rfl #[.agg (scrL s m0 o0 t0).toArray, .int .i64 key, .int .i64 nj] (by rfl) rfl rfl (by simp only [List.map_toArray, List.map_cons, List.map_nil]; rfl) ?_
  refine (HRF.out _ hS.below).mono ?_
  rintro e w4 ⟨m', o', t', rfl, hO, hB⟩
  obtain ⟨A1, k1, rfl⟩ := hO.hm.slice
  obtain ⟨A2, k2, rfl⟩ := hO.ho.slice
  obtain ⟨A3, k3, rfl⟩ := ownB_slice hO.ht
  have hlt : bw < wr.heap.size := HM.out.lt (.head _)
  refine ⟨_, rfl, hK.out _ _ (hS.call hB) (fun hS2 => ?_)⟩
  clear hK K hS
  refine norm_ (a' := ?_) ?_ ?_
  rotate_left
  · simp only [Act.put, List.setIfInBounds_toArray, List.set_cons_zero, List.set_cons_succ]
    rfl
  refine last_ (i := 14) (N := none) #[true, true, true, true, true, true, true, true, true, true, true, true, true, true, true] rfl rfl (by kernel_rfl) (by decide) (fun K hK => ?_)
  refine y_storeA hS2 rfl rfl rfl rfl 0 rfl rfl rfl (by kernel_rfl) rfl (fun w6 hM6 hg => hK.out _ _ ?_)
  clear hK K
  refine done_ (by kernel_rfl) ?_
  have hlt2 : bw < wr.drew.heap.size := hlt
  have hO6 : RdScr w6 R (.slice A1 R.ms.length k1) (.slice A2 R.os.length k2) (.slice A3 R.tabs.length k3) := ⟨OwnC.rd (base := wr.drew.heap.size) (own_grown hO.hm hg hlt2), OwnC.rd (base := wr.drew.heap.size) (own_grown hO.ho hg hlt2), OwnB.rd (base := wr.drew.heap.size) (own_grown hO.ht hg hlt2), hR⟩
  exact hQ w6 _ _ _ _ _ _ _ _ _ _ _ _ _ _ _ _ _ _ _ _ hM6 hO6 (grown_trans (grown_of_below ((Below.refl _ _).drew.trans hB) _) hg)

set_option maxRecDepth 100000 in
set_option maxHeartbeats 4000000 in
/-- the look -/
theorem ereg19_is {m0 o0 t0 : Value} {n m k r ec : Int} {s : Scr} {may : Bool} {lx li lw : List Value} {w wr wB : World} {b g bin bx bw sb so sl_ sc ii : Nat} {Q : Exit → Act → World → Prop}
    (hM : Mem w wr [(bw, Row 38 lw), (bx, Row 38 lx), (bin, Row 38 li), (g, Row 3 (nsE n)), (b, Row 24 (askL (.slice (some ⟨sb, so, none⟩) sl_ sc) n m k r))]) (hii : ii < sl_)
    (h43w : lw.length = 43) (h43x : lx.length = 43) (h43i : li.length = 43)
    (hel : ∀ W, Below w.heap.size w W → ∀ q u, (scrL s m0 o0 t0)[q]? = some u → W.cell? ⟨sb, so + ii * 43 + q, none⟩ = some u)
    (hMB : Mem w wB [(g, Row 3 (nsE n)), (b, Row 24 (askL (.slice (some ⟨sb, so, none⟩) sl_ sc) n m k r))])
    (hsame : Calls Tryz.prog 25 #[.agg lx.toArray, .int .i64 ec, .bool may, .agg lw.toArray, .agg li.toArray, .agg (scrL s m0 o0 t0).toArray] wr.drew fun e w' => e = .returned (.bool true) ∧ Below wB.heap.size wB w')
    (hP : ∀ c a (d : Tmp) v w, Q (.panic c) (Act.put a (some d) v) w → Q (.panic c) a w) (u0 u1 u3 u4 u6 u7 u8 u14 u15 u16 u17 u18 u19 u20 u21 u22 u23 u24 u25 u26 u27 u28 u29 u30 u31 u32 u33 u34 u35 u36 u37 u38 u39 u40 u41 u42 u43 u44 u45 u46 u47 u48 u49 u50 u51 u52 u53 u54 u55 u56 u57 u58 u59 u60 u61 u62 u63 u64 u65 u66 u67 u68 u69 u70 u71 u72 u73 u74 u75 u76 u77 u78 u79 u80 u81 u82 u83 u84 u85 u86 u87 u88 u89 u90 u91 u92 u93 u94 u95 u96 u97 u98 u99 u100 u101 u102 u103 u104 u105 u106 u107 u108 u109 u110 u111 u112 : Value)
    (hQ : ∀ w' (v100 v101 v102 v103 v104 v105 v106 v107 v108 v109 v110 : Value), Mem w w' [(g, Row 3 (nsE n)), (b, Row 24 (askL (.slice (some ⟨sb, so, none⟩) sl_ sc) n m k r))] →
      Q .normal ⟨#[u0, u1, .pointer (some ⟨b, 0, none⟩), u3, u4, .int .i64 ii, u6, u7, u8, .pointer (some ⟨bin, 0, none⟩), .pointer (some ⟨bx, 0, none⟩), .int .i64 ec, .bool may, .pointer (some ⟨bw, 0, none⟩), u14, u15, u16, u17, u18, u19, u20, u21, u22, u23, u24, u25, u26, u27, u28, u29, u30, u31, u32, u33, u34, u35, u36, u37, u38, u39, u40, u41, u42, u43, u44, u45, u46, u47, u48, u49, u50, u51, u52, u53, u54, u55, u56, u57, u58, u59, u60, u61, u62, u63, u64, u65, u66, u67, u68, u69, u70, u71, u72, u73, u74, u75, u76, u77, u78, u79, u80, u81, u82, u83, u84, u85, u86, u87, u88, u89, u90, u91, u92, u93, u94, u95, u96, u97, u98, u99, v100, v101, v102, v103, v104, v105, v106, v107, v108, v109, v110, .bool false, u112], []⟩ w') :
    Code.wp Tryz.prog (ereg 19) Q ⟨#[u0, u1, .pointer (some ⟨b, 0, none⟩), u3, u4, .int .i64 ii, u6, u7, u8, .pointer (some ⟨bin, 0, none⟩), .pointer (some ⟨bx, 0, none⟩), .int .i64 ec, .bool may, .pointer (some ⟨bw, 0, none⟩), u14, u15, u16, u17, u18, u19, u20, u21, u22, u23, u24, u25, u26, u27, u28, u29, u30, u31, u32, u33, u34, u35, u36, u37, u38, u39, u40, u41, u42, u43, u44, u45, u46, u47, u48, u49, u50, u51, u52, u53, u54, u55, u56, u57, u58, u59, u60, u61, u62, u63, u64, u65, u66, u67, u68, u69, u70, u71, u72, u73, u74, u75, u76, u77, u78, u79, u80, u81, u82, u83, u84, u85, u86, u87, u88, u89, u90, u91, u92, u93, u94, u95, u96, u97, u98, u99, u100, u101, u102, u103, u104, u105, u106, u107, u108, u109, u110, u111, u112], []⟩ wr := by
  have HM := hid hM
  have HEL := hid hel
  have HSA := hid hsame
  have hii2 : (ii : Int) < (sl_ : Int) := by omega
  have HW := hid (show (lw.drop 0).take lw.length = lw by simp)
  have HXX := hid (show (lx.drop 0).take lx.length = lx by simp)
  have HI := hid (show (li.drop 0).take li.length = li by simp)
  have H4 := hid (show (Tryz.prog.info? 38).map (·.size) = some lw.length by rw [h43w]; kernel_rfl)
  have H5 := hid (show (Tryz.prog.info? 38).map (·.size) = some lx.length by rw [h43x]; kernel_rfl)
  have H6 := hid (show (Tryz.prog.info? 38).map (·.size) = some li.length by rw [h43i]; kernel_rfl)
  clear hM hel hsame h43w h43x h43i
  conv => arg 2; whnf
  conv => arg 4; zeta
  refine start_ (n := 12) (S := fun W => Mem w W [(bw, Row 38 lw), (bx, Row 38 lx), (bin, Row 38 li), (g, Row 3 (nsE n)), (b, Row 24 (askL (.slice (some ⟨sb, so, none⟩) sl_ sc) n m k r))]) (ds := [10]) #[false, false, false, false, false, false, false, false, false, false, false, false] (by kernel_rfl) rfl rfl HM.out.drew (fun hS => ?_)
  refine take_ (i := 0) (N := some 100) (a' := ?_) (v := .agg lx.toArray) #[true, false, false, false, false, false, false, false, false, false, false, false] rfl rfl (by kernel_rfl) (by first | exact fun _ _ _ h => h | exact fun _ _ _ h => hP _ _ _ _ _ h) (y_loadS rfl rfl rfl (by first | exact .head _ | exact .tail _ (.head _) | exact .tail _ (.tail _ (.head _)) | exact .tail _ (.tail _ (.tail _ (.head _))) | exact .tail _ (.tail _ (.tail _ (.tail _ (.head _)))) | exact .tail _ (.tail _ (.tail _ (.tail _ (.tail _ (.head _))))) | exact .tail _ (.tail _ (.tail _ (.tail _ (.tail _ (.tail _ (.head _)))))) | exact .tail _ (.tail _ (.tail _ (.tail _ (.tail _ (.tail _ (.tail _ (.head _)))))))) HXX.out Tryz.underlying38 rfl H5.out) hS ?_ ?_
  rotate_left
  · simp only [Act.put, List.setIfInBounds_toArray, List.set_cons_zero, List.set_cons_succ]
    rfl
  refine take_ (i := 1) (N := some 101) (a' := ?_) (v := .int .i64 ec) #[true, true, false, false, false, false, false, false, false, false, false, false] rfl rfl (by kernel_rfl) (by first | exact fun _ _ _ h => h | exact fun _ _ _ h => hP _ _ _ _ _ h) (Or.inl ⟨by rfl, fun w' _ => by go_simp⟩) hS ?_ ?_
  rotate_left
  · simp only [Act.put, List.setIfInBounds_toArray, List.set_cons_zero, List.set_cons_succ]
    rfl
  refine take_ (i := 2) (N := some 102) (a' := ?_) (v := .bool may) #[true, true, true, false, false, false, false, false, false, false, false, false] rfl rfl (by kernel_rfl) (by first | exact fun _ _ _ h => h | exact fun _ _ _ h => hP _ _ _ _ _ h) (Or.inl ⟨by rfl, fun w' _ => by go_simp⟩) hS ?_ ?_
  rotate_left
  · simp only [Act.put, List.setIfInBounds_toArray, List.set_cons_zero, List.set_cons_succ]
    rfl
  refine take_ (i := 3) (N := some 103) (a' := ?_) (v := .agg lw.toArray) #[true, true, true, true, false, false, false, false, false, false, false, false] rfl rfl (by kernel_rfl) (by first | exact fun _ _ _ h => h | exact fun _ _ _ h => hP _ _ _ _ _ h) (y_loadS rfl rfl rfl (by first | exact .head _ | exact .tail _ (.head _) | exact .tail _ (.tail _ (.head _)) | exact .tail _ (.tail _ (.tail _ (.head _))) | exact .tail _ (.tail _ (.tail _ (.tail _ (.head _)))) | exact .tail _ (.tail _ (.tail _ (.tail _ (.tail _ (.head _))))) | exact .tail _ (.tail _ (.tail _ (.tail _ (.tail _ (.tail _ (.head _)))))) | exact .tail _ (.tail _ (.tail _ (.tail _ (.tail _ (.tail _ (.tail _ (.head _)))))))) HW.out Tryz.underlying38 rfl H4.out) hS ?_ ?_
  rotate_left
  · simp only [Act.put, List.setIfInBounds_toArray, List.set_cons_zero, List.set_cons_succ]
    rfl
  refine take_ (i := 4) (N := some 104) (a' := ?_) (v := .agg li.toArray) #[true, true, true, true, true, false, false, false, false, false, false, false] rfl rfl (by kernel_rfl) (by first | exact fun _ _ _ h => h | exact fun _ _ _ h => hP _ _ _ _ _ h) (y_loadS rfl rfl rfl (by first | exact .head _ | exact .tail _ (.head _) | exact .tail _ (.tail _ (.head _)) | exact .tail _ (.tail _ (.tail _ (.head _))) | exact .tail _ (.tail _ (.tail _ (.tail _ (.head _)))) | exact .tail _ (.tail _ (.tail _ (.tail _ (.tail _ (.head _))))) | exact .tail _ (.tail _ (.tail _ (.tail _ (.tail _ (.tail _ (.head _)))))) | exact .tail _ (.tail _ (.tail _ (.tail _ (.tail _ (.tail _ (.tail _ (.head _)))))))) HI.out Tryz.underlying38 rfl H6.out) hS ?_ ?_
  rotate_left
  · simp only [Act.put, List.setIfInBounds_toArray, List.set_cons_zero, List.set_cons_succ]
    rfl
  refine take_ (i := 5) (N := some 105) (a' := ?_) (v := .pointer (some ⟨b, 0, none⟩)) #[true, true, true, true, true, true, false, false, false, false, false, false] rfl rfl (by kernel_rfl) (by first | exact fun _ _ _ h => h | exact fun _ _ _ h => hP _ _ _ _ _ h) (Or.inl ⟨by rfl, fun w' _ => by go_simp⟩) hS ?_ ?_
  rotate_left
  · simp only [Act.put, List.setIfInBounds_toArray, List.set_cons_zero, List.set_cons_succ]
    rfl
  refine take_ (i := 6) (N := some 106) (a' := ?_) (v := .slice (some ⟨sb, so, none⟩) sl_ sc) #[true, true, true, true, true, true, true, false, false, false, false, false] rfl rfl (by kernel_rfl) (by first | exact fun _ _ _ h => h | exact fun _ _ _ h => hP _ _ _ _ _ h) (y_load rfl rfl rfl (by first | exact .head _ | exact .tail _ (.head _) | exact .tail _ (.tail _ (.head _)) | exact .tail _ (.tail _ (.tail _ (.head _))) | exact .tail _ (.tail _ (.tail _ (.tail _ (.head _)))) | exact .tail _ (.tail _ (.tail _ (.tail _ (.tail _ (.head _))))) | exact .tail _ (.tail _ (.tail _ (.tail _ (.tail _ (.tail _ (.head _)))))) | exact .tail _ (.tail _ (.tail _ (.tail _ (.tail _ (.tail _ (.tail _ (.head _)))))))) rfl Tryz.underlying22 rfl) hS ?_ ?_
  rotate_left
  · simp only [Act.put, List.setIfInBounds_toArray, List.set_cons_zero, List.set_cons_succ]
    rfl
  refine take_ (i := 7) (N := some 107) (a' := ?_) (v := .int .i64 ii) #[true, true, true, true, true, true, true, true, false, false, false, false] rfl rfl (by kernel_rfl) (by first | exact fun _ _ _ h => h | exact fun _ _ _ h => hP _ _ _ _ _ h) (Or.inl ⟨by rfl, fun w' _ => by go_simp⟩) hS ?_ ?_
  rotate_left
  · simp only [Act.put, List.setIfInBounds_toArray, List.set_cons_zero, List.set_cons_succ]
    rfl
  refine take_ (i := 8) (N := some 108) (a' := ?_) (v := .pointer (some ⟨sb, so + ii * 43, none⟩)) #[true, true, true, true, true, true, true, true, true, false, false, false] rfl rfl (by kernel_rfl) (by first | exact fun _ _ _ h => h | exact fun _ _ _ h => hP _ _ _ _ _ h) (Or.inl ⟨by rfl, fun w' _ => by go_simp⟩) hS ?_ ?_
  rotate_left
  · simp only [Act.put, List.setIfInBounds_toArray, List.set_cons_zero, List.set_cons_succ]
    rfl
  refine take_ (i := 9) (N := some 109) (a' := ?_) (v := .agg (scrL s m0 o0 t0).toArray) #[true, true, true, true, true, true, true, true, true, true, false, false] rfl rfl (by kernel_rfl) (by first | exact fun _ _ _ h => h | exact fun _ _ _ h => hP _ _ _ _ _ h) (y_any rfl rfl rfl (fun W hW => load_sl (HEL.out W hW.below))) hS ?_ ?_
  rotate_left
  · simp only [Act.put, List.setIfInBounds_toArray, List.set_cons_zero, List.set_cons_succ]
    rfl
  refine last_ (i := 10) (N := some 110) #[true, true, true, true, true, true, true, true, true, true, true, false] rfl rfl (by kernel_rfl) (by decide) (fun K hK => ?_)
  refine goes_ Tryz.func25 (by kernel_rfl) rfl #[.agg lx.toArray, .int .i64 ec, .bool may, .agg lw.toArray, .agg li.toArray, .agg (scrL s m0 o0 t0).toArray] (by rfl) rfl rfl (by simp only [List.map_toArray, List.map_cons, List.map_nil]; rfl) ?_
  refine HSA.out.mono ?_
  rintro e w4 ⟨rfl, hB⟩
  refine ⟨_, rfl, hK.out _ _ ?_⟩
  clear hK K
  refine norm_ (a' := ?_) ?_ ?_
  rotate_left
  · simp only [Act.put, List.setIfInBounds_toArray, List.set_cons_zero, List.set_cons_succ]
    rfl
  refine pure_ (i := 11) (N := some 111) (a' := ?_) (v := .bool false) #[true, true, true, true, true, true, true, true, true, true, true, true] rfl rfl (by kernel_rfl) (by first | exact fun _ _ _ h => h | exact fun _ _ _ h => hP _ _ _ _ _ h) (Or.inl ⟨by rfl, fun w' => by go_simp⟩) ?_ ?_
  rotate_left
  · simp only [Act.put, List.setIfInBounds_toArray, List.set_cons_zero, List.set_cons_succ]
    rfl
  refine done_ (by kernel_rfl) ?_
  exact hQ w4 _ _ _ _ _ _ _ _ _ _ _ (hMB.call hB)
end Go.Proofs.YtpmfjombfcnhmaaGreatDoor

/- By some keys, on each screen: the law's loops (edits). -/
namespace Go.Proofs.YtpmfjombfcnhmaaGreatDoor
open Go Go.RowKit Go.Proofs.YtpmfjombfcnhmaaGreatDoorW.PrintLast

theorem nsE_at (n : Int) (j : Nat) (hj : j < 8) : ∃ nj, (nsE n)[j]? = some (.int .i64 nj) := by
  match j, hj with
  | 0, _ => exact ⟨_, rfl⟩
  | 1, _ => exact ⟨_, rfl⟩
  | 2, _ => exact ⟨_, rfl⟩
  | 3, _ => exact ⟨_, rfl⟩
  | 4, _ => exact ⟨_, rfl⟩
  | 5, _ => exact ⟨_, rfl⟩
  | 6, _ => exact ⟨_, rfl⟩
  | 7, _ => exact ⟨_, rfl⟩
noncomputable def mayEd (s : Scr) (key nj : Int) : Bool := scrB s && editKey key && numOk nj
noncomputable def edOutS (s : Scr) (key nj : Int) : Scr := if mayEd s key nj = true then edR s key nj else zS
noncomputable def edOutE (s : Scr) (key nj : Int) : Int := if mayEd s key nj = true then 0 else 1
theorem edOut_small {s : Scr} (h : s.small) (key n : Int) : (edOutS s key n).small := by
  unfold edOutS
  split
  · exact small_edR h _ _
  · exact zS_small
theorem editOut_is {s : Scr} {mi oi ti : Value} {key nj : Int} {W : World} (hr : RdScr W s mi oi ti) (hT : U8 W) : EditOut s mi oi ti key nj (edOutS s key nj) (edOutE s key nj) W := by
  unfold EditOut edOutS edOutE
  by_cases h : mayEd s key nj = true
  · rw [if_pos h, if_pos h]
    simp only [mayEd, Bool.and_eq_true] at h
    refine (edo_good hr hT h.1.1 h.2 h.1.2).mono ?_
    rintro e w' ⟨m', o', t', rfl, hO, hB⟩
    obtain ⟨A1, k1, rfl⟩ := hO.hm.slice
    obtain ⟨A2, k2, rfl⟩ := hO.ho.slice
    obtain ⟨A3, k3, rfl⟩ := ownB_slice hO.ht
    exact ⟨A1, k1, A2, k2, A3, k3, rfl, hO, hB⟩
  · rw [if_neg h, if_neg h]
    refine (edo_bad hr hT ?_).mono ?_
    · have h2 : mayEd s key nj = false := by simpa using h
      simp only [mayEd] at h2
      revert h2
      cases scrB s <;> cases editKey key <;> cases numOk nj <;> simp
    · rintro e w' ⟨rfl, hB⟩
      exact ⟨none, 0, none, 0, none, 0, rfl, zS_own _ _, hB⟩
/-- the reference's Edit by a key -/
def RedK (key : Int) : Prop := ∀ (s : Scr) (m o t : Value) (n0 : Int) (w : World), RdScr w s m o t → scrB s = true → (-1 ≤ n0 ∧ n0 ≤ 9999) → Calls Tryz.prog 24 #[.agg (scrL s m o t).toArray, .int .i64 key, .int .i64 n0] w fun e w' => RPost w (edR s key n0) e w'
set_option maxRecDepth 100000 in
set_option maxHeartbeats 16000000 in
theorem edits_any {L : List SV} {v kv : Value} {n m k r : Int} {keys : List Int} {w : World} (hv : RdSS w v L) (hL : L.length ≤ 1048576) (hk : RdI w kv keys) (hkl : keys.length ≤ 1048576) (hT : U8 w) (hred : ∀ key ∈ keys, editKey key = true → RedK key) (hwk : ∀ W, Below w.heap.size w W → Calls Tryz.prog 26 #[] W fun e w' => e = .returned (.bool true) ∧ Below W.heap.size W w') :
    Calls Tryz.prog 16 #[.agg (askL v n m k r).toArray, kv] w fun e w' => e = .returned (.bool true) ∧ Below w.heap.size w w' := by
  have HV : Hid (∀ W, Below w.heap.size w W → RdSS W v L) := hid fun W hW => hv.below hW
  have HK : Hid (∀ W, Below w.heap.size w W → RdI W kv keys) := hid fun W hW => hk.below hW
  have HRED := hid hred
  have HWK := hid hwk
  have HT : Hid (∀ W, Below w.heap.size w W → U8 W) := hid fun W hW => hT.below hW
  obtain ⟨A, c, rfl, hc, -⟩ := hv
  obtain ⟨B, kc, rfl, hkc, -⟩ := hk.open_
  have HX := hid (Mem.start w)
  clear hk hT hred hwk
  go_enter Tryz.func16, Tryz.ntmps16
  go_upto_region 0 with (fail)
  refine wp_region_lit ?_
  refine m_box HX.out rfl rfl rfl ?_
  intro b w1 hM
  simp only [Act.put, List.setIfInBounds_toArray, List.set_cons_zero, List.set_cons_succ]
  have HM := hid hM
  clear hM HX
  go_wp2_with (first | ((with_reducible refine wl_id ?_); refine m_loadS HM.out rfl rfl rfl (by first | exact .head _ | exact .tail _ (.head _) | exact .tail _ (.tail _ (.head _)) | exact .tail _ (.tail _ (.tail _ (.head _))) | exact .tail _ (.tail _ (.tail _ (.tail _ (.head _)))) | exact .tail _ (.tail _ (.tail _ (.tail _ (.tail _ (.head _))))) | exact .tail _ (.tail _ (.tail _ (.tail _ (.tail _ (.tail _ (.head _)))))) | exact .tail _ (.tail _ (.tail _ (.tail _ (.tail _ (.tail _ (.tail _ (.head _)))))))) (askL (.slice A L.length c) n m k r) rfl Tryz.underlying24 rfl (by kernel_rfl) ?_; simp only [Act.put, List.setIfInBounds_toArray, List.set_cons_zero, List.set_cons_succ]) | (go_at_call 17; fail))
  refine (heavy_any (HV.out _ HM.out.below) hL).mono ?_
  rintro e w2 ⟨x, rfl, hB⟩
  have HM2 := hid (HM.out.call hB)
  clear HM hB
  have HM := HM2
  clear HM2
  cases x with
  | true =>
    go_wp2
    go_ret
    exact ⟨rfl, HM.out.below⟩
  | false =>
    go_wp2_with (fail)
    go_loopw [5] (fun i wr => ∃ ii : Nat, i = .int .i64 ii ∧ ii ≤ L.length ∧ ii ≤ 4 ∧ Hid (Mem w wr [(b, Row 24 (askL (.slice A L.length c) n m k r))])) (fun i _ => 4 - (intOf i).toNat)
    case atStart => exact ⟨0, rfl, Nat.zero_le _, by omega, HM⟩
    case round =>
      obtain ⟨ii, rfl, hi1, hi2, HMr⟩ := hrel
      clear HM
      have HM := HMr
      clear HMr
      by_cases hlt : ii < L.length
      · have hlt2 : (ii : Int) < (L.length : Int) := by omega
        by_cases h4 : ii < 4
        · have h42 : (ii : Int) < 4 := by omega
          go_wp2_with (first | ((with_reducible refine wl_id ?_); refine m_load HM.out rfl rfl rfl (by first | exact .head _ | exact .tail _ (.head _) | exact .tail _ (.tail _ (.head _)) | exact .tail _ (.tail _ (.tail _ (.head _))) | exact .tail _ (.tail _ (.tail _ (.tail _ (.head _)))) | exact .tail _ (.tail _ (.tail _ (.tail _ (.tail _ (.head _))))) | exact .tail _ (.tail _ (.tail _ (.tail _ (.tail _ (.tail _ (.head _)))))) | exact .tail _ (.tail _ (.tail _ (.tail _ (.tail _ (.tail _ (.tail _ (.head _)))))))) rfl Tryz.underlying22 rfl ?_; simp only [Act.put, List.setIfInBounds_toArray, List.set_cons_zero, List.set_cons_succ]))
          obtain ⟨A', c', e1, -, hcells⟩ := HV.out w (Below.refl _ _)
          obtain ⟨sb, so, e2, hel0, hrs0⟩ := hcells ii hlt
          cases e1
          subst e2
          obtain ⟨sv, hsv⟩ : ∃ sv, L[ii] = sv := ⟨_, rfl⟩
          rw [hsv] at hel0 hrs0
          obtain ⟨s, m0, o0, t0⟩ := sv
          have HEL : Hid (∀ W, Below w.heap.size w W → ∀ q u, (scrL s m0 o0 t0)[q]? = some u → W.cell? ⟨sb, so + ii * 43 + q, none⟩ = some u) := hid fun W hW q u hq => cell_below hW (hel0 q u hq)
          have HRS : Hid (∀ W, Below w.heap.size w W → RdScr W s m0 o0 t0) := hid fun W hW => hrs0.below hW
          have HSM := hid hrs0.2.2.2
          clear hcells hel0 hrs0 hsv
          obtain ⟨wo, rfl⟩ : ∃ wo : World, wo = wr := ⟨_, rfl⟩
          go_loopw [6] (fun x wr => ∃ kk : Nat, x = .int .i64 kk ∧ kk ≤ keys.length ∧ Hid (Mem w wr [(b, Row 24 (askL (.slice (some ⟨sb, so, none⟩) L.length c) n m k r))])) (fun x _ => keys.length - (intOf x).toNat)
          case atStart => exact ⟨0, rfl, Nat.zero_le _, HM⟩
          case round =>
            obtain ⟨kk, rfl, hkk1, HMr⟩ := hrel
            clear HM
            have HM := HMr
            clear HMr
            by_cases hkk : kk < keys.length
            · have hkk2 : (kk : Int) < (keys.length : Int) := by omega
              obtain ⟨B', kc', e1, -, hkcells⟩ := (HK.out w (Below.refl _ _)).open_
              cases e1
              obtain ⟨kb, ko, e2, hkc0⟩ := hkcells w (Below.refl _ _) kk hkk
              subst e2
              obtain ⟨key, hkey⟩ : ∃ key, keys.getD kk 0 = key := ⟨_, rfl⟩
              rw [hkey] at hkc0
              have HKC : Hid (∀ W, Below w.heap.size w W → W.cell? ⟨kb, ko + kk, none⟩ = some (.int .i64 key)) := hid fun W hW => cell_below hW hkc0
              have HKIN := hid (show key ∈ keys by rw [← hkey, List.getD_eq_getElem?_getD, List.getElem?_eq_getElem hkk]; exact List.getElem_mem hkk)
              clear hkcells hkc0 hkey
              go_upto_region 9 with (fail)
              refine ereg9_is HM.out (fun _ _ _ _ _ h => by simp +zetaDelta only [Exit.then, Exit.inBlock] at h ⊢; exact h) _ _ _ _ _ _ _ _ _ _ _ _ _ _ _ _ _ _ _ _ _ _ _ _ _ _ _ _ _ _ _ _ _ _ _ _ _ _ _ _ _ _ _ _ _ _ _ _ _ _ _ _ _ _ _ _ _ _ _ _ _ _ _ _ _ _ _ _ _ _ _ _ _ _ _ _ _ _ _ _ _ _ _ _ _ _ _ _ _ _ _ _ _ _ _ _ _ _ _ _ _ _ _ _ _ _ _ _ _ _ _ _ ?_
              rintro w9 g v33 v34 v35 v36 v37 v38 hM
              conv => zeta
              have HM9 := hid hM
              clear hM HM
              have HM := HM9
              clear HM9
              go_wp2_with (fail)
              obtain ⟨wm, rfl⟩ : ∃ wm : World, wm = w9 := ⟨_, rfl⟩
              go_loopw [8] (fun x wr => ∃ j : Nat, x = .int .i64 j ∧ j ≤ 8 ∧ Hid (Mem w wr [(g, Row 3 (nsE n)), (b, Row 24 (askL (.slice (some ⟨sb, so, none⟩) L.length c) n m k r))])) (fun x _ => 8 - (intOf x).toNat)
              case atStart => exact ⟨0, rfl, by omega, HM⟩
              case round =>
                obtain ⟨j, rfl, hj1, HMr⟩ := hrel
                clear HM
                have HM := HMr
                clear HMr
                by_cases hj : j < 8
                · have hj2 : (j : Int) < 8 := by omega
                  obtain ⟨nj, hnj⟩ := nsE_at n j hj
                  have HNJ := hid hnj
                  clear hnj
                  go_wp2_with (first | ((with_reducible refine wl_id ?_); refine m_load HM.out rfl rfl rfl (by first | exact .head _ | exact .tail _ (.head _) | exact .tail _ (.tail _ (.head _)) | exact .tail _ (.tail _ (.tail _ (.head _))) | exact .tail _ (.tail _ (.tail _ (.tail _ (.head _)))) | exact .tail _ (.tail _ (.tail _ (.tail _ (.tail _ (.head _))))) | exact .tail _ (.tail _ (.tail _ (.tail _ (.tail _ (.tail _ (.head _)))))) | exact .tail _ (.tail _ (.tail _ (.tail _ (.tail _ (.tail _ (.tail _ (.head _)))))))) rfl Tryz.underlying22 rfl ?_; simp only [Act.put, List.setIfInBounds_toArray, List.set_cons_zero, List.set_cons_succ]) | ((with_reducible refine wl_id ?_); refine m_any rfl rfl rfl (load_sl (HEL.out _ HM.out.below)) ?_; simp only [Act.put, List.setIfInBounds_toArray, List.set_cons_zero, List.set_cons_succ]) | (go_at_call 19; fail))
                  refine (copyS_l (HRS.out _ HM.out.below)).mono ?_
                  rintro e w14 ⟨mi, oi, ti, rfl, hO, hB⟩
                  obtain ⟨I1, i1, rfl⟩ := hO.hm.slice
                  obtain ⟨I2, i2, rfl⟩ := hO.ho.slice
                  obtain ⟨I3, i3, rfl⟩ := ownB_slice hO.ht
                  have HO14 := hid hO
                  have HM14 := hid (HM.out.call hB)
                  clear hO hB HM
                  have HM := HM14
                  clear HM14
                  go_upto_region 14 with (first | ((with_reducible refine wl_id ?_); refine m_allocB HM.out rfl rfl info_zS ?_; intro bin wy hbn hBy hM; simp only [Act.put, List.setIfInBounds_toArray, List.set_cons_zero, List.set_cons_succ]; have HMy := hid hM; have HBN := hid hbn; have HBy := hid hBy; clear hM hbn hBy) | ((with_reducible refine wl_id ?_); refine m_storeAG HMy.out rfl rfl rfl 0 rfl rfl rfl (by kernel_rfl) rfl ?_; intro wx hM hg; simp only [Act.put, List.setIfInBounds_toArray, List.set_cons_zero, List.set_cons_succ]; simp only [List.set_cons_succ, List.set_cons_zero] at hM; have HMx := hid hM; have HGx := hid hg; clear hM hg))
                  have hO14 := HO14.out.below HBy.out
                  have HIN := hid (show RdScr wx s (.slice I1 s.ms.length i1) (.slice I2 s.os.length i2) (.slice I3 s.tabs.length i3) from OwnScr.rd (base := wr.heap.size) ⟨hO14.hm.kept HGx.out (own_lt HO14.out.hm HBN.out), hO14.ho.kept HGx.out (own_lt HO14.out.ho HBN.out), hO14.ht.kept HGx.out (own_lt HO14.out.ht HBN.out), hO14.mo, hO14.mt, hO14.ot⟩ HSM.out)
                  clear hO14 HM HMy HBN HBy HGx HO14
                  have HM := HMx
                  clear HMx
                  have HS0 := hid (HRS.out _ HM.out.below)
                  have HMB := hid (HM.out.sub (List.sublist_cons_self _ _))
                  have HBX := hid HM.out.below
                  obtain ⟨R, hR⟩ : ∃ R, edOutS s key nj = R := ⟨_, rfl⟩
                  obtain ⟨ec, hec⟩ : ∃ ec, edOutE s key nj = ec := ⟨_, rfl⟩
                  obtain ⟨my, hmy⟩ : ∃ my, mayEd s key nj = my := ⟨_, rfl⟩
                  have HMO : Hid (∀ W, Below wx.heap.size wx W → EditOut s (.slice I1 s.ms.length i1) (.slice I2 s.os.length i2) (.slice I3 s.tabs.length i3) key nj R ec W) := hid fun W hW => by
                    have h := editOut_is (key := key) (nj := nj) (HIN.out.below hW) (HT.out W (HBX.out.trans (hW.mono HBX.out.size)))
                    rwa [hR, hec] at h
                  have HRSM : Hid R.small := hid (hR ▸ edOut_small HSM.out key nj)
                  have HR := hid hR
                  have HEC := hid hec
                  have HMAY := hid hmy
                  clear hR hec hmy
                  refine ereg14_is HM.out hj HNJ.out hkk HKC.out HMO.out (fun _ _ _ _ _ h => by simp +zetaDelta only [Exit.then, Exit.inBlock] at h ⊢; exact h) _ _ _ _ _ _ _ _ _ _ _ _ _ _ _ _ _ _ _ _ _ _ _ _ _ _ _ _ _ _ _ _ _ _ _ _ _ _ _ _ _ _ _ _ _ _ _ _ _ _ _ _ _ _ _ _ _ _ _ _ _ _ _ _ _ _ _ _ _ _ _ _ _ _ _ _ _ _ _ _ _ _ _ _ _ _ _ _ _ _ _ _ _ _ _ _ _ _ _ _ _ _ _ _ _ _ _ ?_
                  rintro w15 bx X1 q1 X2 q2 X3 q3 v52 v53 v54 v55 v56 v57 v58 v59 v60 v61 v62 v63 hM hO hB
                  conv => zeta
                  have HO15 := hid hO
                  have HB15 := hid hB
                  have HM15 := hid hM
                  clear hM hO hB HM HMO
                  have HM := HM15
                  clear HM15
                  go_upto_region 15 with (fail)
                  refine ereg15_is (b1 := scrB s) (b2 := editKey key) (b3 := numOk nj) (may := my) HM.out hkk hlt HKC.out HNJ.out hj HEL.out HMAY.out (fun W hW => rS_l rfl (HRS.out W hW) (HT.out W hW)) rfl rfl _ _ _ _ _ _ _ _ _ _ _ _ _ _ _ _ _ _ _ _ _ _ _ _ _ _ _ _ _ _ _ _ _ _ _ _ _ _ _ _ _ _ _ _ _ _ _ _ _ _ _ _ _ _ _ _ _ _ _ _ _ _ _ _ _ _ _ _ _ _ _ _ _ _ _ _ _ _ _ _ _ _ _ _ _ _ _ _ _ _ _ _ _ _ _ _ _ _ _ _ _ _ _ _ _ _ _ ?_
                  rintro w16 v64 v65 v66 v67 v68 v69 v70 v71 v72 v73 v74 v75 v76 v77 v78 v79 v80 v81 v82 v83 hM hB16
                  conv => zeta
                  have HO16 := hid (HO15.out.below hB16)
                  have HB16 := hid (HB15.out.trans (hB16.mono HB15.out.size))
                  have HM16 := hid hM
                  clear hM hB16 HM HO15 HB15
                  have HM := HM16
                  clear HM16
                  go_upto_region 17 with (first | ((with_reducible refine wl_id ?_); refine m_build0 rfl rfl (build_zS _) ?_; simp only [Act.put, List.setIfInBounds_toArray, List.set_cons_zero, List.set_cons_succ]) | ((with_reducible refine wl_id ?_); refine m_allocB HM.out rfl rfl info_zS ?_; intro bw wy hbn hBy hM; simp only [Act.put, List.setIfInBounds_toArray, List.set_cons_zero, List.set_cons_succ]; have HMy := hid hM; have HBN := hid hbn; have HBy := hid hBy; clear hM hbn hBy) | ((with_reducible refine wl_id ?_); refine m_storeAG HMy.out rfl rfl rfl 0 rfl rfl rfl (by kernel_rfl) rfl ?_; intro w17 hM hg; simp only [Act.put, List.setIfInBounds_toArray, List.set_cons_zero, List.set_cons_succ]; simp only [List.set_cons_succ, List.set_cons_zero] at hM; have HM17 := hid hM; have HGx := hid hg; clear hM hg))
                  have hO16 := HO16.out.below HBy.out
                  have HO17 := hid (show OwnScr w17 wx.heap.size R _ _ _ from ⟨hO16.hm.kept HGx.out (own_lt HO16.out.hm HBN.out), hO16.ho.kept HGx.out (own_lt HO16.out.ho HBN.out), hO16.ht.kept HGx.out (own_lt HO16.out.ht HBN.out), hO16.mo, hO16.mt, hO16.ot⟩)
                  have HB17 := hid (below_of_grown (HB16.out.trans (HBy.out.mono HB16.out.size)) HGx.out (fun q hq => by cases hq; exact Nat.le_trans HB16.out.size HBN.out))
                  have HBWX := hid (Nat.le_trans HB16.out.size HBN.out)
                  clear hO16 HM HMy HBy HGx HB16
                  have HM := HM17
                  clear HM17
                  cases my with
                  | true =>
                    have hR : edR s key nj = R := by rw [← HR.out, edOutS, if_pos HMAY.out]
                    have he : ec = 0 := by rw [← HEC.out, edOutE, if_pos HMAY.out]
                    subst he
                    have HREF : Hid (∀ W, Below w.heap.size w W → Calls Tryz.prog 24 #[.agg (scrL s m0 o0 t0).toArray, .int .i64 key, .int .i64 nj] W fun e w' => ∃ m' o' t', e = .returned (.agg (scrL R m' o' t').toArray) ∧ OwnScr w' W.heap.size R m' o' t' ∧ Below W.heap.size W w') := hid fun W hW => by
                      have h := HMAY.out
                      simp only [mayEd, Bool.and_eq_true] at h
                      have h2 := HRED.out key HKIN.out h.1.2 s m0 o0 t0 nj W (HRS.out W hW) h.1.1 (by simpa [numOk] using h.2)
                      rwa [hR] at h2
                    clear hR
                    go_upto_region 18 with (fail)
                    refine ereg18_is HM.out hkk hlt HKC.out HNJ.out hj HEL.out HREF.out HRSM.out (fun _ _ _ _ _ h => by simp +zetaDelta only [Exit.then, Exit.inBlock] at h ⊢; exact h) _ _ _ _ _ _ _ _ _ _ _ _ _ _ _ _ _ _ _ _ _ _ _ _ _ _ _ _ _ _ _ _ _ _ _ _ _ _ _ _ _ _ _ _ _ _ _ _ _ _ _ _ _ _ _ _ _ _ _ _ _ _ _ _ _ _ _ _ _ _ _ _ _ _ _ _ _ _ _ _ _ _ _ _ _ _ _ _ _ _ _ _ _ _ _ _ _ _ _ _ _ _ _ _ _ _ ?_
                    rintro w19 Y1 p1 Y2 p2 Y3 p3 v86 v87 v88 v89 v90 v91 v92 v93 v94 v95 v96 v97 v98 v99 hM hRw hg
                    conv => zeta
                    have HO19 := hid (show OwnScr w19 wx.heap.size R _ _ _ from ⟨HO17.out.hm.kept hg (own_lt HO16.out.hm HBN.out), HO17.out.ho.kept hg (own_lt HO16.out.ho HBN.out), HO17.out.ht.kept hg (own_lt HO16.out.ht HBN.out), HO17.out.mo, HO17.out.mt, HO17.out.ot⟩)
                    have HB19 := hid (below_of_grown HB17.out hg (fun q hq => by cases hq; exact HBWX.out))
                    have HM19 := hid hM
                    have HRW := hid hRw
                    clear hM hRw hg HM HO17 HB17
                    have HM := HM19
                    clear HM19
                    have HSA := hid (same_may (HB19.out.trans (Below.refl _ _).drew) (HO19.out.below (Below.refl _ _).drew) HRSM.out (HRW.out.below (Below.refl _ _).drew) HIN.out HS0.out)
                    go_upto_region 19 with (fail)
                    refine ereg19_is HM.out hlt rfl rfl rfl HEL.out HMB.out HSA.out (fun _ _ _ _ _ h => by simp +zetaDelta only [Exit.then, Exit.inBlock] at h ⊢; exact h) _ _ _ _ _ _ _ _ _ _ _ _ _ _ _ _ _ _ _ _ _ _ _ _ _ _ _ _ _ _ _ _ _ _ _ _ _ _ _ _ _ _ _ _ _ _ _ _ _ _ _ _ _ _ _ _ _ _ _ _ _ _ _ _ _ _ _ _ _ _ _ _ _ _ _ _ _ _ _ _ _ _ _ _ _ _ _ _ _ _ _ _ _ _ _ _ _ _ _ _ _ _ _ _ _ _ ?_
                    rintro w20 v100 v101 v102 v103 v104 v105 v106 v107 v108 v109 v110 hM
                    conv => zeta
                    have HM20 := hid hM
                    clear hM HM HSA
                    go_wp2
                    go_roundw
                    case rel => exact ⟨j + 1, by go_num, by omega, HM20⟩
                    case measure => simp [intOf]; omega
                  | false =>
                    have hn : ¬ mayEd s key nj = true := by rw [HMAY.out]; simp
                    have hR : R = zS := by rw [← HR.out, edOutS, if_neg hn]
                    have he : ec = 1 := by rw [← HEC.out, edOutE, if_neg hn]
                    subst he
                    subst hR
                    clear hn
                    have HSA := hid (same_not (r := zS) (mw := .slice none 0 0) (ow := .slice none 0 0) (tw := .slice none 0 0) (HB17.out.trans (Below.refl _ _).drew) (HO17.out.below (Below.refl _ _).drew) HIN.out HS0.out)
                    go_upto_region 19 with (fail)
                    refine ereg19_is HM.out hlt rfl rfl rfl HEL.out HMB.out HSA.out (fun _ _ _ _ _ h => by simp +zetaDelta only [Exit.then, Exit.inBlock] at h ⊢; exact h) _ _ _ _ _ _ _ _ _ _ _ _ _ _ _ _ _ _ _ _ _ _ _ _ _ _ _ _ _ _ _ _ _ _ _ _ _ _ _ _ _ _ _ _ _ _ _ _ _ _ _ _ _ _ _ _ _ _ _ _ _ _ _ _ _ _ _ _ _ _ _ _ _ _ _ _ _ _ _ _ _ _ _ _ _ _ _ _ _ _ _ _ _ _ _ _ _ _ _ _ _ _ _ _ _ _ ?_
                    rintro w20 v100 v101 v102 v103 v104 v105 v106 v107 v108 v109 v110 hM
                    conv => zeta
                    have HM20 := hid hM
                    clear hM HM HSA
                    go_wp2
                    go_roundw
                    case rel => exact ⟨j + 1, by go_num, by omega, HM20⟩
                    case measure => simp [intOf]; omega
                · obtain rfl : j = 8 := by omega
                  go_wp2
                  go_roundw
                  case rel => exact ⟨kk + 1, by go_num, by omega, hid (HM.out.sub (List.sublist_cons_self _ _))⟩
                  case measure => simp [intOf]; omega
            · have hkk2 : ¬ (kk : Int) < (keys.length : Int) := by omega
              go_wp2
              go_roundw
              case rel => exact ⟨ii + 1, by go_num, by omega, by omega, HM⟩
              case measure => simp [intOf]; omega
        · have h42 : ¬ (ii : Int) < 4 := by omega
          go_wp2_with (first | ((with_reducible refine wl_id ?_); refine m_load HM.out rfl rfl rfl (by first | exact .head _ | exact .tail _ (.head _) | exact .tail _ (.tail _ (.head _)) | exact .tail _ (.tail _ (.tail _ (.head _))) | exact .tail _ (.tail _ (.tail _ (.tail _ (.head _)))) | exact .tail _ (.tail _ (.tail _ (.tail _ (.tail _ (.head _))))) | exact .tail _ (.tail _ (.tail _ (.tail _ (.tail _ (.tail _ (.head _)))))) | exact .tail _ (.tail _ (.tail _ (.tail _ (.tail _ (.tail _ (.tail _ (.head _)))))))) rfl Tryz.underlying22 rfl ?_; simp only [Act.put, List.setIfInBounds_toArray, List.set_cons_zero, List.set_cons_succ]) | (go_at_call 26; (with_reducible refine (HWK.out _ HM.out.below).mono ?_); rintro e w3 ⟨rfl, hB⟩; have HM2 := hid (HM.out.call hB); clear hB))
          go_ret
          exact ⟨rfl, HM2.out.below⟩
      · have hlt2 : ¬ (ii : Int) < (L.length : Int) := by omega
        go_wp2_with (first | ((with_reducible refine wl_id ?_); refine m_load HM.out rfl rfl rfl (by first | exact .head _ | exact .tail _ (.head _) | exact .tail _ (.tail _ (.head _)) | exact .tail _ (.tail _ (.tail _ (.head _))) | exact .tail _ (.tail _ (.tail _ (.tail _ (.head _)))) | exact .tail _ (.tail _ (.tail _ (.tail _ (.tail _ (.head _))))) | exact .tail _ (.tail _ (.tail _ (.tail _ (.tail _ (.tail _ (.head _)))))) | exact .tail _ (.tail _ (.tail _ (.tail _ (.tail _ (.tail _ (.tail _ (.head _)))))))) rfl Tryz.underlying22 rfl ?_; simp only [Act.put, List.setIfInBounds_toArray, List.set_cons_zero, List.set_cons_succ]) | (go_at_call 26; (with_reducible refine (HWK.out _ HM.out.below).mono ?_); rintro e w3 ⟨rfl, hB⟩; have HM2 := hid (HM.out.call hB); clear hB))
        go_ret
        exact ⟨rfl, HM2.out.below⟩
end Go.Proofs.YtpmfjombfcnhmaaGreatDoor
