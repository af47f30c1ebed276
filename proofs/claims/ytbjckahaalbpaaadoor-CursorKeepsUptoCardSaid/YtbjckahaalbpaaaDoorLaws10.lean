/- The laws over moves: what each comes to, for every input that can be read. -/
import Derived.Test.YtbjckahaalbpaaaDoorMoves
set_option linter.unusedVariables false
set_option linter.unusedSimpArgs false
set_option linter.unnecessarySimpa false
namespace Go.Proofs.YtbjckahaalbpaaaDoor
open Go Go.RowKit

theorem m_slice {P : Program} {ops : Array Oper} {rest : List Oper} {op : Oper} {a : Act} {w0 w : World} {Q : Exit → Act → World → Prop} {F : List Ent} (hM : Mem w0 w F) (hgd : op.guard = none) {ty e : TypeId} {len : Nat} {parts : Array (Nat × Operand)} (ho : op.op = .buildSlice ty len parts) (ps : Array (Nat × Value)) (hp : (parts.map fun (i, x) => (i, a.eval x)) = ps)
    (l : List Value) (hr : ∀ w : World, (Instr.buildSlice ty len ps).run P w = .ok (.slice (some ⟨w.heap.size, 0, none⟩) len len) (w.alloc (.cells l.toArray e)))
    (h : ∀ b w', Mem w0 w' ((b, Row e l) :: F) → wpList P ops Q rest (a.put op.dst (.slice (some ⟨b, 0, none⟩) len len)) w') : wpList P ops Q (op :: rest) a w :=
  wpList_plain hgd fun K hK => by
    unfold Oper.wp execOp
    simp only [ho, hp, Sem.run_bind, Sem.run_pure, Result.andThen_ok, hr]
    exact hK _ _ (h _ _ (by simpa using hM.cells l.toArray e))
theorem rdI_mem {w0 w : World} {F : List Ent} {g n : Nat} {l : List Int} {t : TypeId} (hM : Mem w0 w F) (hF : (g, Row t (l.map (Value.int .i64))) ∈ F) (hn : l.length = n) : RdI w (.slice (some ⟨g, 0, none⟩) n n) l := by
  subst hn
  refine ⟨_, _, rfl, Nat.le_refl _, fun _ => ⟨_, _, rfl, fun i hi j hj => ?_⟩⟩
  obtain rfl : j = 0 := by omega
  exact hM.cell hF (by simp [hi])
theorem slice1k (a : Int) (w : World) : (Instr.buildSlice 27 1 #[(0, .int .i64 a)]).run Tryd.prog w = .ok (.slice (some ⟨w.heap.size, 0, none⟩) 1 1) (w.alloc (.cells (([a] : List Int).map (Value.int .i64)).toArray 3)) := by kernel_rfl
theorem slice2k (a b : Int) (w : World) : (Instr.buildSlice 27 2 #[(0, .int .i64 a), (1, .int .i64 b)]).run Tryd.prog w = .ok (.slice (some ⟨w.heap.size, 0, none⟩) 2 2) (w.alloc (.cells (([a, b] : List Int).map (Value.int .i64)).toArray 3)) := by kernel_rfl
theorem slice3k (a b c : Int) (w : World) : (Instr.buildSlice 27 3 #[(0, .int .i64 a), (1, .int .i64 b), (2, .int .i64 c)]).run Tryd.prog w = .ok (.slice (some ⟨w.heap.size, 0, none⟩) 3 3) (w.alloc (.cells (([a, b, c] : List Int).map (Value.int .i64)).toArray 3)) := by kernel_rfl
set_option maxRecDepth 100000 in
theorem walk_CursorUp {L : List SV} {v : Value} {n m k r : Int} {w : World} (hv : RdSS w v L) (hL : L.length ≤ 1048576) (hT : U8 w) :
    Calls Tryd.prog 3 #[.agg (askL v n m k r).toArray] w fun e w' => e = .returned (.bool true) ∧ Below w.heap.size w w' := by
  have HMV : Hid (∀ (kv : Value) (W : World), Below w.heap.size w W → RdI W kv [65, 70] → Calls Tryd.prog 21 #[.agg (askL v n m k r).toArray, kv] W _) := hid fun kv W hW hk => moves_any (hv.below hW) hL hk (Nat.le_of_ble_eq_true rfl) (hT.below hW)
  obtain ⟨A, c, rfl, -, -⟩ := hv
  have HX := hid (Mem.start w)
  clear hT
  go_enter Tryd.func3, Tryd.ntmps3
  go_upto_region 0 with (fail)
  refine wp_region_lit ?_
  refine m_box HX.out rfl rfl rfl ?_
  intro b w1 hM
  simp only [Act.put, List.setIfInBounds_toArray, List.set_cons_zero, List.set_cons_succ]
  have HM := hid hM
  clear hM HX
  go_wp2_with (first | ((with_reducible refine wl_id ?_); refine m_loadS HM.out rfl rfl rfl (by first | exact .head _ | exact .tail _ (.head _) | exact .tail _ (.tail _ (.head _)) | exact .tail _ (.tail _ (.tail _ (.head _))) | exact .tail _ (.tail _ (.tail _ (.tail _ (.head _)))) | exact .tail _ (.tail _ (.tail _ (.tail _ (.tail _ (.head _))))) | exact .tail _ (.tail _ (.tail _ (.tail _ (.tail _ (.tail _ (.head _)))))) | exact .tail _ (.tail _ (.tail _ (.tail _ (.tail _ (.tail _ (.tail _ (.head _)))))))) (askL (.slice A L.length c) n m k r) rfl Tryd.underlying24 rfl (by kernel_rfl) ?_; simp only [Act.put, List.setIfInBounds_toArray, List.set_cons_zero, List.set_cons_succ]) | ((with_reducible refine wl_id ?_); refine m_load HM.out rfl rfl rfl (by first | exact .head _ | exact .tail _ (.head _) | exact .tail _ (.tail _ (.head _)) | exact .tail _ (.tail _ (.tail _ (.head _))) | exact .tail _ (.tail _ (.tail _ (.tail _ (.head _)))) | exact .tail _ (.tail _ (.tail _ (.tail _ (.tail _ (.head _))))) | exact .tail _ (.tail _ (.tail _ (.tail _ (.tail _ (.tail _ (.head _)))))) | exact .tail _ (.tail _ (.tail _ (.tail _ (.tail _ (.tail _ (.tail _ (.head _)))))))) rfl (by first | exact Tryd.underlying3 | exact Tryd.underlying4 | exact Tryd.underlying9 | exact Tryd.underlying28 | exact Tryd.underlying35) rfl ?_; simp only [Act.put, List.setIfInBounds_toArray, List.set_cons_zero, List.set_cons_succ]) | ((with_reducible refine wl_id ?_); refine m_slice (e := 3) HM.out rfl rfl #[(0, .int .i64 65), (1, .int .i64 70)] (by simp only [List.map_toArray, List.map_cons, List.map_nil]; rfl) _ (fun w' => slice2k _ _ w') ?_; intro g w2 hM; simp only [Act.put, List.setIfInBounds_toArray, List.set_cons_zero, List.set_cons_succ]; have HM2 := hid hM; clear hM) | (go_at_call 21; fail))
  refine (HMV.out _ _ HM2.out.below (rdI_mem HM2.out (.head _) rfl)).mono ?_
  rintro e w3 ⟨rfl, hB⟩
  have HM3 := hid (HM2.out.call hB)
  clear hB
  go_wp2
  go_ret
  exact ⟨rfl, HM3.out.below⟩
set_option maxRecDepth 100000 in
theorem walk_CursorDown {L : List SV} {v : Value} {n m k r : Int} {w : World} (hv : RdSS w v L) (hL : L.length ≤ 1048576) (hT : U8 w) :
    Calls Tryd.prog 4 #[.agg (askL v n m k r).toArray] w fun e w' => e = .returned (.bool true) ∧ Below w.heap.size w w' := by
  have HMV : Hid (∀ (kv : Value) (W : World), Below w.heap.size w W → RdI W kv [66, 69] → Calls Tryd.prog 21 #[.agg (askL v n m k r).toArray, kv] W _) := hid fun kv W hW hk => moves_any (hv.below hW) hL hk (Nat.le_of_ble_eq_true rfl) (hT.below hW)
  obtain ⟨A, c, rfl, -, -⟩ := hv
  have HX := hid (Mem.start w)
  clear hT
  go_enter Tryd.func4, Tryd.ntmps4
  go_upto_region 0 with (fail)
  refine wp_region_lit ?_
  refine m_box HX.out rfl rfl rfl ?_
  intro b w1 hM
  simp only [Act.put, List.setIfInBounds_toArray, List.set_cons_zero, List.set_cons_succ]
  have HM := hid hM
  clear hM HX
  go_wp2_with (first | ((with_reducible refine wl_id ?_); refine m_loadS HM.out rfl rfl rfl (by first | exact .head _ | exact .tail _ (.head _) | exact .tail _ (.tail _ (.head _)) | exact .tail _ (.tail _ (.tail _ (.head _))) | exact .tail _ (.tail _ (.tail _ (.tail _ (.head _)))) | exact .tail _ (.tail _ (.tail _ (.tail _ (.tail _ (.head _))))) | exact .tail _ (.tail _ (.tail _ (.tail _ (.tail _ (.tail _ (.head _)))))) | exact .tail _ (.tail _ (.tail _ (.tail _ (.tail _ (.tail _ (.tail _ (.head _)))))))) (askL (.slice A L.length c) n m k r) rfl Tryd.underlying24 rfl (by kernel_rfl) ?_; simp only [Act.put, List.setIfInBounds_toArray, List.set_cons_zero, List.set_cons_succ]) | ((with_reducible refine wl_id ?_); refine m_load HM.out rfl rfl rfl (by first | exact .head _ | exact .tail _ (.head _) | exact .tail _ (.tail _ (.head _)) | exact .tail _ (.tail _ (.tail _ (.head _))) | exact .tail _ (.tail _ (.tail _ (.tail _ (.head _)))) | exact .tail _ (.tail _ (.tail _ (.tail _ (.tail _ (.head _))))) | exact .tail _ (.tail _ (.tail _ (.tail _ (.tail _ (.tail _ (.head _)))))) | exact .tail _ (.tail _ (.tail _ (.tail _ (.tail _ (.tail _ (.tail _ (.head _)))))))) rfl (by first | exact Tryd.underlying3 | exact Tryd.underlying4 | exact Tryd.underlying9 | exact Tryd.underlying28 | exact Tryd.underlying35) rfl ?_; simp only [Act.put, List.setIfInBounds_toArray, List.set_cons_zero, List.set_cons_succ]) | ((with_reducible refine wl_id ?_); refine m_slice (e := 3) HM.out rfl rfl #[(0, .int .i64 66), (1, .int .i64 69)] (by simp only [List.map_toArray, List.map_cons, List.map_nil]; rfl) _ (fun w' => slice2k _ _ w') ?_; intro g w2 hM; simp only [Act.put, List.setIfInBounds_toArray, List.set_cons_zero, List.set_cons_succ]; have HM2 := hid hM; clear hM) | (go_at_call 21; fail))
  refine (HMV.out _ _ HM2.out.below (rdI_mem HM2.out (.head _) rfl)).mono ?_
  rintro e w3 ⟨rfl, hB⟩
  have HM3 := hid (HM2.out.call hB)
  clear hB
  go_wp2
  go_ret
  exact ⟨rfl, HM3.out.below⟩
set_option maxRecDepth 100000 in
theorem walk_CursorSide {L : List SV} {v : Value} {n m k r : Int} {w : World} (hv : RdSS w v L) (hL : L.length ≤ 1048576) (hT : U8 w) :
    Calls Tryd.prog 5 #[.agg (askL v n m k r).toArray] w fun e w' => e = .returned (.bool true) ∧ Below w.heap.size w w' := by
  have HMV : Hid (∀ (kv : Value) (W : World), Below w.heap.size w W → RdI W kv [67, 68] → Calls Tryd.prog 21 #[.agg (askL v n m k r).toArray, kv] W _) := hid fun kv W hW hk => moves_any (hv.below hW) hL hk (Nat.le_of_ble_eq_true rfl) (hT.below hW)
  obtain ⟨A, c, rfl, -, -⟩ := hv
  have HX := hid (Mem.start w)
  clear hT
  go_enter Tryd.func5, Tryd.ntmps5
  go_upto_region 0 with (fail)
  refine wp_region_lit ?_
  refine m_box HX.out rfl rfl rfl ?_
  intro b w1 hM
  simp only [Act.put, List.setIfInBounds_toArray, List.set_cons_zero, List.set_cons_succ]
  have HM := hid hM
  clear hM HX
  go_wp2_with (first | ((with_reducible refine wl_id ?_); refine m_loadS HM.out rfl rfl rfl (by first | exact .head _ | exact .tail _ (.head _) | exact .tail _ (.tail _ (.head _)) | exact .tail _ (.tail _ (.tail _ (.head _))) | exact .tail _ (.tail _ (.tail _ (.tail _ (.head _)))) | exact .tail _ (.tail _ (.tail _ (.tail _ (.tail _ (.head _))))) | exact .tail _ (.tail _ (.tail _ (.tail _ (.tail _ (.tail _ (.head _)))))) | exact .tail _ (.tail _ (.tail _ (.tail _ (.tail _ (.tail _ (.tail _ (.head _)))))))) (askL (.slice A L.length c) n m k r) rfl Tryd.underlying24 rfl (by kernel_rfl) ?_; simp only [Act.put, List.setIfInBounds_toArray, List.set_cons_zero, List.set_cons_succ]) | ((with_reducible refine wl_id ?_); refine m_load HM.out rfl rfl rfl (by first | exact .head _ | exact .tail _ (.head _) | exact .tail _ (.tail _ (.head _)) | exact .tail _ (.tail _ (.tail _ (.head _))) | exact .tail _ (.tail _ (.tail _ (.tail _ (.head _)))) | exact .tail _ (.tail _ (.tail _ (.tail _ (.tail _ (.head _))))) | exact .tail _ (.tail _ (.tail _ (.tail _ (.tail _ (.tail _ (.head _)))))) | exact .tail _ (.tail _ (.tail _ (.tail _ (.tail _ (.tail _ (.tail _ (.head _)))))))) rfl (by first | exact Tryd.underlying3 | exact Tryd.underlying4 | exact Tryd.underlying9 | exact Tryd.underlying28 | exact Tryd.underlying35) rfl ?_; simp only [Act.put, List.setIfInBounds_toArray, List.set_cons_zero, List.set_cons_succ]) | ((with_reducible refine wl_id ?_); refine m_slice (e := 3) HM.out rfl rfl #[(0, .int .i64 67), (1, .int .i64 68)] (by simp only [List.map_toArray, List.map_cons, List.map_nil]; rfl) _ (fun w' => slice2k _ _ w') ?_; intro g w2 hM; simp only [Act.put, List.setIfInBounds_toArray, List.set_cons_zero, List.set_cons_succ]; have HM2 := hid hM; clear hM) | (go_at_call 21; fail))
  refine (HMV.out _ _ HM2.out.below (rdI_mem HM2.out (.head _) rfl)).mono ?_
  rintro e w3 ⟨rfl, hB⟩
  have HM3 := hid (HM2.out.call hB)
  clear hB
  go_wp2
  go_ret
  exact ⟨rfl, HM3.out.below⟩
set_option maxRecDepth 100000 in
theorem walk_CursorTo {L : List SV} {v : Value} {n m k r : Int} {w : World} (hv : RdSS w v L) (hL : L.length ≤ 1048576) (hT : U8 w) :
    Calls Tryd.prog 6 #[.agg (askL v n m k r).toArray] w fun e w' => e = .returned (.bool true) ∧ Below w.heap.size w w' := by
  have HMV : Hid (∀ (kv : Value) (W : World), Below w.heap.size w W → RdI W kv [72, 100, 71] → Calls Tryd.prog 21 #[.agg (askL v n m k r).toArray, kv] W _) := hid fun kv W hW hk => moves_any (hv.below hW) hL hk (Nat.le_of_ble_eq_true rfl) (hT.below hW)
  obtain ⟨A, c, rfl, -, -⟩ := hv
  have HX := hid (Mem.start w)
  clear hT
  go_enter Tryd.func6, Tryd.ntmps6
  go_upto_region 0 with (fail)
  refine wp_region_lit ?_
  refine m_box HX.out rfl rfl rfl ?_
  intro b w1 hM
  simp only [Act.put, List.setIfInBounds_toArray, List.set_cons_zero, List.set_cons_succ]
  have HM := hid hM
  clear hM HX
  go_wp2_with (first | ((with_reducible refine wl_id ?_); refine m_loadS HM.out rfl rfl rfl (by first | exact .head _ | exact .tail _ (.head _) | exact .tail _ (.tail _ (.head _)) | exact .tail _ (.tail _ (.tail _ (.head _))) | exact .tail _ (.tail _ (.tail _ (.tail _ (.head _)))) | exact .tail _ (.tail _ (.tail _ (.tail _ (.tail _ (.head _))))) | exact .tail _ (.tail _ (.tail _ (.tail _ (.tail _ (.tail _ (.head _)))))) | exact .tail _ (.tail _ (.tail _ (.tail _ (.tail _ (.tail _ (.tail _ (.head _)))))))) (askL (.slice A L.length c) n m k r) rfl Tryd.underlying24 rfl (by kernel_rfl) ?_; simp only [Act.put, List.setIfInBounds_toArray, List.set_cons_zero, List.set_cons_succ]) | ((with_reducible refine wl_id ?_); refine m_load HM.out rfl rfl rfl (by first | exact .head _ | exact .tail _ (.head _) | exact .tail _ (.tail _ (.head _)) | exact .tail _ (.tail _ (.tail _ (.head _))) | exact .tail _ (.tail _ (.tail _ (.tail _ (.head _)))) | exact .tail _ (.tail _ (.tail _ (.tail _ (.tail _ (.head _))))) | exact .tail _ (.tail _ (.tail _ (.tail _ (.tail _ (.tail _ (.head _)))))) | exact .tail _ (.tail _ (.tail _ (.tail _ (.tail _ (.tail _ (.tail _ (.head _)))))))) rfl (by first | exact Tryd.underlying3 | exact Tryd.underlying4 | exact Tryd.underlying9 | exact Tryd.underlying28 | exact Tryd.underlying35) rfl ?_; simp only [Act.put, List.setIfInBounds_toArray, List.set_cons_zero, List.set_cons_succ]) | ((with_reducible refine wl_id ?_); refine m_slice (e := 3) HM.out rfl rfl #[(0, .int .i64 72), (1, .int .i64 100), (2, .int .i64 71)] (by simp only [List.map_toArray, List.map_cons, List.map_nil]; rfl) _ (fun w' => slice3k _ _ _ w') ?_; intro g w2 hM; simp only [Act.put, List.setIfInBounds_toArray, List.set_cons_zero, List.set_cons_succ]; have HM2 := hid hM; clear hM) | (go_at_call 21; fail))
  refine (HMV.out _ _ HM2.out.below (rdI_mem HM2.out (.head _) rfl)).mono ?_
  rintro e w3 ⟨rfl, hB⟩
  have HM3 := hid (HM2.out.call hB)
  clear hB
  go_wp2
  go_ret
  exact ⟨rfl, HM3.out.below⟩
set_option maxRecDepth 100000 in
theorem walk_CursorTab {L : List SV} {v : Value} {n m k r : Int} {w : World} (hv : RdSS w v L) (hL : L.length ≤ 1048576) (hT : U8 w) :
    Calls Tryd.prog 7 #[.agg (askL v n m k r).toArray] w fun e w' => e = .returned (.bool true) ∧ Below w.heap.size w w' := by
  have HMV : Hid (∀ (kv : Value) (W : World), Below w.heap.size w W → RdI W kv [73, 90, k] → Calls Tryd.prog 21 #[.agg (askL v n m k r).toArray, kv] W _) := hid fun kv W hW hk => moves_any (hv.below hW) hL hk (Nat.le_of_ble_eq_true rfl) (hT.below hW)
  obtain ⟨A, c, rfl, -, -⟩ := hv
  have HX := hid (Mem.start w)
  clear hT
  go_enter Tryd.func7, Tryd.ntmps7
  go_upto_region 0 with (fail)
  refine wp_region_lit ?_
  refine m_box HX.out rfl rfl rfl ?_
  intro b w1 hM
  simp only [Act.put, List.setIfInBounds_toArray, List.set_cons_zero, List.set_cons_succ]
  have HM := hid hM
  clear hM HX
  go_wp2_with (first | ((with_reducible refine wl_id ?_); refine m_loadS HM.out rfl rfl rfl (by first | exact .head _ | exact .tail _ (.head _) | exact .tail _ (.tail _ (.head _)) | exact .tail _ (.tail _ (.tail _ (.head _))) | exact .tail _ (.tail _ (.tail _ (.tail _ (.head _)))) | exact .tail _ (.tail _ (.tail _ (.tail _ (.tail _ (.head _))))) | exact .tail _ (.tail _ (.tail _ (.tail _ (.tail _ (.tail _ (.head _)))))) | exact .tail _ (.tail _ (.tail _ (.tail _ (.tail _ (.tail _ (.tail _ (.head _)))))))) (askL (.slice A L.length c) n m k r) rfl Tryd.underlying24 rfl (by kernel_rfl) ?_; simp only [Act.put, List.setIfInBounds_toArray, List.set_cons_zero, List.set_cons_succ]) | ((with_reducible refine wl_id ?_); refine m_load HM.out rfl rfl rfl (by first | exact .head _ | exact .tail _ (.head _) | exact .tail _ (.tail _ (.head _)) | exact .tail _ (.tail _ (.tail _ (.head _))) | exact .tail _ (.tail _ (.tail _ (.tail _ (.head _)))) | exact .tail _ (.tail _ (.tail _ (.tail _ (.tail _ (.head _))))) | exact .tail _ (.tail _ (.tail _ (.tail _ (.tail _ (.tail _ (.head _)))))) | exact .tail _ (.tail _ (.tail _ (.tail _ (.tail _ (.tail _ (.tail _ (.head _)))))))) rfl (by first | exact Tryd.underlying3 | exact Tryd.underlying4 | exact Tryd.underlying9 | exact Tryd.underlying28 | exact Tryd.underlying35) rfl ?_; simp only [Act.put, List.setIfInBounds_toArray, List.set_cons_zero, List.set_cons_succ]) | ((with_reducible refine wl_id ?_); refine m_slice (e := 3) HM.out rfl rfl #[(0, .int .i64 73), (1, .int .i64 90), (2, .int .i64 k)] (by simp only [List.map_toArray, List.map_cons, List.map_nil]; rfl) _ (fun w' => slice3k _ _ _ w') ?_; intro g w2 hM; simp only [Act.put, List.setIfInBounds_toArray, List.set_cons_zero, List.set_cons_succ]; have HM2 := hid hM; clear hM) | (go_at_call 21; fail))
  refine (HMV.out _ _ HM2.out.below (rdI_mem HM2.out (.head _) rfl)).mono ?_
  rintro e w3 ⟨rfl, hB⟩
  have HM3 := hid (HM2.out.call hB)
  clear hB
  go_wp2
  go_ret
  exact ⟨rfl, HM3.out.below⟩
set_option maxRecDepth 100000 in
theorem walk_CursorBigA {L : List SV} {v : Value} {n m k r : Int} {w : World} (hv : RdSS w v L) (hL : L.length ≤ 1048576) (hT : U8 w) :
    Calls Tryd.prog 8 #[.agg (askL v n m k r).toArray] w fun e w' => e = .returned (.bool true) ∧ Below w.heap.size w w' := by
  have HMV : Hid (∀ (kv : Value) (W : World), Below w.heap.size w W → RdI W kv [65] → Calls Tryd.prog 21 #[.agg (askL v n m k r).toArray, kv] W _) := hid fun kv W hW hk => moves_any (hv.below hW) hL hk (Nat.le_of_ble_eq_true rfl) (hT.below hW)
  obtain ⟨A, c, rfl, -, -⟩ := hv
  have HX := hid (Mem.start w)
  clear hT
  go_enter Tryd.func8, Tryd.ntmps8
  go_upto_region 0 with (fail)
  refine wp_region_lit ?_
  refine m_box HX.out rfl rfl rfl ?_
  intro b w1 hM
  simp only [Act.put, List.setIfInBounds_toArray, List.set_cons_zero, List.set_cons_succ]
  have HM := hid hM
  clear hM HX
  go_wp2_with (first | ((with_reducible refine wl_id ?_); refine m_loadS HM.out rfl rfl rfl (by first | exact .head _ | exact .tail _ (.head _) | exact .tail _ (.tail _ (.head _)) | exact .tail _ (.tail _ (.tail _ (.head _))) | exact .tail _ (.tail _ (.tail _ (.tail _ (.head _)))) | exact .tail _ (.tail _ (.tail _ (.tail _ (.tail _ (.head _))))) | exact .tail _ (.tail _ (.tail _ (.tail _ (.tail _ (.tail _ (.head _)))))) | exact .tail _ (.tail _ (.tail _ (.tail _ (.tail _ (.tail _ (.tail _ (.head _)))))))) (askL (.slice A L.length c) n m k r) rfl Tryd.underlying24 rfl (by kernel_rfl) ?_; simp only [Act.put, List.setIfInBounds_toArray, List.set_cons_zero, List.set_cons_succ]) | ((with_reducible refine wl_id ?_); refine m_load HM.out rfl rfl rfl (by first | exact .head _ | exact .tail _ (.head _) | exact .tail _ (.tail _ (.head _)) | exact .tail _ (.tail _ (.tail _ (.head _))) | exact .tail _ (.tail _ (.tail _ (.tail _ (.head _)))) | exact .tail _ (.tail _ (.tail _ (.tail _ (.tail _ (.head _))))) | exact .tail _ (.tail _ (.tail _ (.tail _ (.tail _ (.tail _ (.head _)))))) | exact .tail _ (.tail _ (.tail _ (.tail _ (.tail _ (.tail _ (.tail _ (.head _)))))))) rfl (by first | exact Tryd.underlying3 | exact Tryd.underlying4 | exact Tryd.underlying9 | exact Tryd.underlying28 | exact Tryd.underlying35) rfl ?_; simp only [Act.put, List.setIfInBounds_toArray, List.set_cons_zero, List.set_cons_succ]) | ((with_reducible refine wl_id ?_); refine m_slice (e := 3) HM.out rfl rfl #[(0, .int .i64 65)] (by simp only [List.map_toArray, List.map_cons, List.map_nil]; rfl) _ (fun w' => slice1k _ w') ?_; intro g w2 hM; simp only [Act.put, List.setIfInBounds_toArray, List.set_cons_zero, List.set_cons_succ]; have HM2 := hid hM; clear hM) | (go_at_call 21; fail))
  refine (HMV.out _ _ HM2.out.below (rdI_mem HM2.out (.head _) rfl)).mono ?_
  rintro e w3 ⟨rfl, hB⟩
  have HM3 := hid (HM2.out.call hB)
  clear hB
  go_wp2
  go_ret
  exact ⟨rfl, HM3.out.below⟩
set_option maxRecDepth 100000 in
theorem walk_CursorBigB {L : List SV} {v : Value} {n m k r : Int} {w : World} (hv : RdSS w v L) (hL : L.length ≤ 1048576) (hT : U8 w) :
    Calls Tryd.prog 9 #[.agg (askL v n m k r).toArray] w fun e w' => e = .returned (.bool true) ∧ Below w.heap.size w w' := by
  have HMV : Hid (∀ (kv : Value) (W : World), Below w.heap.size w W → RdI W kv [66] → Calls Tryd.prog 21 #[.agg (askL v n m k r).toArray, kv] W _) := hid fun kv W hW hk => moves_any (hv.below hW) hL hk (Nat.le_of_ble_eq_true rfl) (hT.below hW)
  obtain ⟨A, c, rfl, -, -⟩ := hv
  have HX := hid (Mem.start w)
  clear hT
  go_enter Tryd.func9, Tryd.ntmps9
  go_upto_region 0 with (fail)
  refine wp_region_lit ?_
  refine m_box HX.out rfl rfl rfl ?_
  intro b w1 hM
  simp only [Act.put, List.setIfInBounds_toArray, List.set_cons_zero, List.set_cons_succ]
  have HM := hid hM
  clear hM HX
  go_wp2_with (first | ((with_reducible refine wl_id ?_); refine m_loadS HM.out rfl rfl rfl (by first | exact .head _ | exact .tail _ (.head _) | exact .tail _ (.tail _ (.head _)) | exact .tail _ (.tail _ (.tail _ (.head _))) | exact .tail _ (.tail _ (.tail _ (.tail _ (.head _)))) | exact .tail _ (.tail _ (.tail _ (.tail _ (.tail _ (.head _))))) | exact .tail _ (.tail _ (.tail _ (.tail _ (.tail _ (.tail _ (.head _)))))) | exact .tail _ (.tail _ (.tail _ (.tail _ (.tail _ (.tail _ (.tail _ (.head _)))))))) (askL (.slice A L.length c) n m k r) rfl Tryd.underlying24 rfl (by kernel_rfl) ?_; simp only [Act.put, List.setIfInBounds_toArray, List.set_cons_zero, List.set_cons_succ]) | ((with_reducible refine wl_id ?_); refine m_load HM.out rfl rfl rfl (by first | exact .head _ | exact .tail _ (.head _) | exact .tail _ (.tail _ (.head _)) | exact .tail _ (.tail _ (.tail _ (.head _))) | exact .tail _ (.tail _ (.tail _ (.tail _ (.head _)))) | exact .tail _ (.tail _ (.tail _ (.tail _ (.tail _ (.head _))))) | exact .tail _ (.tail _ (.tail _ (.tail _ (.tail _ (.tail _ (.head _)))))) | exact .tail _ (.tail _ (.tail _ (.tail _ (.tail _ (.tail _ (.tail _ (.head _)))))))) rfl (by first | exact Tryd.underlying3 | exact Tryd.underlying4 | exact Tryd.underlying9 | exact Tryd.underlying28 | exact Tryd.underlying35) rfl ?_; simp only [Act.put, List.setIfInBounds_toArray, List.set_cons_zero, List.set_cons_succ]) | ((with_reducible refine wl_id ?_); refine m_slice (e := 3) HM.out rfl rfl #[(0, .int .i64 66)] (by simp only [List.map_toArray, List.map_cons, List.map_nil]; rfl) _ (fun w' => slice1k _ w') ?_; intro g w2 hM; simp only [Act.put, List.setIfInBounds_toArray, List.set_cons_zero, List.set_cons_succ]; have HM2 := hid hM; clear hM) | (go_at_call 21; fail))
  refine (HMV.out _ _ HM2.out.below (rdI_mem HM2.out (.head _) rfl)).mono ?_
  rintro e w3 ⟨rfl, hB⟩
  have HM3 := hid (HM2.out.call hB)
  clear hB
  go_wp2
  go_ret
  exact ⟨rfl, HM3.out.below⟩
set_option maxRecDepth 100000 in
theorem walk_CursorBigC {L : List SV} {v : Value} {n m k r : Int} {w : World} (hv : RdSS w v L) (hL : L.length ≤ 1048576) (hT : U8 w) :
    Calls Tryd.prog 10 #[.agg (askL v n m k r).toArray] w fun e w' => e = .returned (.bool true) ∧ Below w.heap.size w w' := by
  have HMV : Hid (∀ (kv : Value) (W : World), Below w.heap.size w W → RdI W kv [67] → Calls Tryd.prog 21 #[.agg (askL v n m k r).toArray, kv] W _) := hid fun kv W hW hk => moves_any (hv.below hW) hL hk (Nat.le_of_ble_eq_true rfl) (hT.below hW)
  obtain ⟨A, c, rfl, -, -⟩ := hv
  have HX := hid (Mem.start w)
  clear hT
  go_enter Tryd.func10, Tryd.ntmps10
  go_upto_region 0 with (fail)
  refine wp_region_lit ?_
  refine m_box HX.out rfl rfl rfl ?_
  intro b w1 hM
  simp only [Act.put, List.setIfInBounds_toArray, List.set_cons_zero, List.set_cons_succ]
  have HM := hid hM
  clear hM HX
  go_wp2_with (first | ((with_reducible refine wl_id ?_); refine m_loadS HM.out rfl rfl rfl (by first | exact .head _ | exact .tail _ (.head _) | exact .tail _ (.tail _ (.head _)) | exact .tail _ (.tail _ (.tail _ (.head _))) | exact .tail _ (.tail _ (.tail _ (.tail _ (.head _)))) | exact .tail _ (.tail _ (.tail _ (.tail _ (.tail _ (.head _))))) | exact .tail _ (.tail _ (.tail _ (.tail _ (.tail _ (.tail _ (.head _)))))) | exact .tail _ (.tail _ (.tail _ (.tail _ (.tail _ (.tail _ (.tail _ (.head _)))))))) (askL (.slice A L.length c) n m k r) rfl Tryd.underlying24 rfl (by kernel_rfl) ?_; simp only [Act.put, List.setIfInBounds_toArray, List.set_cons_zero, List.set_cons_succ]) | ((with_reducible refine wl_id ?_); refine m_load HM.out rfl rfl rfl (by first | exact .head _ | exact .tail _ (.head _) | exact .tail _ (.tail _ (.head _)) | exact .tail _ (.tail _ (.tail _ (.head _))) | exact .tail _ (.tail _ (.tail _ (.tail _ (.head _)))) | exact .tail _ (.tail _ (.tail _ (.tail _ (.tail _ (.head _))))) | exact .tail _ (.tail _ (.tail _ (.tail _ (.tail _ (.tail _ (.head _)))))) | exact .tail _ (.tail _ (.tail _ (.tail _ (.tail _ (.tail _ (.tail _ (.head _)))))))) rfl (by first | exact Tryd.underlying3 | exact Tryd.underlying4 | exact Tryd.underlying9 | exact Tryd.underlying28 | exact Tryd.underlying35) rfl ?_; simp only [Act.put, List.setIfInBounds_toArray, List.set_cons_zero, List.set_cons_succ]) | ((with_reducible refine wl_id ?_); refine m_slice (e := 3) HM.out rfl rfl #[(0, .int .i64 67)] (by simp only [List.map_toArray, List.map_cons, List.map_nil]; rfl) _ (fun w' => slice1k _ w') ?_; intro g w2 hM; simp only [Act.put, List.setIfInBounds_toArray, List.set_cons_zero, List.set_cons_succ]; have HM2 := hid hM; clear hM) | (go_at_call 21; fail))
  refine (HMV.out _ _ HM2.out.below (rdI_mem HM2.out (.head _) rfl)).mono ?_
  rintro e w3 ⟨rfl, hB⟩
  have HM3 := hid (HM2.out.call hB)
  clear hB
  go_wp2
  go_ret
  exact ⟨rfl, HM3.out.below⟩
set_option maxRecDepth 100000 in
theorem walk_CursorBigD {L : List SV} {v : Value} {n m k r : Int} {w : World} (hv : RdSS w v L) (hL : L.length ≤ 1048576) (hT : U8 w) :
    Calls Tryd.prog 11 #[.agg (askL v n m k r).toArray] w fun e w' => e = .returned (.bool true) ∧ Below w.heap.size w w' := by
  have HMV : Hid (∀ (kv : Value) (W : World), Below w.heap.size w W → RdI W kv [68] → Calls Tryd.prog 21 #[.agg (askL v n m k r).toArray, kv] W _) := hid fun kv W hW hk => moves_any (hv.below hW) hL hk (Nat.le_of_ble_eq_true rfl) (hT.below hW)
  obtain ⟨A, c, rfl, -, -⟩ := hv
  have HX := hid (Mem.start w)
  clear hT
  go_enter Tryd.func11, Tryd.ntmps11
  go_upto_region 0 with (fail)
  refine wp_region_lit ?_
  refine m_box HX.out rfl rfl rfl ?_
  intro b w1 hM
  simp only [Act.put, List.setIfInBounds_toArray, List.set_cons_zero, List.set_cons_succ]
  have HM := hid hM
  clear hM HX
  go_wp2_with (first | ((with_reducible refine wl_id ?_); refine m_loadS HM.out rfl rfl rfl (by first | exact .head _ | exact .tail _ (.head _) | exact .tail _ (.tail _ (.head _)) | exact .tail _ (.tail _ (.tail _ (.head _))) | exact .tail _ (.tail _ (.tail _ (.tail _ (.head _)))) | exact .tail _ (.tail _ (.tail _ (.tail _ (.tail _ (.head _))))) | exact .tail _ (.tail _ (.tail _ (.tail _ (.tail _ (.tail _ (.head _)))))) | exact .tail _ (.tail _ (.tail _ (.tail _ (.tail _ (.tail _ (.tail _ (.head _)))))))) (askL (.slice A L.length c) n m k r) rfl Tryd.underlying24 rfl (by kernel_rfl) ?_; simp only [Act.put, List.setIfInBounds_toArray, List.set_cons_zero, List.set_cons_succ]) | ((with_reducible refine wl_id ?_); refine m_load HM.out rfl rfl rfl (by first | exact .head _ | exact .tail _ (.head _) | exact .tail _ (.tail _ (.head _)) | exact .tail _ (.tail _ (.tail _ (.head _))) | exact .tail _ (.tail _ (.tail _ (.tail _ (.head _)))) | exact .tail _ (.tail _ (.tail _ (.tail _ (.tail _ (.head _))))) | exact .tail _ (.tail _ (.tail _ (.tail _ (.tail _ (.tail _ (.head _)))))) | exact .tail _ (.tail _ (.tail _ (.tail _ (.tail _ (.tail _ (.tail _ (.head _)))))))) rfl (by first | exact Tryd.underlying3 | exact Tryd.underlying4 | exact Tryd.underlying9 | exact Tryd.underlying28 | exact Tryd.underlying35) rfl ?_; simp only [Act.put, List.setIfInBounds_toArray, List.set_cons_zero, List.set_cons_succ]) | ((with_reducible refine wl_id ?_); refine m_slice (e := 3) HM.out rfl rfl #[(0, .int .i64 68)] (by simp only [List.map_toArray, List.map_cons, List.map_nil]; rfl) _ (fun w' => slice1k _ w') ?_; intro g w2 hM; simp only [Act.put, List.setIfInBounds_toArray, List.set_cons_zero, List.set_cons_succ]; have HM2 := hid hM; clear hM) | (go_at_call 21; fail))
  refine (HMV.out _ _ HM2.out.below (rdI_mem HM2.out (.head _) rfl)).mono ?_
  rintro e w3 ⟨rfl, hB⟩
  have HM3 := hid (HM2.out.call hB)
  clear hB
  go_wp2
  go_ret
  exact ⟨rfl, HM3.out.below⟩
set_option maxRecDepth 100000 in
theorem walk_CursorBigE {L : List SV} {v : Value} {n m k r : Int} {w : World} (hv : RdSS w v L) (hL : L.length ≤ 1048576) (hT : U8 w) :
    Calls Tryd.prog 12 #[.agg (askL v n m k r).toArray] w fun e w' => e = .returned (.bool true) ∧ Below w.heap.size w w' := by
  have HMV : Hid (∀ (kv : Value) (W : World), Below w.heap.size w W → RdI W kv [69] → Calls Tryd.prog 21 #[.agg (askL v n m k r).toArray, kv] W _) := hid fun kv W hW hk => moves_any (hv.below hW) hL hk (Nat.le_of_ble_eq_true rfl) (hT.below hW)
  obtain ⟨A, c, rfl, -, -⟩ := hv
  have HX := hid (Mem.start w)
  clear hT
  go_enter Tryd.func12, Tryd.ntmps12
  go_upto_region 0 with (fail)
  refine wp_region_lit ?_
  refine m_box HX.out rfl rfl rfl ?_
  intro b w1 hM
  simp only [Act.put, List.setIfInBounds_toArray, List.set_cons_zero, List.set_cons_succ]
  have HM := hid hM
  clear hM HX
  go_wp2_with (first | ((with_reducible refine wl_id ?_); refine m_loadS HM.out rfl rfl rfl (by first | exact .head _ | exact .tail _ (.head _) | exact .tail _ (.tail _ (.head _)) | exact .tail _ (.tail _ (.tail _ (.head _))) | exact .tail _ (.tail _ (.tail _ (.tail _ (.head _)))) | exact .tail _ (.tail _ (.tail _ (.tail _ (.tail _ (.head _))))) | exact .tail _ (.tail _ (.tail _ (.tail _ (.tail _ (.tail _ (.head _)))))) | exact .tail _ (.tail _ (.tail _ (.tail _ (.tail _ (.tail _ (.tail _ (.head _)))))))) (askL (.slice A L.length c) n m k r) rfl Tryd.underlying24 rfl (by kernel_rfl) ?_; simp only [Act.put, List.setIfInBounds_toArray, List.set_cons_zero, List.set_cons_succ]) | ((with_reducible refine wl_id ?_); refine m_load HM.out rfl rfl rfl (by first | exact .head _ | exact .tail _ (.head _) | exact .tail _ (.tail _ (.head _)) | exact .tail _ (.tail _ (.tail _ (.head _))) | exact .tail _ (.tail _ (.tail _ (.tail _ (.head _)))) | exact .tail _ (.tail _ (.tail _ (.tail _ (.tail _ (.head _))))) | exact .tail _ (.tail _ (.tail _ (.tail _ (.tail _ (.tail _ (.head _)))))) | exact .tail _ (.tail _ (.tail _ (.tail _ (.tail _ (.tail _ (.tail _ (.head _)))))))) rfl (by first | exact Tryd.underlying3 | exact Tryd.underlying4 | exact Tryd.underlying9 | exact Tryd.underlying28 | exact Tryd.underlying35) rfl ?_; simp only [Act.put, List.setIfInBounds_toArray, List.set_cons_zero, List.set_cons_succ]) | ((with_reducible refine wl_id ?_); refine m_slice (e := 3) HM.out rfl rfl #[(0, .int .i64 69)] (by simp only [List.map_toArray, List.map_cons, List.map_nil]; rfl) _ (fun w' => slice1k _ w') ?_; intro g w2 hM; simp only [Act.put, List.setIfInBounds_toArray, List.set_cons_zero, List.set_cons_succ]; have HM2 := hid hM; clear hM) | (go_at_call 21; fail))
  refine (HMV.out _ _ HM2.out.below (rdI_mem HM2.out (.head _) rfl)).mono ?_
  rintro e w3 ⟨rfl, hB⟩
  have HM3 := hid (HM2.out.call hB)
  clear hB
  go_wp2
  go_ret
  exact ⟨rfl, HM3.out.below⟩
set_option maxRecDepth 100000 in
theorem walk_CursorBigF {L : List SV} {v : Value} {n m k r : Int} {w : World} (hv : RdSS w v L) (hL : L.length ≤ 1048576) (hT : U8 w) :
    Calls Tryd.prog 13 #[.agg (askL v n m k r).toArray] w fun e w' => e = .returned (.bool true) ∧ Below w.heap.size w w' := by
  have HMV : Hid (∀ (kv : Value) (W : World), Below w.heap.size w W → RdI W kv [70] → Calls Tryd.prog 21 #[.agg (askL v n m k r).toArray, kv] W _) := hid fun kv W hW hk => moves_any (hv.below hW) hL hk (Nat.le_of_ble_eq_true rfl) (hT.below hW)
  obtain ⟨A, c, rfl, -, -⟩ := hv
  have HX := hid (Mem.start w)
  clear hT
  go_enter Tryd.func13, Tryd.ntmps13
  go_upto_region 0 with (fail)
  refine wp_region_lit ?_
  refine m_box HX.out rfl rfl rfl ?_
  intro b w1 hM
  simp only [Act.put, List.setIfInBounds_toArray, List.set_cons_zero, List.set_cons_succ]
  have HM := hid hM
  clear hM HX
  go_wp2_with (first | ((with_reducible refine wl_id ?_); refine m_loadS HM.out rfl rfl rfl (by first | exact .head _ | exact .tail _ (.head _) | exact .tail _ (.tail _ (.head _)) | exact .tail _ (.tail _ (.tail _ (.head _))) | exact .tail _ (.tail _ (.tail _ (.tail _ (.head _)))) | exact .tail _ (.tail _ (.tail _ (.tail _ (.tail _ (.head _))))) | exact .tail _ (.tail _ (.tail _ (.tail _ (.tail _ (.tail _ (.head _)))))) | exact .tail _ (.tail _ (.tail _ (.tail _ (.tail _ (.tail _ (.tail _ (.head _)))))))) (askL (.slice A L.length c) n m k r) rfl Tryd.underlying24 rfl (by kernel_rfl) ?_; simp only [Act.put, List.setIfInBounds_toArray, List.set_cons_zero, List.set_cons_succ]) | ((with_reducible refine wl_id ?_); refine m_load HM.out rfl rfl rfl (by first | exact .head _ | exact .tail _ (.head _) | exact .tail _ (.tail _ (.head _)) | exact .tail _ (.tail _ (.tail _ (.head _))) | exact .tail _ (.tail _ (.tail _ (.tail _ (.head _)))) | exact .tail _ (.tail _ (.tail _ (.tail _ (.tail _ (.head _))))) | exact .tail _ (.tail _ (.tail _ (.tail _ (.tail _ (.tail _ (.head _)))))) | exact .tail _ (.tail _ (.tail _ (.tail _ (.tail _ (.tail _ (.tail _ (.head _)))))))) rfl (by first | exact Tryd.underlying3 | exact Tryd.underlying4 | exact Tryd.underlying9 | exact Tryd.underlying28 | exact Tryd.underlying35) rfl ?_; simp only [Act.put, List.setIfInBounds_toArray, List.set_cons_zero, List.set_cons_succ]) | ((with_reducible refine wl_id ?_); refine m_slice (e := 3) HM.out rfl rfl #[(0, .int .i64 70)] (by simp only [List.map_toArray, List.map_cons, List.map_nil]; rfl) _ (fun w' => slice1k _ w') ?_; intro g w2 hM; simp only [Act.put, List.setIfInBounds_toArray, List.set_cons_zero, List.set_cons_succ]; have HM2 := hid hM; clear hM) | (go_at_call 21; fail))
  refine (HMV.out _ _ HM2.out.below (rdI_mem HM2.out (.head _) rfl)).mono ?_
  rintro e w3 ⟨rfl, hB⟩
  have HM3 := hid (HM2.out.call hB)
  clear hB
  go_wp2
  go_ret
  exact ⟨rfl, HM3.out.below⟩
set_option maxRecDepth 100000 in
theorem walk_CursorBigG {L : List SV} {v : Value} {n m k r : Int} {w : World} (hv : RdSS w v L) (hL : L.length ≤ 1048576) (hT : U8 w) :
    Calls Tryd.prog 14 #[.agg (askL v n m k r).toArray] w fun e w' => e = .returned (.bool true) ∧ Below w.heap.size w w' := by
  have HMV : Hid (∀ (kv : Value) (W : World), Below w.heap.size w W → RdI W kv [71] → Calls Tryd.prog 21 #[.agg (askL v n m k r).toArray, kv] W _) := hid fun kv W hW hk => moves_any (hv.below hW) hL hk (Nat.le_of_ble_eq_true rfl) (hT.below hW)
  obtain ⟨A, c, rfl, -, -⟩ := hv
  have HX := hid (Mem.start w)
  clear hT
  go_enter Tryd.func14, Tryd.ntmps14
  go_upto_region 0 with (fail)
  refine wp_region_lit ?_
  refine m_box HX.out rfl rfl rfl ?_
  intro b w1 hM
  simp only [Act.put, List.setIfInBounds_toArray, List.set_cons_zero, List.set_cons_succ]
  have HM := hid hM
  clear hM HX
  go_wp2_with (first | ((with_reducible refine wl_id ?_); refine m_loadS HM.out rfl rfl rfl (by first | exact .head _ | exact .tail _ (.head _) | exact .tail _ (.tail _ (.head _)) | exact .tail _ (.tail _ (.tail _ (.head _))) | exact .tail _ (.tail _ (.tail _ (.tail _ (.head _)))) | exact .tail _ (.tail _ (.tail _ (.tail _ (.tail _ (.head _))))) | exact .tail _ (.tail _ (.tail _ (.tail _ (.tail _ (.tail _ (.head _)))))) | exact .tail _ (.tail _ (.tail _ (.tail _ (.tail _ (.tail _ (.tail _ (.head _)))))))) (askL (.slice A L.length c) n m k r) rfl Tryd.underlying24 rfl (by kernel_rfl) ?_; simp only [Act.put, List.setIfInBounds_toArray, List.set_cons_zero, List.set_cons_succ]) | ((with_reducible refine wl_id ?_); refine m_load HM.out rfl rfl rfl (by first | exact .head _ | exact .tail _ (.head _) | exact .tail _ (.tail _ (.head _)) | exact .tail _ (.tail _ (.tail _ (.head _))) | exact .tail _ (.tail _ (.tail _ (.tail _ (.head _)))) | exact .tail _ (.tail _ (.tail _ (.tail _ (.tail _ (.head _))))) | exact .tail _ (.tail _ (.tail _ (.tail _ (.tail _ (.tail _ (.head _)))))) | exact .tail _ (.tail _ (.tail _ (.tail _ (.tail _ (.tail _ (.tail _ (.head _)))))))) rfl (by first | exact Tryd.underlying3 | exact Tryd.underlying4 | exact Tryd.underlying9 | exact Tryd.underlying28 | exact Tryd.underlying35) rfl ?_; simp only [Act.put, List.setIfInBounds_toArray, List.set_cons_zero, List.set_cons_succ]) | ((with_reducible refine wl_id ?_); refine m_slice (e := 3) HM.out rfl rfl #[(0, .int .i64 71)] (by simp only [List.map_toArray, List.map_cons, List.map_nil]; rfl) _ (fun w' => slice1k _ w') ?_; intro g w2 hM; simp only [Act.put, List.setIfInBounds_toArray, List.set_cons_zero, List.set_cons_succ]; have HM2 := hid hM; clear hM) | (go_at_call 21; fail))
  refine (HMV.out _ _ HM2.out.below (rdI_mem HM2.out (.head _) rfl)).mono ?_
  rintro e w3 ⟨rfl, hB⟩
  have HM3 := hid (HM2.out.call hB)
  clear hB
  go_wp2
  go_ret
  exact ⟨rfl, HM3.out.below⟩
set_option maxRecDepth 100000 in
theorem walk_CursorD {L : List SV} {v : Value} {n m k r : Int} {w : World} (hv : RdSS w v L) (hL : L.length ≤ 1048576) (hT : U8 w) :
    Calls Tryd.prog 15 #[.agg (askL v n m k r).toArray] w fun e w' => e = .returned (.bool true) ∧ Below w.heap.size w w' := by
  have HMV : Hid (∀ (kv : Value) (W : World), Below w.heap.size w W → RdI W kv [100] → Calls Tryd.prog 21 #[.agg (askL v n m k r).toArray, kv] W _) := hid fun kv W hW hk => moves_any (hv.below hW) hL hk (Nat.le_of_ble_eq_true rfl) (hT.below hW)
  obtain ⟨A, c, rfl, -, -⟩ := hv
  have HX := hid (Mem.start w)
  clear hT
  go_enter Tryd.func15, Tryd.ntmps15
  go_upto_region 0 with (fail)
  refine wp_region_lit ?_
  refine m_box HX.out rfl rfl rfl ?_
  intro b w1 hM
  simp only [Act.put, List.setIfInBounds_toArray, List.set_cons_zero, List.set_cons_succ]
  have HM := hid hM
  clear hM HX
  go_wp2_with (first | ((with_reducible refine wl_id ?_); refine m_loadS HM.out rfl rfl rfl (by first | exact .head _ | exact .tail _ (.head _) | exact .tail _ (.tail _ (.head _)) | exact .tail _ (.tail _ (.tail _ (.head _))) | exact .tail _ (.tail _ (.tail _ (.tail _ (.head _)))) | exact .tail _ (.tail _ (.tail _ (.tail _ (.tail _ (.head _))))) | exact .tail _ (.tail _ (.tail _ (.tail _ (.tail _ (.tail _ (.head _)))))) | exact .tail _ (.tail _ (.tail _ (.tail _ (.tail _ (.tail _ (.tail _ (.head _)))))))) (askL (.slice A L.length c) n m k r) rfl Tryd.underlying24 rfl (by kernel_rfl) ?_; simp only [Act.put, List.setIfInBounds_toArray, List.set_cons_zero, List.set_cons_succ]) | ((with_reducible refine wl_id ?_); refine m_load HM.out rfl rfl rfl (by first | exact .head _ | exact .tail _ (.head _) | exact .tail _ (.tail _ (.head _)) | exact .tail _ (.tail _ (.tail _ (.head _))) | exact .tail _ (.tail _ (.tail _ (.tail _ (.head _)))) | exact .tail _ (.tail _ (.tail _ (.tail _ (.tail _ (.head _))))) | exact .tail _ (.tail _ (.tail _ (.tail _ (.tail _ (.tail _ (.head _)))))) | exact .tail _ (.tail _ (.tail _ (.tail _ (.tail _ (.tail _ (.tail _ (.head _)))))))) rfl (by first | exact Tryd.underlying3 | exact Tryd.underlying4 | exact Tryd.underlying9 | exact Tryd.underlying28 | exact Tryd.underlying35) rfl ?_; simp only [Act.put, List.setIfInBounds_toArray, List.set_cons_zero, List.set_cons_succ]) | ((with_reducible refine wl_id ?_); refine m_slice (e := 3) HM.out rfl rfl #[(0, .int .i64 100)] (by simp only [List.map_toArray, List.map_cons, List.map_nil]; rfl) _ (fun w' => slice1k _ w') ?_; intro g w2 hM; simp only [Act.put, List.setIfInBounds_toArray, List.set_cons_zero, List.set_cons_succ]; have HM2 := hid hM; clear hM) | (go_at_call 21; fail))
  refine (HMV.out _ _ HM2.out.below (rdI_mem HM2.out (.head _) rfl)).mono ?_
  rintro e w3 ⟨rfl, hB⟩
  have HM3 := hid (HM2.out.call hB)
  clear hB
  go_wp2
  go_ret
  exact ⟨rfl, HM3.out.below⟩
set_option maxRecDepth 100000 in
theorem walk_CursorBigH {L : List SV} {v : Value} {n m k r : Int} {w : World} (hv : RdSS w v L) (hL : L.length ≤ 1048576) (hT : U8 w) :
    Calls Tryd.prog 16 #[.agg (askL v n m k r).toArray] w fun e w' => e = .returned (.bool true) ∧ Below w.heap.size w w' := by
  have HMV : Hid (∀ (kv : Value) (W : World), Below w.heap.size w W → RdI W kv [72] → Calls Tryd.prog 21 #[.agg (askL v n m k r).toArray, kv] W _) := hid fun kv W hW hk => moves_any (hv.below hW) hL hk (Nat.le_of_ble_eq_true rfl) (hT.below hW)
  obtain ⟨A, c, rfl, -, -⟩ := hv
  have HX := hid (Mem.start w)
  clear hT
  go_enter Tryd.func16, Tryd.ntmps16
  go_upto_region 0 with (fail)
  refine wp_region_lit ?_
  refine m_box HX.out rfl rfl rfl ?_
  intro b w1 hM
  simp only [Act.put, List.setIfInBounds_toArray, List.set_cons_zero, List.set_cons_succ]
  have HM := hid hM
  clear hM HX
  go_wp2_with (first | ((with_reducible refine wl_id ?_); refine m_loadS HM.out rfl rfl rfl (by first | exact .head _ | exact .tail _ (.head _) | exact .tail _ (.tail _ (.head _)) | exact .tail _ (.tail _ (.tail _ (.head _))) | exact .tail _ (.tail _ (.tail _ (.tail _ (.head _)))) | exact .tail _ (.tail _ (.tail _ (.tail _ (.tail _ (.head _))))) | exact .tail _ (.tail _ (.tail _ (.tail _ (.tail _ (.tail _ (.head _)))))) | exact .tail _ (.tail _ (.tail _ (.tail _ (.tail _ (.tail _ (.tail _ (.head _)))))))) (askL (.slice A L.length c) n m k r) rfl Tryd.underlying24 rfl (by kernel_rfl) ?_; simp only [Act.put, List.setIfInBounds_toArray, List.set_cons_zero, List.set_cons_succ]) | ((with_reducible refine wl_id ?_); refine m_load HM.out rfl rfl rfl (by first | exact .head _ | exact .tail _ (.head _) | exact .tail _ (.tail _ (.head _)) | exact .tail _ (.tail _ (.tail _ (.head _))) | exact .tail _ (.tail _ (.tail _ (.tail _ (.head _)))) | exact .tail _ (.tail _ (.tail _ (.tail _ (.tail _ (.head _))))) | exact .tail _ (.tail _ (.tail _ (.tail _ (.tail _ (.tail _ (.head _)))))) | exact .tail _ (.tail _ (.tail _ (.tail _ (.tail _ (.tail _ (.tail _ (.head _)))))))) rfl (by first | exact Tryd.underlying3 | exact Tryd.underlying4 | exact Tryd.underlying9 | exact Tryd.underlying28 | exact Tryd.underlying35) rfl ?_; simp only [Act.put, List.setIfInBounds_toArray, List.set_cons_zero, List.set_cons_succ]) | ((with_reducible refine wl_id ?_); refine m_slice (e := 3) HM.out rfl rfl #[(0, .int .i64 72)] (by simp only [List.map_toArray, List.map_cons, List.map_nil]; rfl) _ (fun w' => slice1k _ w') ?_; intro g w2 hM; simp only [Act.put, List.setIfInBounds_toArray, List.set_cons_zero, List.set_cons_succ]; have HM2 := hid hM; clear hM) | (go_at_call 21; fail))
  refine (HMV.out _ _ HM2.out.below (rdI_mem HM2.out (.head _) rfl)).mono ?_
  rintro e w3 ⟨rfl, hB⟩
  have HM3 := hid (HM2.out.call hB)
  clear hB
  go_wp2
  go_ret
  exact ⟨rfl, HM3.out.below⟩
set_option maxRecDepth 100000 in
theorem walk_CursorBigI {L : List SV} {v : Value} {n m k r : Int} {w : World} (hv : RdSS w v L) (hL : L.length ≤ 1048576) (hT : U8 w) :
    Calls Tryd.prog 17 #[.agg (askL v n m k r).toArray] w fun e w' => e = .returned (.bool true) ∧ Below w.heap.size w w' := by
  have HMV : Hid (∀ (kv : Value) (W : World), Below w.heap.size w W → RdI W kv [73] → Calls Tryd.prog 21 #[.agg (askL v n m k r).toArray, kv] W _) := hid fun kv W hW hk => moves_any (hv.below hW) hL hk (Nat.le_of_ble_eq_true rfl) (hT.below hW)
  obtain ⟨A, c, rfl, -, -⟩ := hv
  have HX := hid (Mem.start w)
  clear hT
  go_enter Tryd.func17, Tryd.ntmps17
  go_upto_region 0 with (fail)
  refine wp_region_lit ?_
  refine m_box HX.out rfl rfl rfl ?_
  intro b w1 hM
  simp only [Act.put, List.setIfInBounds_toArray, List.set_cons_zero, List.set_cons_succ]
  have HM := hid hM
  clear hM HX
  go_wp2_with (first | ((with_reducible refine wl_id ?_); refine m_loadS HM.out rfl rfl rfl (by first | exact .head _ | exact .tail _ (.head _) | exact .tail _ (.tail _ (.head _)) | exact .tail _ (.tail _ (.tail _ (.head _))) | exact .tail _ (.tail _ (.tail _ (.tail _ (.head _)))) | exact .tail _ (.tail _ (.tail _ (.tail _ (.tail _ (.head _))))) | exact .tail _ (.tail _ (.tail _ (.tail _ (.tail _ (.tail _ (.head _)))))) | exact .tail _ (.tail _ (.tail _ (.tail _ (.tail _ (.tail _ (.tail _ (.head _)))))))) (askL (.slice A L.length c) n m k r) rfl Tryd.underlying24 rfl (by kernel_rfl) ?_; simp only [Act.put, List.setIfInBounds_toArray, List.set_cons_zero, List.set_cons_succ]) | ((with_reducible refine wl_id ?_); refine m_load HM.out rfl rfl rfl (by first | exact .head _ | exact .tail _ (.head _) | exact .tail _ (.tail _ (.head _)) | exact .tail _ (.tail _ (.tail _ (.head _))) | exact .tail _ (.tail _ (.tail _ (.tail _ (.head _)))) | exact .tail _ (.tail _ (.tail _ (.tail _ (.tail _ (.head _))))) | exact .tail _ (.tail _ (.tail _ (.tail _ (.tail _ (.tail _ (.head _)))))) | exact .tail _ (.tail _ (.tail _ (.tail _ (.tail _ (.tail _ (.tail _ (.head _)))))))) rfl (by first | exact Tryd.underlying3 | exact Tryd.underlying4 | exact Tryd.underlying9 | exact Tryd.underlying28 | exact Tryd.underlying35) rfl ?_; simp only [Act.put, List.setIfInBounds_toArray, List.set_cons_zero, List.set_cons_succ]) | ((with_reducible refine wl_id ?_); refine m_slice (e := 3) HM.out rfl rfl #[(0, .int .i64 73)] (by simp only [List.map_toArray, List.map_cons, List.map_nil]; rfl) _ (fun w' => slice1k _ w') ?_; intro g w2 hM; simp only [Act.put, List.setIfInBounds_toArray, List.set_cons_zero, List.set_cons_succ]; have HM2 := hid hM; clear hM) | (go_at_call 21; fail))
  refine (HMV.out _ _ HM2.out.below (rdI_mem HM2.out (.head _) rfl)).mono ?_
  rintro e w3 ⟨rfl, hB⟩
  have HM3 := hid (HM2.out.call hB)
  clear hB
  go_wp2
  go_ret
  exact ⟨rfl, HM3.out.below⟩
set_option maxRecDepth 100000 in
theorem walk_CursorBigZ {L : List SV} {v : Value} {n m k r : Int} {w : World} (hv : RdSS w v L) (hL : L.length ≤ 1048576) (hT : U8 w) :
    Calls Tryd.prog 18 #[.agg (askL v n m k r).toArray] w fun e w' => e = .returned (.bool true) ∧ Below w.heap.size w w' := by
  have HMV : Hid (∀ (kv : Value) (W : World), Below w.heap.size w W → RdI W kv [90] → Calls Tryd.prog 21 #[.agg (askL v n m k r).toArray, kv] W _) := hid fun kv W hW hk => moves_any (hv.below hW) hL hk (Nat.le_of_ble_eq_true rfl) (hT.below hW)
  obtain ⟨A, c, rfl, -, -⟩ := hv
  have HX := hid (Mem.start w)
  clear hT
  go_enter Tryd.func18, Tryd.ntmps18
  go_upto_region 0 with (fail)
  refine wp_region_lit ?_
  refine m_box HX.out rfl rfl rfl ?_
  intro b w1 hM
  simp only [Act.put, List.setIfInBounds_toArray, List.set_cons_zero, List.set_cons_succ]
  have HM := hid hM
  clear hM HX
  go_wp2_with (first | ((with_reducible refine wl_id ?_); refine m_loadS HM.out rfl rfl rfl (by first | exact .head _ | exact .tail _ (.head _) | exact .tail _ (.tail _ (.head _)) | exact .tail _ (.tail _ (.tail _ (.head _))) | exact .tail _ (.tail _ (.tail _ (.tail _ (.head _)))) | exact .tail _ (.tail _ (.tail _ (.tail _ (.tail _ (.head _))))) | exact .tail _ (.tail _ (.tail _ (.tail _ (.tail _ (.tail _ (.head _)))))) | exact .tail _ (.tail _ (.tail _ (.tail _ (.tail _ (.tail _ (.tail _ (.head _)))))))) (askL (.slice A L.length c) n m k r) rfl Tryd.underlying24 rfl (by kernel_rfl) ?_; simp only [Act.put, List.setIfInBounds_toArray, List.set_cons_zero, List.set_cons_succ]) | ((with_reducible refine wl_id ?_); refine m_load HM.out rfl rfl rfl (by first | exact .head _ | exact .tail _ (.head _) | exact .tail _ (.tail _ (.head _)) | exact .tail _ (.tail _ (.tail _ (.head _))) | exact .tail _ (.tail _ (.tail _ (.tail _ (.head _)))) | exact .tail _ (.tail _ (.tail _ (.tail _ (.tail _ (.head _))))) | exact .tail _ (.tail _ (.tail _ (.tail _ (.tail _ (.tail _ (.head _)))))) | exact .tail _ (.tail _ (.tail _ (.tail _ (.tail _ (.tail _ (.tail _ (.head _)))))))) rfl (by first | exact Tryd.underlying3 | exact Tryd.underlying4 | exact Tryd.underlying9 | exact Tryd.underlying28 | exact Tryd.underlying35) rfl ?_; simp only [Act.put, List.setIfInBounds_toArray, List.set_cons_zero, List.set_cons_succ]) | ((with_reducible refine wl_id ?_); refine m_slice (e := 3) HM.out rfl rfl #[(0, .int .i64 90)] (by simp only [List.map_toArray, List.map_cons, List.map_nil]; rfl) _ (fun w' => slice1k _ w') ?_; intro g w2 hM; simp only [Act.put, List.setIfInBounds_toArray, List.set_cons_zero, List.set_cons_succ]; have HM2 := hid hM; clear hM) | (go_at_call 21; fail))
  refine (HMV.out _ _ HM2.out.below (rdI_mem HM2.out (.head _) rfl)).mono ?_
  rintro e w3 ⟨rfl, hB⟩
  have HM3 := hid (HM2.out.call hB)
  clear hB
  go_wp2
  go_ret
  exact ⟨rfl, HM3.out.below⟩
end Go.Proofs.YtbjckahaalbpaaaDoor
