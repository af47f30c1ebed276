/- The reference's edits of rows: Insert, Delete. -/
import Derived.Test.YtpmfjombfcnhmaaGreatDoorEdRef
set_option linter.unusedVariables false
set_option linter.unusedSimpArgs false
set_option linter.unnecessarySimpa false
namespace Go.Proofs.YtpmfjombfcnhmaaGreatDoor
open Go Go.RowKit Go.Proofs.YtpmfjombfcnhmaaGreatDoorW.PrintLast

theorem sub_take {X : List Cell} {p : Nat} (h : p ≤ X.length) : sub 0 p X = X.take p := by
  apply ext_at
  · simp; omega
  · intro i hi
    rw [sub_length] at hi
    rw [sub_at hi, at_take hi, Nat.zero_add]
theorem sub_mid {X : List Cell} {p m : Nat} (h : p + m ≤ X.length) : sub p m X = (X.drop p).take m := by
  apply ext_at
  · simp; omega
  · intro i hi
    rw [sub_length] at hi
    rw [sub_at hi, at_take hi, at_drop]
theorem sub_drop {X : List Cell} {p : Nat} (h : p ≤ X.length) : sub p (X.length - p) X = X.drop p := by
  rw [sub_mid (by omega), List.take_of_length_le (by simp)]
theorem insY_is {L : List Cell} {p k : Nat} {a : Attr} (h : p + k ≤ L.length) : (sub 0 p (cutL p L) ++ blankL k a) ++ sub p (L.length - k - p) (cutL p L) = insY p k a L := by
  rw [sub_take (by simp; omega), sub_mid (by simp; omega)]
  rfl
theorem delY_is {L : List Cell} {p k : Nat} {a : Attr} (h : p + k ≤ L.length) : (sub 0 p (cutL ((p : Int) + (k : Int)) (cutL p L)) ++ sub (p + k) (L.length - (p + k)) (cutL ((p : Int) + (k : Int)) (cutL p L))) ++ blankL k a = delY p k a L := by
  have e : (cutL ((p : Int) + (k : Int)) (cutL (p : Int) L)).length = L.length := by simp
  rw [sub_take (by omega), ← e, sub_drop (by omega), delY, Int.natCast_add]
  rfl
noncomputable def ireg (n : Nat) : Code := ((Tryz.f46.body.bind (findRegion n)).getD .skip)
noncomputable def dreg (n : Nat) : Code := ((Tryz.f45.body.bind (findRegion n)).getD .skip)
set_option maxRecDepth 100000 in
set_option maxHeartbeats 2000000 in
theorem ireg6_is {w wr : World} {g cp b1 p k n : Nat} {X : List Cell} {a : Attr} {Q : Exit → Act → World → Prop} (hM : Mem w wr [(g, entC X cp), (b1, Row 33 (attrL a))]) (hn : X.length = n) (hp : p < n) (hk : p + k ≤ n) (hm : n ≤ 1000000)
    (hP : ∀ c a (d : Tmp) v w, Q (.panic c) (Act.put a (some d) v) w → Q (.panic c) a w) (u0 u2 u3 u4 u5 u6 u8 u11 u12 u13 u14 u15 u16 u17 u18 u19 u20 u21 u22 u23 u24 u25 u26 u27 u28 u29 u30 u31 u32 u33 u34 u35 u36 u37 u38 u39 u40 u41 u42 u43 u44 u45 : Value)
    (hQ : ∀ w' A1 c1 (v26 v27 v28 v29 v30 v31 v32 v33 : Value), Mem w w' [(g, entC X cp), (b1, Row 33 (attrL a))] → OwnC w' wr.heap.size (.slice A1 (p + k) c1) (sub 0 p X ++ blankL k a) → wr.heap.size ≤ w'.heap.size →
      Q .normal ⟨#[u0, .int .i64 p, u2, u3, u4, u5, u6, .pointer (some ⟨b1, 0, none⟩), u8, sl g n cp, .int .i64 k, .slice A1 (p + k) c1, u12, u13, u14, u15, u16, u17, u18, u19, u20, u21, u22, u23, u24, u25, v26, v27, v28, v29, v30, v31, v32, v33, u34, u35, u36, u37, u38, u39, u40, u41, u42, u43, u44, u45], []⟩ w') :
    Code.wp Tryz.prog (ireg 6) Q ⟨#[u0, .int .i64 p, u2, u3, u4, u5, u6, .pointer (some ⟨b1, 0, none⟩), u8, sl g n cp, .int .i64 k, u11, u12, u13, u14, u15, u16, u17, u18, u19, u20, u21, u22, u23, u24, u25, u26, u27, u28, u29, u30, u31, u32, u33, u34, u35, u36, u37, u38, u39, u40, u41, u42, u43, u44, u45], []⟩ wr := by
  have HM := hid hM
  have hcp := hM.lenC (.head _)
  have g1 : (0 : Int) ≤ (p : Int) := by omega
  have g2 : (p : Int) ≤ (cp : Int) := by omega
  have HN := hid hn
  have HM3 := hid hM.drew
  clear hM hcp hn
  conv => arg 2; whnf
  conv => arg 4; zeta
  refine start_ (n := 9) (S := fun W => Mem w W [(g, entC X cp), (b1, Row 33 (attrL a))]) (ds := [7]) #[false, false, false, false, false, false, false, false, false] (by kernel_rfl) rfl rfl HM.out.drew (fun hS => ?_)
  refine take_ (i := 0) (N := some 26) (a' := ?_) (v := sl g n cp) #[true, false, false, false, false, false, false, false, false] rfl rfl (by kernel_rfl) (by first | exact fun _ _ _ h => h | exact fun _ _ _ h => hP _ _ _ _ _ h) (Or.inl ⟨by rfl, fun w' _ => by go_simp⟩) hS ?_ ?_
  rotate_left
  · simp only [Act.put, List.setIfInBounds_toArray, List.set_cons_zero, List.set_cons_succ]
    rfl
  refine take_ (i := 1) (N := some 27) (a' := ?_) (v := .int .i64 p) #[true, true, false, false, false, false, false, false, false] rfl rfl (by kernel_rfl) (by first | exact fun _ _ _ h => h | exact fun _ _ _ h => hP _ _ _ _ _ h) (Or.inl ⟨by rfl, fun w' _ => by go_simp⟩) hS ?_ ?_
  rotate_left
  · simp only [Act.put, List.setIfInBounds_toArray, List.set_cons_zero, List.set_cons_succ]
    rfl
  refine take_ (i := 2) (N := some 28) (a' := ?_) (v := .slice (some ⟨g, 0, none⟩) p cp) #[true, true, true, false, false, false, false, false, false] rfl rfl (by kernel_rfl) (by first | exact fun _ _ _ h => h | exact fun _ _ _ h => hP _ _ _ _ _ h) (Or.inl ⟨by rfl, fun w' _ => by go_simp⟩) hS ?_ ?_
  rotate_left
  · simp only [Act.put, List.setIfInBounds_toArray, List.set_cons_zero, List.set_cons_succ]
    rfl
  refine take_ (i := 4) (N := some 30) (a' := ?_) (v := .int .i64 k) #[true, true, true, false, true, false, false, false, false] rfl rfl (by kernel_rfl) (by first | exact fun _ _ _ h => h | exact fun _ _ _ h => hP _ _ _ _ _ h) (Or.inl ⟨by rfl, fun w' _ => by go_simp⟩) hS ?_ ?_
  rotate_left
  · simp only [Act.put, List.setIfInBounds_toArray, List.set_cons_zero, List.set_cons_succ]
    rfl
  refine take_ (i := 5) (N := some 31) (a' := ?_) (v := .agg (attrL a).toArray) #[true, true, true, false, true, true, false, false, false] rfl rfl (by kernel_rfl) (by first | exact fun _ _ _ h => h | exact fun _ _ _ h => hP _ _ _ _ _ h) (y_loadS rfl rfl rfl (by first | exact .head _ | exact .tail _ (.head _) | exact .tail _ (.tail _ (.head _)) | exact .tail _ (.tail _ (.tail _ (.head _))) | exact .tail _ (.tail _ (.tail _ (.tail _ (.head _)))) | exact .tail _ (.tail _ (.tail _ (.tail _ (.tail _ (.head _))))) | exact .tail _ (.tail _ (.tail _ (.tail _ (.tail _ (.tail _ (.head _)))))) | exact .tail _ (.tail _ (.tail _ (.tail _ (.tail _ (.tail _ (.tail _ (.head _)))))))) rfl Tryz.underlying33 rfl (by kernel_rfl)) hS ?_ ?_
  rotate_left
  · simp only [Act.put, List.setIfInBounds_toArray, List.set_cons_zero, List.set_cons_succ]
    rfl
  refine one_ (i := 3) (N := some 29) #[true, true, true, true, true, true, false, false, false] rfl rfl (by kernel_rfl) (by decide) (fun K hK => ?_)
  refine goes_ Tryz.func54 (by kernel_rfl) rfl #[.slice (some ⟨g, 0, none⟩) p cp] (by rfl) rfl rfl (by simp only [List.map_toArray, List.map_cons, List.map_nil]; rfl) ?_
  refine (copyC_any (sub 0 p X) _ _ (entC_rd hS (.head _) (o := 0) (by omega) (by have := HN.out; omega) rfl (by have := HN.out; omega)) (by rw [sub_length]; omega)).mono ?_
  rintro e w4 ⟨v0, rfl, hO, hB⟩
  have HO := hid hO
  have HB4 := hid hB
  refine ⟨_, rfl, hK.out _ _ (hS.call hB) (fun hS2 => ?_)⟩
  clear hK K hS hO hB
  have hS := hS2
  clear hS2
  refine norm_ (a' := ?_) ?_ ?_
  rotate_left
  · simp only [Act.put, List.setIfInBounds_toArray, List.set_cons_zero, List.set_cons_succ]
    rfl
  refine one_ (i := 6) (N := some 32) #[true, true, true, true, true, true, true, false, false] rfl rfl (by kernel_rfl) (by decide) (fun K hK => ?_)
  refine goes_ Tryz.func80 (by kernel_rfl) rfl #[.int .i64 k, .agg (attrL a).toArray] (by rfl) rfl rfl (by simp only [List.map_toArray, List.map_cons, List.map_nil]; rfl) ?_
  refine (blank_any k a _ (by omega)).mono ?_
  rintro e w5 ⟨v1, rfl, hO1, hB⟩
  obtain ⟨A2, c2, rfl⟩ := hO1.slice
  have HO1 := hid hO1
  have HO2 := hid (HO.out.below hB)
  have HZ5 := hid (Nat.le_trans HB4.out.size hB.size)
  refine ⟨_, rfl, hK.out _ _ (hS.call hB) (fun hS2 => ?_)⟩
  clear hK K hS hO1 hB HO
  have hS := hS2
  clear hS2
  refine norm_ (a' := ?_) ?_ ?_
  rotate_left
  · simp only [Act.put, List.setIfInBounds_toArray, List.set_cons_zero, List.set_cons_succ]
    rfl
  refine last_ (i := 7) (N := some 33) #[true, true, true, true, true, true, true, true, false] rfl rfl (by kernel_rfl) (by decide) (fun K hK => ?_)
  refine y_app rfl rfl rfl wr.heap.size rfl (show OwnC w5 wr.heap.size v0 (sub 0 p X) from HO2.out) rfl HO1.out.rd (by rw [sub_length, blankL_length]; omega) HZ5.out (fun v' w6 hown hg => hK.out _ _ ?_)
  clear hK K
  have hM6 := HM3.out.app hS HO2.out hg
  obtain ⟨A3, c3, rfl⟩ := hown.slice
  have hl : (sub 0 p X ++ blankL k a).length = p + k := by simp
  rw [hl] at hown ⊢
  refine norm_ (a' := ?_) ?_ ?_
  rotate_left
  · simp only [Act.put, List.setIfInBounds_toArray, List.set_cons_zero, List.set_cons_succ]
    rfl
  refine pure_ (i := 8) (N := some 11) (a' := ?_) (v := .slice A3 (p + k) c3) #[true, true, true, true, true, true, true, true, true] rfl rfl (by kernel_rfl) (by first | exact fun _ _ _ h => h | exact fun _ _ _ h => hP _ _ _ _ _ h) (Or.inl ⟨by rfl, fun w' => by go_simp⟩) ?_ ?_
  rotate_left
  · simp only [Act.put, List.setIfInBounds_toArray, List.set_cons_zero, List.set_cons_succ]
    rfl
  refine done_ (by kernel_rfl) ?_
  exact hQ w6 _ _ _ _ _ _ _ _ _ _ hM6 hown (Nat.le_trans HZ5.out hg.size)
set_option maxRecDepth 100000 in
set_option maxHeartbeats 2000000 in
theorem rinsert_any {L : List Cell} {v : Value} {w : World} {p k : Nat} {n0 : Int} {a : Attr} (hv : RdC w v L) (hE : rowE L) (hp : p < L.length) (hn : 1 ≤ n0) (hk : (k : Int) = min n0 ((L.length : Int) - p)) (hm : L.length ≤ 1000000) :
    Calls Tryz.prog 46 #[v, .int .i64 p, .int .i64 n0, .agg (attrL a).toArray] w fun e w' => ∃ v', e = .returned v' ∧ OwnC w' w.heap.size v' (endL (insY p k a L)) ∧ Below w.heap.size w w' := by
  obtain ⟨A, cap, rfl, hlc, -⟩ := hv.open_
  have HC : Hid (∀ W, Below w.heap.size w W → Calls Tryz.prog 54 #[.slice A L.length cap] W _) := hid fun W hW => copyC_any L _ W (hv.below hW) (by omega)
  have h0 : 0 < L.length := by omega
  have hkn : p + k ≤ L.length := by omega
  have hk0 : 0 < k := by omega
  have m1 := fun ts t w => run_min_is (P := Tryz.prog) hk.symm ts t w
  have e0 : IntKind.i64.wrap ((L.length : Int) - p) = (L.length : Int) - p := IntWalk.i64_in _ (by omega)
  have e1 : ((k : Int) == 0) = false := wd_ne (by omega)
  have e2 : IntKind.i64.wrap ((L.length : Int) - k) = (L.length : Int) - k := IntWalk.i64_in _ (by omega)
  have t1 : ((L.length : Int) - k).toNat = L.length - k := by omega
  have HY := hid (insY_is (a := a) hkn)
  have HEY := hid (rowE_insY (a := a) hkn hk0 hE)
  have HYL := hid (insY_length (a := a) hkn)
  have HX := hid (Mem.start w)
  clear hv hk hE
  go_enter Tryz.func46, Tryz.ntmps46
  go_upto_region 0 with (fail)
  refine wp_region_lit ?_
  refine m_box HX.out rfl rfl rfl ?_
  intro b1 w1 hM
  simp only [Act.put, List.setIfInBounds_toArray, List.set_cons_zero, List.set_cons_succ]
  have HM := hid hM
  clear hM HX
  go_upto_region 2 with (go_at_call 54; (with_reducible refine (HC.out _ HM.out.below).mono ?_); rintro e w2 ⟨v', rfl, hO, hB⟩; obtain ⟨g, cp, rfl, hM2⟩ := HM.out.addOwn (HM.out.call hB) hO h0; have HM2 := hid hM2; clear hO hB hM2)
  clear HM HC
  have HM := HM2
  clear HM2
  go_upto_region 6 with (go_at_call 78; (with_reducible refine (rcutM (j := 0) (o := 0) (n := L.length) HM.out rfl rfl (by simp) hm h0).mono ?_); rintro e w3 ⟨rfl, hM⟩; simp only [List.set_cons_zero] at hM; rw [onSub_all (cutL p) L (by simp)] at hM; have HM3 := hid hM; clear hM)
  clear HM
  have HM := HM3
  clear HM3
  have HXL := hid (show (cutL (p : Int) L).length = L.length by simp)
  refine ireg6_is HM.out HXL.out hp hkn hm (fun _ _ _ _ _ h => by simp +zetaDelta only [Exit.then, Exit.inBlock] at h ⊢; exact h) _ _ _ _ _ _ _ _ _ _ _ _ _ _ _ _ _ _ _ _ _ _ _ _ _ _ _ _ _ _ _ _ _ _ _ _ _ _ _ _ _ _ ?_
  rintro w6 A1 c1 v26 v27 v28 v29 v30 v31 v32 v33 hM hO hz6
  conv => zeta
  have HM3 := HM
  have HM6 := hid hM
  have HO6 := hid hO
  have HZ6 := hid hz6
  clear hM hO HM hz6
  have HM := HM6
  clear HM6
  have hcp := HM.out.lenC (.head _)
  rw [HXL.out] at hcp
  have g1 : (0 : Int) ≤ (p : Int) := by omega
  have g2 : (p : Int) ≤ (L.length : Int) - k := by omega
  have g3 : (L.length : Int) - k ≤ (cp : Int) := by omega
  have g4 : ¬ cp = p := by omega
  go_upto_region 8 with (first | ((with_reducible refine wl_id ?_); refine m_app rfl rfl w3.heap.size rfl HO6.out rfl (entC_rd HM.out (.head _) (o := p) (by omega) (by rw [HXL.out]; omega) rfl (by rw [HXL.out]; exact h0)) (by simp; omega) HZ6.out ?_; intro v7 w7 hown hg; simp only [Act.put, List.setIfInBounds_toArray, List.set_cons_zero, List.set_cons_succ]; have HO7 := hid hown; have HM7 := hid (HM3.out.app HM.out HO6.out hg); clear hown hg))
  have hO := HO7.out
  rw [HY.out] at hO
  obtain ⟨g2, cp2, rfl, hM8⟩ := HM3.out.addOwn HM7.out hO (by rw [HYL.out]; exact h0)
  have HM8 := hid hM8
  clear hO hM8 HO7 HM7 HM HM3 hcp
  go_wp2_with (go_at_call 81; (refine (mendM (j := 0) HM8.out rfl HEY.out (by rw [HYL.out]; exact h0) (by rw [HYL.out]; exact hm)).mono ?_); rintro e w9 ⟨rfl, hM⟩; simp only [List.set_cons_zero] at hM; have HM9 := hid hM; clear hM)
  go_ret
  exact ⟨_, rfl, entC_own HM9.out (.head _) (by simp), HM9.out.below⟩
theorem rd_tail {w0 w : World} {F : List Ent} {g cap n o : Nat} {M : List Cell} (hM : Mem w0 w F) (h : (g, entC M cap) ∈ F) (hn : M.length = n) (ho : o ≤ n) (h0 : 0 < n) : RdC w (.slice (if cap = o then some ⟨g, 0, none⟩ else some ⟨g, o * 6, none⟩) (n - o) (cap - o)) (sub o (n - o) M) := by
  subst hn
  have hlc := hM.lenC h
  split
  · have e : M.length - o = 0 := by omega
    rw [e]
    exact ⟨_, cap - o, rfl, Nat.zero_le _, fun hh => absurd hh (by simp)⟩
  · exact entC_rd hM h (by omega) (by omega) rfl h0
set_option maxRecDepth 100000 in
set_option maxHeartbeats 2000000 in
theorem dreg7_is {w wr : World} {g cp b1 p k n : Nat} {X : List Cell} {a : Attr} {Q : Exit → Act → World → Prop} (hM : Mem w wr [(g, entC X cp), (b1, Row 33 (attrL a))]) (hn : X.length = n) (hp : p < n) (hk : p + k ≤ n) (hm : n ≤ 1000000)
    (hP : ∀ c a (d : Tmp) v w, Q (.panic c) (Act.put a (some d) v) w → Q (.panic c) a w) (u0 u2 u3 u4 u5 u6 u8 u11 u12 u13 u14 u15 u16 u17 u18 u19 u20 u21 u22 u23 u24 u25 u26 u27 u28 u29 u30 u31 u32 u33 u34 u35 u36 u37 u38 u39 u40 u41 u42 u43 u44 u45 u46 u47 u48 : Value)
    (hQ : ∀ w' A1 c1 (v31 v32 v33 v34 v35 v36 v37 v38 v39 v40 : Value), Mem w w' [(g, entC X cp), (b1, Row 33 (attrL a))] → OwnC w' wr.heap.size (.slice A1 (n - k) c1) (sub 0 p X ++ sub (p + k) (n - (p + k)) X) → wr.heap.size ≤ w'.heap.size →
      Q .normal ⟨#[u0, .int .i64 p, u2, u3, u4, u5, u6, .pointer (some ⟨b1, 0, none⟩), u8, sl g n cp, .int .i64 k, .slice A1 (n - k) c1, u12, u13, u14, u15, u16, u17, u18, u19, u20, u21, u22, u23, u24, u25, u26, u27, u28, u29, u30, v31, v32, v33, v34, v35, v36, v37, v38, v39, v40, u41, u42, u43, u44, u45, u46, u47, u48], []⟩ w') :
    Code.wp Tryz.prog (dreg 7) Q ⟨#[u0, .int .i64 p, u2, u3, u4, u5, u6, .pointer (some ⟨b1, 0, none⟩), u8, sl g n cp, .int .i64 k, u11, u12, u13, u14, u15, u16, u17, u18, u19, u20, u21, u22, u23, u24, u25, u26, u27, u28, u29, u30, u31, u32, u33, u34, u35, u36, u37, u38, u39, u40, u41, u42, u43, u44, u45, u46, u47, u48], []⟩ wr := by
  have HM := hid hM
  have hcp := hM.lenC (.head _)
  have g1 : (0 : Int) ≤ (p : Int) := by omega
  have g2 : (p : Int) ≤ (cp : Int) := by omega
  have g3 : (0 : Int) ≤ (p : Int) + (k : Int) := by omega
  have g4 : (p : Int) + (k : Int) ≤ (n : Int) := by omega
  have g5 : (n : Int) ≤ (cp : Int) := by omega
  have e5 : IntKind.i64.wrap ((p : Int) + k) = (p : Int) + k := IntWalk.i64_in _ (by omega)
  have e6 : ((p : Int) + (k : Int)).toNat = p + k := by omega
  have HN := hid hn
  have HM3 := hid hM.drew
  clear hM hcp hn
  conv => arg 2; whnf
  conv => arg 4; zeta
  refine start_ (n := 11) (S := fun W => Mem w W [(g, entC X cp), (b1, Row 33 (attrL a))]) (ds := [9]) #[false, false, false, false, false, false, false, false, false, false, false] (by kernel_rfl) rfl rfl HM.out.drew (fun hS => ?_)
  refine take_ (i := 0) (N := some 31) (a' := ?_) (v := sl g n cp) #[true, false, false, false, false, false, false, false, false, false, false] rfl rfl (by kernel_rfl) (by first | exact fun _ _ _ h => h | exact fun _ _ _ h => hP _ _ _ _ _ h) (Or.inl ⟨by rfl, fun w' _ => by go_simp⟩) hS ?_ ?_
  rotate_left
  · simp only [Act.put, List.setIfInBounds_toArray, List.set_cons_zero, List.set_cons_succ]
    rfl
  refine take_ (i := 1) (N := some 32) (a' := ?_) (v := .int .i64 p) #[true, true, false, false, false, false, false, false, false, false, false] rfl rfl (by kernel_rfl) (by first | exact fun _ _ _ h => h | exact fun _ _ _ h => hP _ _ _ _ _ h) (Or.inl ⟨by rfl, fun w' _ => by go_simp⟩) hS ?_ ?_
  rotate_left
  · simp only [Act.put, List.setIfInBounds_toArray, List.set_cons_zero, List.set_cons_succ]
    rfl
  refine take_ (i := 2) (N := some 33) (a' := ?_) (v := .slice (some ⟨g, 0, none⟩) p cp) #[true, true, true, false, false, false, false, false, false, false, false] rfl rfl (by kernel_rfl) (by first | exact fun _ _ _ h => h | exact fun _ _ _ h => hP _ _ _ _ _ h) (Or.inl ⟨by rfl, fun w' _ => by go_simp⟩) hS ?_ ?_
  rotate_left
  · simp only [Act.put, List.setIfInBounds_toArray, List.set_cons_zero, List.set_cons_succ]
    rfl
  refine take_ (i := 4) (N := some 35) (a' := ?_) (v := sl g n cp) #[true, true, true, false, true, false, false, false, false, false, false] rfl rfl (by kernel_rfl) (by first | exact fun _ _ _ h => h | exact fun _ _ _ h => hP _ _ _ _ _ h) (Or.inl ⟨by rfl, fun w' _ => by go_simp⟩) hS ?_ ?_
  rotate_left
  · simp only [Act.put, List.setIfInBounds_toArray, List.set_cons_zero, List.set_cons_succ]
    rfl
  refine take_ (i := 5) (N := some 36) (a' := ?_) (v := .int .i64 p) #[true, true, true, false, true, true, false, false, false, false, false] rfl rfl (by kernel_rfl) (by first | exact fun _ _ _ h => h | exact fun _ _ _ h => hP _ _ _ _ _ h) (Or.inl ⟨by rfl, fun w' _ => by go_simp⟩) hS ?_ ?_
  rotate_left
  · simp only [Act.put, List.setIfInBounds_toArray, List.set_cons_zero, List.set_cons_succ]
    rfl
  refine take_ (i := 6) (N := some 37) (a' := ?_) (v := .int .i64 k) #[true, true, true, false, true, true, true, false, false, false, false] rfl rfl (by kernel_rfl) (by first | exact fun _ _ _ h => h | exact fun _ _ _ h => hP _ _ _ _ _ h) (Or.inl ⟨by rfl, fun w' _ => by go_simp⟩) hS ?_ ?_
  rotate_left
  · simp only [Act.put, List.setIfInBounds_toArray, List.set_cons_zero, List.set_cons_succ]
    rfl
  refine take_ (i := 7) (N := some 38) (a' := ?_) (v := .int .i64 ((p : Int) + (k : Int))) #[true, true, true, false, true, true, true, true, false, false, false] rfl rfl (by kernel_rfl) (by first | exact fun _ _ _ h => h | exact fun _ _ _ h => hP _ _ _ _ _ h) (Or.inl ⟨by rfl, fun w' _ => by go_simp⟩) hS ?_ ?_
  rotate_left
  · simp only [Act.put, List.setIfInBounds_toArray, List.set_cons_zero, List.set_cons_succ]
    rfl
  refine take_ (i := 8) (N := some 39) (a' := ?_) (v := .slice (if cp = p + k then some ⟨g, 0, none⟩ else some ⟨g, (p + k) * 6, none⟩) (n - (p + k)) (cp - (p + k))) #[true, true, true, false, true, true, true, true, true, false, false] rfl rfl (by kernel_rfl) (by first | exact fun _ _ _ h => h | exact fun _ _ _ h => hP _ _ _ _ _ h) (Or.inl ⟨by rfl, fun w' _ => by go_simp⟩) hS ?_ ?_
  rotate_left
  · simp only [Act.put, List.setIfInBounds_toArray, List.set_cons_zero, List.set_cons_succ]
    rfl
  refine one_ (i := 3) (N := some 34) #[true, true, true, true, true, true, true, true, true, false, false] rfl rfl (by kernel_rfl) (by decide) (fun K hK => ?_)
  refine goes_ Tryz.func54 (by kernel_rfl) rfl #[.slice (some ⟨g, 0, none⟩) p cp] (by rfl) rfl rfl (by simp only [List.map_toArray, List.map_cons, List.map_nil]; rfl) ?_
  refine (copyC_any (sub 0 p X) _ _ (entC_rd hS (.head _) (o := 0) (by omega) (by have := HN.out; omega) rfl (by have := HN.out; omega)) (by rw [sub_length]; omega)).mono ?_
  rintro e w4 ⟨v0, rfl, hO, hB⟩
  have HO := hid hO
  have HZ4 := hid hB.size
  refine ⟨_, rfl, hK.out _ _ (hS.call hB) (fun hS2 => ?_)⟩
  clear hK K hS hO hB
  have hS := hS2
  clear hS2
  refine norm_ (a' := ?_) ?_ ?_
  rotate_left
  · simp only [Act.put, List.setIfInBounds_toArray, List.set_cons_zero, List.set_cons_succ]
    rfl
  refine last_ (i := 9) (N := some 40) #[true, true, true, true, true, true, true, true, true, true, false] rfl rfl (by kernel_rfl) (by decide) (fun K hK => ?_)
  refine y_app rfl rfl rfl wr.heap.size rfl (show OwnC w4 wr.heap.size v0 (sub 0 p X) from HO.out) rfl (rd_tail hS (.head _) HN.out hk (by omega)) (by simp; omega) HZ4.out (fun v' w6 hown hg => hK.out _ _ ?_)
  clear hK K
  have hM6 := HM3.out.app hS HO.out hg
  obtain ⟨A3, c3, rfl⟩ := hown.slice
  have hl : (sub 0 p X ++ sub (p + k) (n - (p + k)) X).length = n - k := by simp; omega
  rw [hl] at hown ⊢
  refine norm_ (a' := ?_) ?_ ?_
  rotate_left
  · simp only [Act.put, List.setIfInBounds_toArray, List.set_cons_zero, List.set_cons_succ]
    rfl
  refine pure_ (i := 10) (N := some 11) (a' := ?_) (v := .slice A3 (n - k) c3) #[true, true, true, true, true, true, true, true, true, true, true] rfl rfl (by kernel_rfl) (by first | exact fun _ _ _ h => h | exact fun _ _ _ h => hP _ _ _ _ _ h) (Or.inl ⟨by rfl, fun w' => by go_simp⟩) ?_ ?_
  rotate_left
  · simp only [Act.put, List.setIfInBounds_toArray, List.set_cons_zero, List.set_cons_succ]
    rfl
  refine done_ (by kernel_rfl) ?_
  exact hQ w6 _ _ _ _ _ _ _ _ _ _ _ _ hM6 hown (Nat.le_trans HZ4.out hg.size)
set_option maxRecDepth 100000 in
set_option maxHeartbeats 2000000 in
theorem rdelete_any {L : List Cell} {v : Value} {w : World} {p k : Nat} {n0 : Int} {a : Attr} (hv : RdC w v L) (hE : rowE L) (hl1 : (at_ L (L.length - 1)).wd ≠ 1) (hp : p < L.length) (hn : 1 ≤ n0) (hk : (k : Int) = min n0 ((L.length : Int) - p)) (hm : L.length ≤ 1000000) :
    Calls Tryz.prog 45 #[v, .int .i64 p, .int .i64 n0, .agg (attrL a).toArray] w fun e w' => ∃ v', e = .returned v' ∧ OwnC w' w.heap.size v' (endL (delY p k a L)) ∧ Below w.heap.size w w' := by
  obtain ⟨A, cap, rfl, hlc, -⟩ := hv.open_
  have HC : Hid (∀ W, Below w.heap.size w W → Calls Tryz.prog 54 #[.slice A L.length cap] W _) := hid fun W hW => copyC_any L _ W (hv.below hW) (by omega)
  have h0 : 0 < L.length := by omega
  have hkn : p + k ≤ L.length := by omega
  have hk0 : 0 < k := by omega
  have m1 := fun ts t w => run_min_is (P := Tryz.prog) hk.symm ts t w
  have e0 : IntKind.i64.wrap ((L.length : Int) - p) = (L.length : Int) - p := IntWalk.i64_in _ (by omega)
  have e1 : ((k : Int) == 0) = false := wd_ne (by omega)
  have e2 : IntKind.i64.wrap ((p : Int) + k) = (p : Int) + k := IntWalk.i64_in _ (by omega)
  have HY := hid (delY_is (a := a) hkn)
  have HEY := hid (rowE_delY (a := a) hkn hk0 hp hE hl1).1
  have HYL := hid (delY_length (a := a) hkn)
  have HX := hid (Mem.start w)
  clear hv hk hE hl1
  go_enter Tryz.func45, Tryz.ntmps45
  go_upto_region 0 with (fail)
  refine wp_region_lit ?_
  refine m_box HX.out rfl rfl rfl ?_
  intro b1 w1 hM
  simp only [Act.put, List.setIfInBounds_toArray, List.set_cons_zero, List.set_cons_succ]
  have HM := hid hM
  clear hM HX
  go_upto_region 2 with (go_at_call 54; (with_reducible refine (HC.out _ HM.out.below).mono ?_); rintro e w2 ⟨v', rfl, hO, hB⟩; obtain ⟨g, cp, rfl, hM2⟩ := HM.out.addOwn (HM.out.call hB) hO h0; have HM2 := hid hM2; clear hO hB hM2)
  clear HM HC
  have HM := HM2
  clear HM2
  go_upto_region 7 with (first | (go_at_call 78; (with_reducible refine (rcutM (j := 0) (o := 0) (n := L.length) (p := (p : Int) + (k : Int)) HM3.out rfl rfl (by simp) (by simpa using hm) (by simpa using h0)).mono ?_); rintro e w4 ⟨rfl, hM⟩; simp only [List.set_cons_zero] at hM; rw [show onSub 0 L.length (cutL ((p : Int) + (k : Int))) (cutL p L) = cutL ((p : Int) + (k : Int)) (cutL p L) by have := onSub_all (cutL ((p : Int) + (k : Int))) (cutL p L) (by simp); rwa [cutL_length] at this] at hM; have HM4 := hid hM; clear hM) | (go_at_call 78; (with_reducible refine (rcutM (j := 0) (o := 0) (n := L.length) HM.out rfl rfl (by simp) hm h0).mono ?_); rintro e w3 ⟨rfl, hM⟩; simp only [List.set_cons_zero] at hM; rw [onSub_all (cutL p) L (by simp)] at hM; have HM3 := hid hM; clear hM))
  clear HM HM3
  have HM := HM4
  clear HM4
  have HXL := hid (show (cutL ((p : Int) + (k : Int)) (cutL (p : Int) L)).length = L.length by simp)
  refine dreg7_is HM.out HXL.out hp hkn hm (fun _ _ _ _ _ h => by simp +zetaDelta only [Exit.then, Exit.inBlock] at h ⊢; exact h) _ _ _ _ _ _ _ _ _ _ _ _ _ _ _ _ _ _ _ _ _ _ _ _ _ _ _ _ _ _ _ _ _ _ _ _ _ _ _ _ _ _ _ _ _ ?_
  rintro w6 A1 c1 v31 v32 v33 v34 v35 v36 v37 v38 v39 v40 hM hO hz6
  conv => zeta
  have HM3 := HM
  have HM6 := hid hM
  have HO6 := hid hO
  have HZ6 := hid hz6
  clear hM hO HM hz6
  have HM := HM6
  clear HM6
  go_upto_region 9 with (first | ((with_reducible refine wl_id ?_); refine m_loadS HM.out rfl rfl rfl (.tail _ (.head _)) (attrL a) rfl Tryz.underlying33 rfl (by kernel_rfl) ?_; simp only [Act.put, List.setIfInBounds_toArray, List.set_cons_zero, List.set_cons_succ]) | (go_at_call 80; (refine (blank_any k a _ (by omega)).mono ?_); rintro e w7 ⟨v1, rfl, hO1, hB⟩; obtain ⟨A2, c2, rfl⟩ := hO1.slice; rw [show (blankL k a).length = k by simp] at hO1 ⊢; have HO1 := hid hO1; have HO7 := hid (HO6.out.below hB); have HM7 := hid (HM.out.call hB); have HZ7 := hid (Nat.le_trans HZ6.out hB.size); clear hO1 hB) | ((with_reducible refine wl_id ?_); refine m_app rfl rfl w4.heap.size rfl HO7.out rfl HO1.out.rd (by simp; omega) HZ7.out ?_; intro v8 w8 hown hg; simp only [Act.put, List.setIfInBounds_toArray, List.set_cons_zero, List.set_cons_succ]; have HO8 := hid hown; have HM8 := hid (HM3.out.app HM7.out HO7.out hg); clear hown hg))
  have hO := HO8.out
  rw [HY.out] at hO
  obtain ⟨g2, cp2, rfl, hM9⟩ := HM3.out.addOwn HM8.out hO (by rw [HYL.out]; exact h0)
  have HM9 := hid hM9
  clear hO hM9 HO8 HM8 HM7 HO7 HM HM3
  go_wp2_with (go_at_call 81; (refine (mendM (j := 0) HM9.out rfl HEY.out (by rw [HYL.out]; exact h0) (by rw [HYL.out]; exact hm)).mono ?_); rintro e w9 ⟨rfl, hM⟩; simp only [List.set_cons_zero] at hM; have HM10 := hid hM; clear hM)
  go_ret
  exact ⟨_, rfl, entC_own HM10.out (.head _) (by simp), HM10.out.below⟩
end Go.Proofs.YtpmfjombfcnhmaaGreatDoor
