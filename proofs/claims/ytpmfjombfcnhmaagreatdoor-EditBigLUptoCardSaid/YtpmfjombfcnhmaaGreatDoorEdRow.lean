/- Edits of a row's own cells: each call's contract. -/
import Derived.Test.YtpmfjombfcnhmaaGreatDoorEdMem
set_option linter.unusedVariables false
set_option linter.unusedSimpArgs false
set_option linter.unnecessarySimpa false
namespace Go.Proofs.YtpmfjombfcnhmaaGreatDoor
open Go Go.RowKit Go.Proofs.YtpmfjombfcnhmaaGreatDoorW.PrintLast

theorem wipe_eq {o n low high : Nat} {M : List Cell} {a : Attr} (hlt : low < high) (hh : high ≤ n) (hon : o + n ≤ M.length) : onSub (o + low) (high - low) (fillL a) (onSub o n (cutL high) (onSub o n (cutL low) M)) = onSub o n (wipeL low high a) M := by
  rw [onSub_in (n := n) (by omega) (by simpa using hon), onSub_comp (by simpa using hon) (by simp), onSub_comp hon (by simp)]
  refine onSub_congr ?_
  simp only [wipeL, if_pos hlt]
set_option maxRecDepth 100000 in
set_option maxHeartbeats 1000000 in
theorem wipe_any {w0 w : World} {F : List Ent} {g cap j o n c low high q : Nat} {M : List Cell} {a : Attr} (hM : Mem w0 w F) (hF : F[j]? = some (g, entC M cap)) (hq : q = o * 6) (hon : o + n ≤ M.length) (hm : M.length ≤ 1000000) (hc : n ≤ c) (hh : high ≤ n) (h0 : 0 < M.length) :
    Calls Tryz.prog 69 #[.slice (some ⟨g, q, none⟩) n c, .int .i64 low, .int .i64 high, .agg (attrL a).toArray] w fun e w' => e = .returned (.tuple #[]) ∧ Mem w0 w' (F.set j (g, entC (onSub o n (wipeL low high a) M) cap)) := by
  subst hq
  have HM := hid hM
  have HF := hid hF
  clear hM hF
  by_cases hlt : low < high
  · have hlt2 : (low : Int) < (high : Int) := by omega
    have HE := hid (wipe_eq (a := a) hlt hh hon)
    have g1 : (0 : Int) ≤ (low : Int) := by omega
    have g2 : (low : Int) ≤ (high : Int) := by omega
    have g3 : (high : Int) ≤ (c : Int) := by omega
    have g4 : ¬ c = low := by omega
    go_enter Tryz.func69, Tryz.ntmps69
    go_upto_region 0 with (fail)
    refine wp_region_lit ?_
    refine m_box HM.out rfl rfl rfl ?_
    intro b1 w1 hM1
    simp only [Act.put, List.setIfInBounds_toArray, List.set_cons_zero, List.set_cons_succ]
    have HM1 := hid hM1
    clear hM1
    go_upto_region 4 with (first | (go_at_call 106; (with_reducible refine (cutM (j := j + 1) HM2.out (List.getElem?_cons_succ.trans (set_get (y := (g, entC (onSub o n (cutL low) M) cap)) HF.out)) rfl (by simpa using hon) (by simpa using hm) (by simpa using h0)).mono ?_); rintro e w3 ⟨rfl, hM⟩; simp only [List.set_set, List.set_cons_succ] at hM; have HM3 := hid hM; clear hM) | (go_at_call 106; (with_reducible refine (cutM (j := j + 1) HM1.out (List.getElem?_cons_succ.trans HF.out) rfl hon hm h0).mono ?_); rintro e w2 ⟨rfl, hM⟩; simp only [List.set_set, List.set_cons_succ] at hM; have HM2 := hid hM; clear hM))
    clear HM HM1 HM2
    have HM := HM3
    clear HM3
    (refine m_tail 5 HM.out (by kernel_rfl) (by kernel_rfl) ?_; intro wd hM; clear HM; have HM := hid hM; clear hM; simp only [List.take_succ_cons, List.take_zero, List.drop_succ_cons, List.drop_zero])
    repeat (first | (refine ws_want rfl (fun K hK => ?_); refine ms_loadS HM.out rfl rfl (by first | exact .head _ | exact .tail _ (.head _) | exact .tail _ (.tail _ (.head _)) | exact .tail _ (.tail _ (.tail _ (.head _))) | exact .tail _ (.tail _ (.tail _ (.tail _ (.head _)))) | exact .tail _ (.tail _ (.tail _ (.tail _ (.tail _ (.head _))))) | exact .tail _ (.tail _ (.tail _ (.tail _ (.tail _ (.tail _ (.head _)))))) | exact .tail _ (.tail _ (.tail _ (.tail _ (.tail _ (.tail _ (.tail _ (.head _)))))))) (attrL a) rfl Tryz.underlying33 rfl (by kernel_rfl) ?_; simp only [Act.put, List.setIfInBounds_toArray, List.set_cons_zero, List.set_cons_succ]; refine hK _ ?_; clear hK K) | still_step)
    refine wpStill_nil ?_
    go_wp2_with (go_at_call 107; (with_reducible refine (fillM (j := j + 1) (o := o + low) HM.out (List.getElem?_cons_succ.trans (set_get (y := (g, entC (onSub o n (cutL high) (onSub o n (cutL low) M)) cap)) HF.out)) (by omega) (by simp; omega) (by simpa using hm) (by simpa using h0)).mono ?_); rintro e w4 ⟨rfl, hM⟩; simp only [List.set_set, List.set_cons_succ] at hM; have HM4 := hid hM; clear hM)
    go_end0
    exact ⟨rfl, by rw [← HE.out]; exact HM4.out.sub (List.sublist_cons_self _ _)⟩
  · have hlt2 : ¬ (low : Int) < (high : Int) := by omega
    have e1 : F.set j (g, entC (onSub o n (wipeL low high a) M) cap) = F := by
      rw [onSub_id (by simp only [wipeL, if_neg hlt])]
      exact set_same HF.out
    rw [e1]
    go_enter Tryz.func69, Tryz.ntmps69
    go_upto_region 0 with (fail)
    refine wp_region_lit ?_
    refine m_box HM.out rfl rfl rfl ?_
    intro b1 w1 hM1
    simp only [Act.put, List.setIfInBounds_toArray, List.set_cons_zero, List.set_cons_succ]
    have HM1 := hid hM1
    clear hM1
    go_wp2
    go_end0
    exact ⟨rfl, HM1.out.sub (List.sublist_cons_self _ _)⟩
theorem copy_eq {o n d s : Nat} {M : List Cell} (hd : d ≤ n) (hs : s ≤ n) (hon : o + n ≤ M.length) : (tab M.length fun i => if o + d ≤ i ∧ i < o + d + min (n - d) (n - s) then at_ M (o + s + (i - (o + d))) else at_ M i) = onSub o n (copyL d s) M := by
  refine tab_congr fun i hi => ?_
  by_cases h1 : o ≤ i ∧ i < o + n
  · rw [if_pos h1, at_copyL (by rw [sub_length]; omega), sub_length]
    by_cases h2 : o + d ≤ i ∧ i < o + d + min (n - d) (n - s)
    · rw [if_pos h2, if_pos (by omega), sub_at (by omega), show o + (s + (i - o - d)) = o + s + (i - (o + d)) by omega]
    · rw [if_neg h2, if_neg (by omega), sub_at (by omega), show o + (i - o) = i by omega]
  · rw [if_neg h1, if_neg (by omega)]
theorem open_eq {o n p k : Nat} {M : List Cell} {a : Attr} (hk : p + k ≤ n) (hon : o + n ≤ M.length) : onSub (o + p) k (fillL a) (onSub o n (copyL (p + k) p) (onSub o n (cutL ((n - k : Nat) : Int)) (onSub o n (cutL p) M))) = onSub o n (openL p k a) M := by
  rw [onSub_in (n := n) (by omega) (by simpa using hon), onSub_comp (by simpa using hon) (by simp), onSub_comp (by simpa using hon) (by simp), onSub_comp hon (by simp)]
  refine onSub_congr ?_
  simp only [openL, sub_length]
theorem shut_eq {o n p k : Nat} {M : List Cell} {a : Attr} (hk : p + k ≤ n) (hon : o + n ≤ M.length) : onSub (o + (n - k)) k (fillL a) (onSub o n (copyL p (p + k)) (onSub o n (cutL ((p : Int) + (k : Int))) (onSub o n (cutL p) M))) = onSub o n (shutL p k a) M := by
  rw [onSub_in (n := n) (by omega) (by simpa using hon), onSub_comp (by simpa using hon) (by simp), onSub_comp (by simpa using hon) (by simp), onSub_comp hon (by simp)]
  refine onSub_congr ?_
  simp only [shutL, sub_length, Int.natCast_add]
theorem copy_none {o n d s e b : Nat} {M : List Cell} (h : d = n ∨ s = n) : (tab M.length fun i => if e ≤ i ∧ i < e + min (n - d) (n - s) then at_ M (b + (i - e)) else at_ M i) = onSub o n (copyL d s) M := by
  have h1 : copyL d s (sub o n M) = sub o n M := by
    apply ext_at
    · simp
    · intro i hi
      rw [copyL_length] at hi
      rw [at_copyL hi, if_neg]
      rw [sub_length] at hi ⊢
      omega
  rw [onSub_id h1]
  refine Eq.trans (tab_congr fun i hi => ?_) (tab_at M)
  rw [if_neg (by omega)]
set_option maxRecDepth 100000 in
set_option maxHeartbeats 1000000 in
theorem open_any {w0 w : World} {F : List Ent} {g cap j o n c p k q : Nat} {n0 : Int} {M : List Cell} {a : Attr} (hM : Mem w0 w F) (hF : F[j]? = some (g, entC M cap)) (hq : q = o * 6) (hon : o + n ≤ M.length) (hm : M.length ≤ 1000000) (hc : n ≤ c) (hp : p < n) (hn : 1 ≤ n0) (hk : (k : Int) = min n0 ((n : Int) - p)) :
    Calls Tryz.prog 71 #[.slice (some ⟨g, q, none⟩) n c, .int .i64 p, .int .i64 n0, .agg (attrL a).toArray] w fun e w' => e = .returned (.tuple #[]) ∧ Mem w0 w' (F.set j (g, entC (onSub o n (openL p k a) M) cap)) := by
  subst hq
  have HM := hid hM
  have HF := hid hF
  have hkn : p + k ≤ n := by omega
  have hk0 : 0 < k := by omega
  have hk1 := fun ts t w => run_min_is (P := Tryz.prog) hk.symm ts t w
  clear hM hF hk
  have h0 : 0 < M.length := by omega
  have HE := hid (open_eq (a := a) hkn hon)
  have HF2 := hid (set_get (y := (g, entC (onSub o n (cutL p) M) cap)) HF.out)
  have HF3 := hid (set_get (y := (g, entC (onSub o n (cutL ((n - k : Nat) : Int)) (onSub o n (cutL p) M)) cap)) HF.out)
  have HF4 := hid (set_get (y := (g, entC (onSub o n (copyL (p + k) p) (onSub o n (cutL ((n - k : Nat) : Int)) (onSub o n (cutL p) M))) cap)) HF.out)
  have e0 : IntKind.i64.wrap ((n : Int) - p) = (n : Int) - p := IntWalk.i64_in _ (by omega)
  have e2 : (k : Int) > 0 := by omega
  have e2b : (0 : Int) < (k : Int) := by omega
  have e3 : IntKind.i64.wrap ((n : Int) - k) = (n : Int) - k := IntWalk.i64_in _ (by omega)
  have e4 : (n : Int) - k = ((n - k : Nat) : Int) := by omega
  have e5 : IntKind.i64.wrap ((p : Int) + k) = (p : Int) + k := IntWalk.i64_in _ (by omega)
  have e6 : ((p : Int) + (k : Int)).toNat = p + k := by omega
  have e7 : IntKind.i64.wrap ((n - k : Nat) : Int) = ((n - k : Nat) : Int) := IntWalk.i64_in _ (by omega)
  go_enter Tryz.func71, Tryz.ntmps71
  go_upto_region 0 with (fail)
  refine wp_region_lit ?_
  refine m_box HM.out rfl rfl rfl ?_
  intro b1 w1 hM1
  simp only [Act.put, List.setIfInBounds_toArray, List.set_cons_zero, List.set_cons_succ]
  have HM1 := hid hM1
  clear hM1
  go_upto_region 5 with (first | (go_at_call 106; (with_reducible refine (cutM (j := j + 1) HM2.out (List.getElem?_cons_succ.trans HF2.out) rfl (by simpa using hon) (by simpa using hm) (by simpa using h0)).mono ?_); rintro e w3 ⟨rfl, hM⟩; simp only [List.set_set, List.set_cons_succ] at hM; have HM3 := hid hM; clear hM) | (go_at_call 106; (with_reducible refine (cutM (j := j + 1) HM1.out (List.getElem?_cons_succ.trans HF.out) rfl hon hm h0).mono ?_); rintro e w2 ⟨rfl, hM⟩; simp only [List.set_set, List.set_cons_succ] at hM; have HM2 := hid hM; clear hM))
  clear HM HM1 HM2
  have HM := HM3
  clear HM3
  have g1 : (0 : Int) ≤ (p : Int) := by omega
  have g2 : (p : Int) ≤ (n : Int) := by omega
  have g3 : (n : Int) ≤ (c : Int) := by omega
  have g4 : ¬ c = p := by omega
  have g5 : (0 : Int) ≤ (p : Int) + (k : Int) := by omega
  have g6 : (p : Int) + (k : Int) ≤ (n : Int) := by omega
  have g7 : (p : Int) ≤ (p : Int) + (k : Int) := by omega
  have g8 : (p : Int) + (k : Int) ≤ (c : Int) := by omega
  have g9 : (0 : Int) ≤ ((n - k : Nat) : Int) := by omega
  have g10 : ((n - k : Nat) : Int) ≤ (n : Int) := by omega
  have g11 : ¬ c = n - k := by omega
  have HZ := hid (copy_eq (o := o) (n := n) (d := (p + k)) (s := p) (M := onSub o n (cutL ((n - k : Nat) : Int)) (onSub o n (cutL p) M)) (by omega) (by omega) (by simpa using hon))
  (refine m_tail 8 HM.out (by kernel_rfl) (by kernel_rfl) ?_; intro wd hM; clear HM; have HM := hid hM; clear hM; simp only [List.take_succ_cons, List.take_zero, List.drop_succ_cons, List.drop_zero])
  repeat (first | still_step)
  refine wpStill_nil ?_
  by_cases hcz : c = p + k
  · have hz : p + k = n ∨ p = n := by omega
    have HZ0 := hid (copy_none (o := o) (n := n) (d := (p + k)) (s := p) (e := o) (b := (o + p)) (M := (onSub o n (cutL ((n - k : Nat) : Int)) (onSub o n (cutL p) M))) hz)
    simp only [if_pos hcz]
    clear hz
    have HCZ := hid hcz
    clear hcz
    refine m_copy (j := j + 1) (d := o) (b := (o + p)) rfl rfl HM.out (List.getElem?_cons_succ.trans HF3.out) rfl rfl (by omega) (by omega) (by have := HCZ.out; simp; omega) (by have := HCZ.out; simp; omega) ?_
    intro v5 w5 hM
    simp only [List.set_set, List.set_cons_succ] at hM
    rw [HZ0.out] at hM
    have HM5 := hid hM
    clear hM HM HZ0
    have HM := HM5
    clear HM5
    simp only [Act.put, List.setIfInBounds_toArray, List.set_cons_zero, List.set_cons_succ]
    go_upto_region 6 with (fail)
    (refine m_tail 7 HM.out (by kernel_rfl) (by kernel_rfl) ?_; intro wd hM; clear HM; have HM := hid hM; clear hM; simp only [List.take_succ_cons, List.take_zero, List.drop_succ_cons, List.drop_zero])
    repeat (first | (refine ws_want rfl (fun K hK => ?_); refine ms_loadS HM.out rfl rfl (by first | exact .head _ | exact .tail _ (.head _) | exact .tail _ (.tail _ (.head _)) | exact .tail _ (.tail _ (.tail _ (.head _))) | exact .tail _ (.tail _ (.tail _ (.tail _ (.head _)))) | exact .tail _ (.tail _ (.tail _ (.tail _ (.tail _ (.head _))))) | exact .tail _ (.tail _ (.tail _ (.tail _ (.tail _ (.tail _ (.head _)))))) | exact .tail _ (.tail _ (.tail _ (.tail _ (.tail _ (.tail _ (.tail _ (.head _)))))))) (attrL a) rfl Tryz.underlying33 rfl (by kernel_rfl) ?_; simp only [Act.put, List.setIfInBounds_toArray, List.set_cons_zero, List.set_cons_succ]; refine hK _ ?_; clear hK K) | still_step)
    refine wpStill_nil ?_
    go_wp2_with (go_at_call 107; (with_reducible refine (fillM (j := j + 1) (o := o + p) HM.out (List.getElem?_cons_succ.trans HF4.out) (by omega) (by simp; omega) (by simpa using hm) (by simpa using h0)).mono ?_); rintro e w7 ⟨rfl, hM⟩; simp only [List.set_set, List.set_cons_succ] at hM; have HM7 := hid hM; clear hM)
    go_end0
    exact ⟨rfl, by rw [← HE.out]; exact HM7.out.sub (List.sublist_cons_self _ _)⟩
  · simp only [if_neg hcz]
    have HCZ := hid hcz
    clear hcz
    refine m_copy (j := j + 1) (d := o + (p + k)) (b := o + p) rfl rfl HM.out (List.getElem?_cons_succ.trans HF3.out) rfl rfl (by omega) (by omega) (by simp; omega) (by simp; omega) ?_
    intro v5 w5 hM
    simp only [List.set_set, List.set_cons_succ] at hM
    rw [HZ.out] at hM
    have HM5 := hid hM
    clear hM HM
    have HM := HM5
    clear HM5
    simp only [Act.put, List.setIfInBounds_toArray, List.set_cons_zero, List.set_cons_succ]
    go_upto_region 6 with (fail)
    (refine m_tail 7 HM.out (by kernel_rfl) (by kernel_rfl) ?_; intro wd hM; clear HM; have HM := hid hM; clear hM; simp only [List.take_succ_cons, List.take_zero, List.drop_succ_cons, List.drop_zero])
    repeat (first | (refine ws_want rfl (fun K hK => ?_); refine ms_loadS HM.out rfl rfl (by first | exact .head _ | exact .tail _ (.head _) | exact .tail _ (.tail _ (.head _)) | exact .tail _ (.tail _ (.tail _ (.head _))) | exact .tail _ (.tail _ (.tail _ (.tail _ (.head _)))) | exact .tail _ (.tail _ (.tail _ (.tail _ (.tail _ (.head _))))) | exact .tail _ (.tail _ (.tail _ (.tail _ (.tail _ (.tail _ (.head _)))))) | exact .tail _ (.tail _ (.tail _ (.tail _ (.tail _ (.tail _ (.tail _ (.head _)))))))) (attrL a) rfl Tryz.underlying33 rfl (by kernel_rfl) ?_; simp only [Act.put, List.setIfInBounds_toArray, List.set_cons_zero, List.set_cons_succ]; refine hK _ ?_; clear hK K) | still_step)
    refine wpStill_nil ?_
    go_wp2_with (go_at_call 107; (with_reducible refine (fillM (j := j + 1) (o := o + p) HM.out (List.getElem?_cons_succ.trans HF4.out) (by omega) (by simp; omega) (by simpa using hm) (by simpa using h0)).mono ?_); rintro e w7 ⟨rfl, hM⟩; simp only [List.set_set, List.set_cons_succ] at hM; have HM7 := hid hM; clear hM)
    go_end0
    exact ⟨rfl, by rw [← HE.out]; exact HM7.out.sub (List.sublist_cons_self _ _)⟩
set_option maxRecDepth 100000 in
set_option maxHeartbeats 1000000 in
theorem shut_any {w0 w : World} {F : List Ent} {g cap j o n c p k q : Nat} {n0 : Int} {M : List Cell} {a : Attr} (hM : Mem w0 w F) (hF : F[j]? = some (g, entC M cap)) (hq : q = o * 6) (hon : o + n ≤ M.length) (hm : M.length ≤ 1000000) (hc : n ≤ c) (hp : p < n) (hn : 1 ≤ n0) (hk : (k : Int) = min n0 ((n : Int) - p)) :
    Calls Tryz.prog 70 #[.slice (some ⟨g, q, none⟩) n c, .int .i64 p, .int .i64 n0, .agg (attrL a).toArray] w fun e w' => e = .returned (.tuple #[]) ∧ Mem w0 w' (F.set j (g, entC (onSub o n (shutL p k a) M) cap)) := by
  subst hq
  have HM := hid hM
  have HF := hid hF
  have hkn : p + k ≤ n := by omega
  have hk0 : 0 < k := by omega
  have hk1 := fun ts t w => run_min_is (P := Tryz.prog) hk.symm ts t w
  clear hM hF hk
  have h0 : 0 < M.length := by omega
  have HE := hid (shut_eq (a := a) hkn hon)
  have HF2 := hid (set_get (y := (g, entC (onSub o n (cutL p) M) cap)) HF.out)
  have HF3 := hid (set_get (y := (g, entC (onSub o n (cutL ((p : Int) + (k : Int))) (onSub o n (cutL p) M)) cap)) HF.out)
  have HF4 := hid (set_get (y := (g, entC (onSub o n (copyL p (p + k)) (onSub o n (cutL ((p : Int) + (k : Int))) (onSub o n (cutL p) M))) cap)) HF.out)
  have e0 : IntKind.i64.wrap ((n : Int) - p) = (n : Int) - p := IntWalk.i64_in _ (by omega)
  have e2 : (k : Int) > 0 := by omega
  have e2b : (0 : Int) < (k : Int) := by omega
  have e3 : IntKind.i64.wrap ((n : Int) - k) = (n : Int) - k := IntWalk.i64_in _ (by omega)
  have e4 : (n : Int) - k = ((n - k : Nat) : Int) := by omega
  have e5 : IntKind.i64.wrap ((p : Int) + k) = (p : Int) + k := IntWalk.i64_in _ (by omega)
  have e6 : ((p : Int) + (k : Int)).toNat = p + k := by omega
  have e7 : IntKind.i64.wrap ((n - k : Nat) : Int) = ((n - k : Nat) : Int) := IntWalk.i64_in _ (by omega)
  go_enter Tryz.func70, Tryz.ntmps70
  go_upto_region 0 with (fail)
  refine wp_region_lit ?_
  refine m_box HM.out rfl rfl rfl ?_
  intro b1 w1 hM1
  simp only [Act.put, List.setIfInBounds_toArray, List.set_cons_zero, List.set_cons_succ]
  have HM1 := hid hM1
  clear hM1
  go_upto_region 5 with (first | (go_at_call 106; (with_reducible refine (cutM (j := j + 1) HM2.out (List.getElem?_cons_succ.trans HF2.out) rfl (by simpa using hon) (by simpa using hm) (by simpa using h0)).mono ?_); rintro e w3 ⟨rfl, hM⟩; simp only [List.set_set, List.set_cons_succ] at hM; have HM3 := hid hM; clear hM) | (go_at_call 106; (with_reducible refine (cutM (j := j + 1) HM1.out (List.getElem?_cons_succ.trans HF.out) rfl hon hm h0).mono ?_); rintro e w2 ⟨rfl, hM⟩; simp only [List.set_set, List.set_cons_succ] at hM; have HM2 := hid hM; clear hM))
  clear HM HM1 HM2
  have HM := HM3
  clear HM3
  have g1 : (0 : Int) ≤ (p : Int) := by omega
  have g2 : (p : Int) ≤ (n : Int) := by omega
  have g3 : (n : Int) ≤ (c : Int) := by omega
  have g4 : ¬ c = p := by omega
  have g5 : (0 : Int) ≤ (p : Int) + (k : Int) := by omega
  have g6 : (p : Int) + (k : Int) ≤ (n : Int) := by omega
  have g7 : (p : Int) ≤ (p : Int) + (k : Int) := by omega
  have g8 : (p : Int) + (k : Int) ≤ (c : Int) := by omega
  have g9 : (0 : Int) ≤ ((n - k : Nat) : Int) := by omega
  have g10 : ((n - k : Nat) : Int) ≤ (n : Int) := by omega
  have g11 : ¬ c = n - k := by omega
  have HZ := hid (copy_eq (o := o) (n := n) (d := p) (s := (p + k)) (M := onSub o n (cutL ((p : Int) + (k : Int))) (onSub o n (cutL p) M)) (by omega) (by omega) (by simpa using hon))
  (refine m_tail 8 HM.out (by kernel_rfl) (by kernel_rfl) ?_; intro wd hM; clear HM; have HM := hid hM; clear hM; simp only [List.take_succ_cons, List.take_zero, List.drop_succ_cons, List.drop_zero])
  repeat (first | still_step)
  refine wpStill_nil ?_
  by_cases hcz : c = p + k
  · have hz : p = n ∨ p + k = n := by omega
    have HZ0 := hid (copy_none (o := o) (n := n) (d := p) (s := (p + k)) (e := (o + p)) (b := o) (M := (onSub o n (cutL ((p : Int) + (k : Int))) (onSub o n (cutL p) M))) hz)
    simp only [if_pos hcz]
    clear hz
    have HCZ := hid hcz
    clear hcz
    refine m_copy (j := j + 1) (d := (o + p)) (b := o) rfl rfl HM.out (List.getElem?_cons_succ.trans HF3.out) rfl rfl (by omega) (by omega) (by have := HCZ.out; simp; omega) (by have := HCZ.out; simp; omega) ?_
    intro v5 w5 hM
    simp only [List.set_set, List.set_cons_succ] at hM
    rw [HZ0.out] at hM
    have HM5 := hid hM
    clear hM HM HZ0
    have HM := HM5
    clear HM5
    simp only [Act.put, List.setIfInBounds_toArray, List.set_cons_zero, List.set_cons_succ]
    go_upto_region 6 with (fail)
    (refine m_tail 7 HM.out (by kernel_rfl) (by kernel_rfl) ?_; intro wd hM; clear HM; have HM := hid hM; clear hM; simp only [List.take_succ_cons, List.take_zero, List.drop_succ_cons, List.drop_zero])
    repeat (first | (refine ws_want rfl (fun K hK => ?_); refine ms_loadS HM.out rfl rfl (by first | exact .head _ | exact .tail _ (.head _) | exact .tail _ (.tail _ (.head _)) | exact .tail _ (.tail _ (.tail _ (.head _))) | exact .tail _ (.tail _ (.tail _ (.tail _ (.head _)))) | exact .tail _ (.tail _ (.tail _ (.tail _ (.tail _ (.head _))))) | exact .tail _ (.tail _ (.tail _ (.tail _ (.tail _ (.tail _ (.head _)))))) | exact .tail _ (.tail _ (.tail _ (.tail _ (.tail _ (.tail _ (.tail _ (.head _)))))))) (attrL a) rfl Tryz.underlying33 rfl (by kernel_rfl) ?_; simp only [Act.put, List.setIfInBounds_toArray, List.set_cons_zero, List.set_cons_succ]; refine hK _ ?_; clear hK K) | still_step)
    refine wpStill_nil ?_
    go_wp2_with (go_at_call 107; (with_reducible refine (fillM (j := j + 1) (o := o + (n - k)) HM.out (List.getElem?_cons_succ.trans HF4.out) (by omega) (by simp; omega) (by simpa using hm) (by simpa using h0)).mono ?_); rintro e w7 ⟨rfl, hM⟩; simp only [List.set_set, List.set_cons_succ] at hM; have HM7 := hid hM; clear hM)
    go_end0
    exact ⟨rfl, by rw [← HE.out]; have h7 := HM7.out; rw [show n - (n - k) = k by omega] at h7; exact h7.sub (List.sublist_cons_self _ _)⟩
  · simp only [if_neg hcz]
    have HCZ := hid hcz
    clear hcz
    refine m_copy (j := j + 1) (d := o + p) (b := o + (p + k)) rfl rfl HM.out (List.getElem?_cons_succ.trans HF3.out) rfl rfl (by omega) (by omega) (by simp; omega) (by simp; omega) ?_
    intro v5 w5 hM
    simp only [List.set_set, List.set_cons_succ] at hM
    rw [HZ.out] at hM
    have HM5 := hid hM
    clear hM HM
    have HM := HM5
    clear HM5
    simp only [Act.put, List.setIfInBounds_toArray, List.set_cons_zero, List.set_cons_succ]
    go_upto_region 6 with (fail)
    (refine m_tail 7 HM.out (by kernel_rfl) (by kernel_rfl) ?_; intro wd hM; clear HM; have HM := hid hM; clear hM; simp only [List.take_succ_cons, List.take_zero, List.drop_succ_cons, List.drop_zero])
    repeat (first | (refine ws_want rfl (fun K hK => ?_); refine ms_loadS HM.out rfl rfl (by first | exact .head _ | exact .tail _ (.head _) | exact .tail _ (.tail _ (.head _)) | exact .tail _ (.tail _ (.tail _ (.head _))) | exact .tail _ (.tail _ (.tail _ (.tail _ (.head _)))) | exact .tail _ (.tail _ (.tail _ (.tail _ (.tail _ (.head _))))) | exact .tail _ (.tail _ (.tail _ (.tail _ (.tail _ (.tail _ (.head _)))))) | exact .tail _ (.tail _ (.tail _ (.tail _ (.tail _ (.tail _ (.tail _ (.head _)))))))) (attrL a) rfl Tryz.underlying33 rfl (by kernel_rfl) ?_; simp only [Act.put, List.setIfInBounds_toArray, List.set_cons_zero, List.set_cons_succ]; refine hK _ ?_; clear hK K) | still_step)
    refine wpStill_nil ?_
    go_wp2_with (go_at_call 107; (with_reducible refine (fillM (j := j + 1) (o := o + (n - k)) HM.out (List.getElem?_cons_succ.trans HF4.out) (by omega) (by simp; omega) (by simpa using hm) (by simpa using h0)).mono ?_); rintro e w7 ⟨rfl, hM⟩; simp only [List.set_set, List.set_cons_succ] at hM; have HM7 := hid hM; clear hM)
    go_end0
    exact ⟨rfl, by rw [← HE.out]; have h7 := HM7.out; rw [show n - (n - k) = k by omega] at h7; exact h7.sub (List.sublist_cons_self _ _)⟩
end Go.Proofs.YtpmfjombfcnhmaaGreatDoor
