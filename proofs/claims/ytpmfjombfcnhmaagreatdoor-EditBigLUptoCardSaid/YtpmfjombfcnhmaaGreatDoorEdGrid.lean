/- Edits of a grid's own cells: rows moved, a row of it. -/
import Derived.Test.YtpmfjombfcnhmaaGreatDoorEdRow
set_option linter.unusedVariables false
set_option linter.unusedSimpArgs false
set_option linter.unnecessarySimpa false
namespace Go.Proofs.YtpmfjombfcnhmaaGreatDoor
open Go Go.RowKit Go.Proofs.YtpmfjombfcnhmaaGreatDoorW.PrintLast

theorem up_eq {T E K : Nat} {M : List Cell} {a : Attr} (hTE : T ≤ E) (hK : K ≤ E - T) (hE : E ≤ M.length) : onSub (T + (E - T - K)) K (fillL a) (onSub T (E - T) (copyL 0 K) M) = onSub T (E - T) (upL K a) M := by
  rw [onSub_in (n := E - T) (by omega) (by simp; omega), onSub_comp (by omega) (by simp)]
  refine onSub_congr ?_
  simp only [upL, sub_length]
theorem down_eq {T E K : Nat} {M : List Cell} {a : Attr} (hTE : T ≤ E) (hK : K ≤ E - T) (hE : E ≤ M.length) : onSub T K (fillL a) (onSub T (E - T) (copyL K 0) M) = onSub T (E - T) (downL K a) M := by
  have h := onSub_in (o := T) (n := E - T) (p := 0) (k := K) (f := fillL a) (M := onSub T (E - T) (copyL K 0) M) (by omega) (by simp; omega)
  rw [Nat.add_zero] at h
  rw [h, onSub_comp (by omega) (by simp)]
  rfl
set_option maxRecDepth 100000 in
set_option maxHeartbeats 1000000 in
theorem scrollUp_any {w0 w : World} {F : List Ent} {g cap i j p q c top bot T E K b k0 : Nat} {ty : TypeId} {l : List Value} {M : List Cell} {a : Attr} (hM : Mem w0 w F) (hF : F[j]? = some (g, entC M cap)) (hG : F[i]? = some (p, Row ty l)) (hl1 : l[q + 1]? = some (.int .i64 (c : Int))) (hl2 : l[q + 2]? = some (sl g M.length cap))
    (hT : top * c = T) (hE : (bot + 1) * c = E) (hk0 : k0 = min b (bot - top + 1)) (hK : k0 * c = K) (hb : 1 ≤ b ∧ b ≤ 9999) (htb : top ≤ bot) (hbl : bot ≤ 1000) (hc1 : 1 ≤ c) (hc2 : c ≤ 1000) (hEM : E ≤ M.length) (hm : M.length ≤ 1000000) :
    Calls Tryz.prog 73 #[.pointer (some ⟨p, q, none⟩), .int .i64 top, .int .i64 bot, .int .i64 b, .agg (attrL a).toArray] w fun e w' => e = .returned (.tuple #[]) ∧ Mem w0 w' (F.set j (g, entC (onSub T (E - T) (upL K a) M) cap)) := by
  have HM := hid hM
  have HF := hid hF
  have HG := hid hG
  have HL1 := hid hl1
  have HL2 := hid hl2
  have hlc := hM.lenC (List.mem_of_getElem? hF)
  have hTE : T + K ≤ E := by
    rw [← hT, ← hE, ← hK, ← Nat.add_mul]
    exact Nat.mul_le_mul_right _ (by omega)
  have hK0 : 0 < K := by
    rw [← hK]; exact Nat.mul_pos (by omega) (by omega)
  have h0 : 0 < M.length := by omega
  have hEb : E ≤ 1000000 := by omega
  have e1 : (top : Int) * (c : Int) = (T : Int) := by rw [← hT]; push_cast; rfl
  have e2 : ((bot : Int) + 1) * (c : Int) = (E : Int) := by rw [← hE]; push_cast; rfl
  have e3 : (k0 : Int) * (c : Int) = (K : Int) := by rw [← hK]; push_cast; rfl
  have s0 : IntKind.i64.wrap ((bot : Int) + 1) = (bot : Int) + 1 := IntWalk.i64_in _ (by omega)
  have s1 : IntKind.i64.wrap (T : Int) = (T : Int) := IntWalk.i64_in _ (by omega)
  have s2 : IntKind.i64.wrap (E : Int) = (E : Int) := IntWalk.i64_in _ (by omega)
  have s3 : IntKind.i64.wrap (K : Int) = (K : Int) := IntWalk.i64_in _ (by omega)
  have s4 : IntKind.i64.wrap (-(b : Int)) = -(b : Int) := IntWalk.i64_in _ (by omega)
  have s5 : IntKind.i64.wrap ((bot : Int) - top) = (bot : Int) - top := IntWalk.i64_in _ (by omega)
  have s6 : IntKind.i64.wrap ((bot : Int) - top + 1) = (bot : Int) - top + 1 := IntWalk.i64_in _ (by omega)
  have m1 := fun ts t w => run_max_is (P := Tryz.prog) (x := (b : Int)) (y := -(b : Int)) (z := (b : Int)) (by omega) ts t w
  have m2 := fun ts t w => run_min_is (P := Tryz.prog) (x := (b : Int)) (y := (bot : Int) - top + 1) (z := (k0 : Int)) (by omega) ts t w
  have g1 : (0 : Int) ≤ (T : Int) := by omega
  have g2 : (T : Int) ≤ (E : Int) := by omega
  have g3 : (E : Int) ≤ (cap : Int) := by omega
  have g4 : ¬ cap = T := by omega
  have g5 : (b : Int) > 0 := by omega
  have g5b : (0 : Int) < (b : Int) := by omega
  have g6 : (0 : Int) ≤ (K : Int) := by omega
  have g7 : (K : Int) ≤ ((E - T : Nat) : Int) := by omega
  have g8 : ((E - T : Nat) : Int) ≤ ((cap - T : Nat) : Int) := by omega
  have g9 : IntKind.i64.wrap (((E - T : Nat) : Int) - K) = ((E - T - K : Nat) : Int) := by rw [show ((E - T : Nat) : Int) - K = ((E - T - K : Nat) : Int) by omega]; exact IntWalk.i64_in _ (by omega)
  have g13 : (K : Int) ≤ ((cap - T : Nat) : Int) := by omega
  have g10 : ((E - T - K : Nat) : Int) ≤ ((E - T : Nat) : Int) := by omega
  have g11 : ¬ cap - T = E - T - K := by omega
  have g12 : (0 : Int) ≤ ((E - T - K : Nat) : Int) := by omega
  have HE := hid (up_eq (a := a) (show T ≤ E by omega) (show K ≤ E - T by omega) hEM)
  have HF4 := hid (set_get (y := (g, entC (onSub T (E - T) (copyL 0 K) M) cap)) HF.out)
  clear hM hF hG hl1 hl2 hT hE hK hk0 
  go_enter Tryz.func73, Tryz.ntmps73
  go_upto_region 0 with (fail)
  refine wp_region_lit ?_
  refine m_box HM.out rfl rfl rfl ?_
  intro b1 w1 hM1
  simp only [Act.put, List.setIfInBounds_toArray, List.set_cons_zero, List.set_cons_succ]
  clear HM
  have HM := hid hM1
  clear hM1
  go_upto_region 1 with (fail)
  refine m_quiet HM.out (by kernel_rfl) (by kernel_rfl) (fun hne => ?_)
  repeat (first | (go_big_quiet_want; refine mq_load rfl rfl (.tail _ (List.mem_of_getElem? HG.out)) HL1.out Tryz.underlying3 rfl ?_; simp only [Act.put, List.setIfInBounds_toArray, List.set_cons_zero, List.set_cons_succ]; go_big_quiet_on) | (go_big_quiet_want; refine mq_load rfl rfl (.tail _ (List.mem_of_getElem? HG.out)) HL2.out Tryz.underlying29 rfl ?_; simp only [Act.put, List.setIfInBounds_toArray, List.set_cons_zero, List.set_cons_succ]; go_big_quiet_on) | go_big_quiet_step (fail))
  refine wpQuiet_nil ?_
  intro wq hM
  clear HM hne
  have HM := hid hM
  clear hM
  have HF0 := hid (List.getElem?_cons_succ.trans HF.out : ((b1, Row 33 (attrL a)) :: F)[j + 1]? = some (g, entC M cap))
  have HF5 := hid (List.getElem?_cons_succ.trans HF4.out : ((b1, Row 33 (attrL a)) :: F.set j (g, entC (onSub T (E - T) (copyL 0 K) M) cap))[j + 1]? = _)
  by_cases hcz : cap - T = K
  · have hz := copy_none (o := T) (n := E - T) (d := 0) (s := K) (e := T) (b := T) (M := M) (.inr (by omega))
    simp only [Nat.sub_zero, Nat.add_zero] at hz
    have HZ := hid hz
    clear hz
    have HCZ := hid hcz
    go_upto_region 5 with (first | ((with_reducible refine wl_id ?_); refine m_load HM.out rfl rfl rfl (.tail _ (List.mem_of_getElem? HG.out)) HL1.out Tryz.underlying3 rfl ?_; simp only [Act.put, List.setIfInBounds_toArray, List.set_cons_zero, List.set_cons_succ]) | ((with_reducible refine wl_id ?_); refine m_copy (j := j + 1) (d := T) (b := T) rfl rfl HM.out HF0.out rfl rfl (by omega) (by omega) (by have := HCZ.out; omega) (by have := HCZ.out; omega) ?_; intro v5 w5 hM; simp only [Act.put, List.setIfInBounds_toArray, List.set_cons_zero, List.set_cons_succ]; simp only [List.set_set, List.set_cons_succ] at hM; have HM5 := hid hM; clear hM))
    have hM := HM5.out
    rw [HZ.out] at hM
    clear HM HM5
    have HM := hid hM
    clear hM hcz
    (refine m_tail 7 HM.out (by kernel_rfl) (by kernel_rfl) ?_; intro wd hM; clear HM; have HM := hid hM; clear hM; simp only [List.take_succ_cons, List.take_zero, List.drop_succ_cons, List.drop_zero])
    repeat (first | (refine ws_want rfl (fun K hK => ?_); refine ms_loadS HM.out rfl rfl (by first | exact .head _ | exact .tail _ (.head _) | exact .tail _ (.tail _ (.head _)) | exact .tail _ (.tail _ (.tail _ (.head _))) | exact .tail _ (.tail _ (.tail _ (.tail _ (.head _)))) | exact .tail _ (.tail _ (.tail _ (.tail _ (.tail _ (.head _))))) | exact .tail _ (.tail _ (.tail _ (.tail _ (.tail _ (.tail _ (.head _)))))) | exact .tail _ (.tail _ (.tail _ (.tail _ (.tail _ (.tail _ (.tail _ (.head _)))))))) (attrL a) rfl Tryz.underlying33 rfl (by kernel_rfl) ?_; simp only [Act.put, List.setIfInBounds_toArray, List.set_cons_zero, List.set_cons_succ]; refine hK _ ?_; clear hK K) | still_step)
    refine wpStill_nil ?_
    go_wp2_with (go_at_call 107; (with_reducible refine (fillM (j := j + 1) (o := T + (E - T - K)) HM.out HF5.out (by omega) (by simp; omega) (by simpa using hm) (by simpa using h0)).mono ?_); rintro e w7 ⟨rfl, hM⟩; simp only [List.set_set, List.set_cons_succ] at hM; have HM7 := hid hM; clear hM)
    go_end0
    have hM := HM7.out
    rw [show E - T - (E - T - K) = K by omega] at hM
    exact ⟨rfl, by rw [← HE.out]; exact hM.sub (List.sublist_cons_self _ _)⟩
  · have hz := copy_eq (o := T) (n := E - T) (d := 0) (s := K) (M := M) (by omega) (by omega) (by omega)
    simp only [Nat.sub_zero, Nat.add_zero] at hz
    have HZ := hid hz
    clear hz
    have HCZ := hid hcz
    go_upto_region 5 with (first | ((with_reducible refine wl_id ?_); refine m_load HM.out rfl rfl rfl (.tail _ (List.mem_of_getElem? HG.out)) HL1.out Tryz.underlying3 rfl ?_; simp only [Act.put, List.setIfInBounds_toArray, List.set_cons_zero, List.set_cons_succ]) | ((with_reducible refine wl_id ?_); refine m_copy (j := j + 1) (d := T) (b := (T + K)) rfl rfl HM.out HF0.out rfl rfl (by omega) (by omega) (by have := HCZ.out; omega) (by have := HCZ.out; omega) ?_; intro v5 w5 hM; simp only [Act.put, List.setIfInBounds_toArray, List.set_cons_zero, List.set_cons_succ]; simp only [List.set_set, List.set_cons_succ] at hM; have HM5 := hid hM; clear hM))
    have hM := HM5.out
    rw [HZ.out] at hM
    clear HM HM5
    have HM := hid hM
    clear hM hcz
    (refine m_tail 7 HM.out (by kernel_rfl) (by kernel_rfl) ?_; intro wd hM; clear HM; have HM := hid hM; clear hM; simp only [List.take_succ_cons, List.take_zero, List.drop_succ_cons, List.drop_zero])
    repeat (first | (refine ws_want rfl (fun K hK => ?_); refine ms_loadS HM.out rfl rfl (by first | exact .head _ | exact .tail _ (.head _) | exact .tail _ (.tail _ (.head _)) | exact .tail _ (.tail _ (.tail _ (.head _))) | exact .tail _ (.tail _ (.tail _ (.tail _ (.head _)))) | exact .tail _ (.tail _ (.tail _ (.tail _ (.tail _ (.head _))))) | exact .tail _ (.tail _ (.tail _ (.tail _ (.tail _ (.tail _ (.head _)))))) | exact .tail _ (.tail _ (.tail _ (.tail _ (.tail _ (.tail _ (.tail _ (.head _)))))))) (attrL a) rfl Tryz.underlying33 rfl (by kernel_rfl) ?_; simp only [Act.put, List.setIfInBounds_toArray, List.set_cons_zero, List.set_cons_succ]; refine hK _ ?_; clear hK K) | still_step)
    refine wpStill_nil ?_
    go_wp2_with (go_at_call 107; (with_reducible refine (fillM (j := j + 1) (o := T + (E - T - K)) HM.out HF5.out (by omega) (by simp; omega) (by simpa using hm) (by simpa using h0)).mono ?_); rintro e w7 ⟨rfl, hM⟩; simp only [List.set_set, List.set_cons_succ] at hM; have HM7 := hid hM; clear hM)
    go_end0
    have hM := HM7.out
    rw [show E - T - (E - T - K) = K by omega] at hM
    exact ⟨rfl, by rw [← HE.out]; exact hM.sub (List.sublist_cons_self _ _)⟩
set_option maxRecDepth 100000 in
set_option maxHeartbeats 1000000 in
theorem scrollDown_any {w0 w : World} {F : List Ent} {g cap i j p q c top bot T E K b k0 : Nat} {ty : TypeId} {l : List Value} {M : List Cell} {a : Attr} (hM : Mem w0 w F) (hF : F[j]? = some (g, entC M cap)) (hG : F[i]? = some (p, Row ty l)) (hl1 : l[q + 1]? = some (.int .i64 (c : Int))) (hl2 : l[q + 2]? = some (sl g M.length cap))
    (hT : top * c = T) (hE : (bot + 1) * c = E) (hk0 : k0 = min b (bot - top + 1)) (hK : k0 * c = K) (hb : 1 ≤ b ∧ b ≤ 9999) (htb : top ≤ bot) (hbl : bot ≤ 1000) (hc1 : 1 ≤ c) (hc2 : c ≤ 1000) (hEM : E ≤ M.length) (hm : M.length ≤ 1000000) :
    Calls Tryz.prog 73 #[.pointer (some ⟨p, q, none⟩), .int .i64 top, .int .i64 bot, .int .i64 (-(b : Int)), .agg (attrL a).toArray] w fun e w' => e = .returned (.tuple #[]) ∧ Mem w0 w' (F.set j (g, entC (onSub T (E - T) (downL K a) M) cap)) := by
  have HM := hid hM
  have HF := hid hF
  have HG := hid hG
  have HL1 := hid hl1
  have HL2 := hid hl2
  have hlc := hM.lenC (List.mem_of_getElem? hF)
  have hTE : T + K ≤ E := by
    rw [← hT, ← hE, ← hK, ← Nat.add_mul]
    exact Nat.mul_le_mul_right _ (by omega)
  have hK0 : 0 < K := by
    rw [← hK]; exact Nat.mul_pos (by omega) (by omega)
  have h0 : 0 < M.length := by omega
  have hEb : E ≤ 1000000 := by omega
  have e1 : (top : Int) * (c : Int) = (T : Int) := by rw [← hT]; push_cast; rfl
  have e2 : ((bot : Int) + 1) * (c : Int) = (E : Int) := by rw [← hE]; push_cast; rfl
  have e3 : (k0 : Int) * (c : Int) = (K : Int) := by rw [← hK]; push_cast; rfl
  have s0 : IntKind.i64.wrap ((bot : Int) + 1) = (bot : Int) + 1 := IntWalk.i64_in _ (by omega)
  have s1 : IntKind.i64.wrap (T : Int) = (T : Int) := IntWalk.i64_in _ (by omega)
  have s2 : IntKind.i64.wrap (E : Int) = (E : Int) := IntWalk.i64_in _ (by omega)
  have s3 : IntKind.i64.wrap (K : Int) = (K : Int) := IntWalk.i64_in _ (by omega)
  have s4 : IntKind.i64.wrap (-(b : Int)) = -(b : Int) := IntWalk.i64_in _ (by omega)
  have s5 : IntKind.i64.wrap ((bot : Int) - top) = (bot : Int) - top := IntWalk.i64_in _ (by omega)
  have s6 : IntKind.i64.wrap ((bot : Int) - top + 1) = (bot : Int) - top + 1 := IntWalk.i64_in _ (by omega)
  have m1 := fun ts t w => run_max_is (P := Tryz.prog) (x := -(b : Int)) (y := (b : Int)) (z := (b : Int)) (by omega) ts t w
  have m2 := fun ts t w => run_min_is (P := Tryz.prog) (x := (b : Int)) (y := (bot : Int) - top + 1) (z := (k0 : Int)) (by omega) ts t w
  have g1 : (0 : Int) ≤ (T : Int) := by omega
  have g2 : (T : Int) ≤ (E : Int) := by omega
  have g3 : (E : Int) ≤ (cap : Int) := by omega
  have g4 : ¬ cap = T := by omega
  have g5 : ¬ -(b : Int) > 0 := by omega
  have g5b : ¬ (0 : Int) < -(b : Int) := by omega
  have s7 : IntKind.i64.wrap (b : Int) = (b : Int) := IntWalk.i64_in _ (by omega)
  have g6 : (0 : Int) ≤ (K : Int) := by omega
  have g7 : (K : Int) ≤ ((E - T : Nat) : Int) := by omega
  have g8 : ((E - T : Nat) : Int) ≤ ((cap - T : Nat) : Int) := by omega
  have g9 : IntKind.i64.wrap (((E - T : Nat) : Int) - K) = ((E - T - K : Nat) : Int) := by rw [show ((E - T : Nat) : Int) - K = ((E - T - K : Nat) : Int) by omega]; exact IntWalk.i64_in _ (by omega)
  have g13 : (K : Int) ≤ ((cap - T : Nat) : Int) := by omega
  have g10 : ((E - T - K : Nat) : Int) ≤ ((E - T : Nat) : Int) := by omega
  have g11 : ¬ cap - T = E - T - K := by omega
  have g12 : (0 : Int) ≤ ((E - T - K : Nat) : Int) := by omega
  have HE := hid (down_eq (a := a) (show T ≤ E by omega) (show K ≤ E - T by omega) hEM)
  have HF4 := hid (set_get (y := (g, entC (onSub T (E - T) (copyL K 0) M) cap)) HF.out)
  clear hM hF hG hl1 hl2 hT hE hK hk0 
  go_enter Tryz.func73, Tryz.ntmps73
  go_upto_region 0 with (fail)
  refine wp_region_lit ?_
  refine m_box HM.out rfl rfl rfl ?_
  intro b1 w1 hM1
  simp only [Act.put, List.setIfInBounds_toArray, List.set_cons_zero, List.set_cons_succ]
  clear HM
  have HM := hid hM1
  clear hM1
  go_upto_region 1 with (fail)
  refine m_quiet HM.out (by kernel_rfl) (by kernel_rfl) (fun hne => ?_)
  repeat (first | (go_big_quiet_want; refine mq_load rfl rfl (.tail _ (List.mem_of_getElem? HG.out)) HL1.out Tryz.underlying3 rfl ?_; simp only [Act.put, List.setIfInBounds_toArray, List.set_cons_zero, List.set_cons_succ]; go_big_quiet_on) | (go_big_quiet_want; refine mq_load rfl rfl (.tail _ (List.mem_of_getElem? HG.out)) HL2.out Tryz.underlying29 rfl ?_; simp only [Act.put, List.setIfInBounds_toArray, List.set_cons_zero, List.set_cons_succ]; go_big_quiet_on) | go_big_quiet_step (fail))
  refine wpQuiet_nil ?_
  intro wq hM
  clear HM hne
  have HM := hid hM
  clear hM
  have HF0 := hid (List.getElem?_cons_succ.trans HF.out : ((b1, Row 33 (attrL a)) :: F)[j + 1]? = some (g, entC M cap))
  have HF5 := hid (List.getElem?_cons_succ.trans HF4.out : ((b1, Row 33 (attrL a)) :: F.set j (g, entC (onSub T (E - T) (copyL K 0) M) cap))[j + 1]? = _)
  by_cases hcz : cap - T = K
  · have hz := copy_none (o := T) (n := E - T) (d := K) (s := 0) (e := T) (b := T) (M := M) (.inl (by omega))
    simp only [Nat.sub_zero, Nat.add_zero] at hz
    have HZ := hid hz
    clear hz
    have HCZ := hid hcz
    go_upto_region 7 with (first | ((with_reducible refine wl_id ?_); refine m_load HM.out rfl rfl rfl (.tail _ (List.mem_of_getElem? HG.out)) HL1.out Tryz.underlying3 rfl ?_; simp only [Act.put, List.setIfInBounds_toArray, List.set_cons_zero, List.set_cons_succ]) | ((with_reducible refine wl_id ?_); refine m_copy (j := j + 1) (d := T) (b := T) rfl rfl HM.out HF0.out rfl rfl (by omega) (by omega) (by have := HCZ.out; omega) (by have := HCZ.out; omega) ?_; intro v5 w5 hM; simp only [Act.put, List.setIfInBounds_toArray, List.set_cons_zero, List.set_cons_succ]; simp only [List.set_set, List.set_cons_succ] at hM; have HM5 := hid hM; clear hM))
    have hM := HM5.out
    rw [HZ.out] at hM
    clear HM HM5
    have HM := hid hM
    clear hM hcz
    (refine m_tail 4 HM.out (by kernel_rfl) (by kernel_rfl) ?_; intro wd hM; clear HM; have HM := hid hM; clear hM; simp only [List.take_succ_cons, List.take_zero, List.drop_succ_cons, List.drop_zero])
    repeat (first | (refine ws_want rfl (fun K hK => ?_); refine ms_loadS HM.out rfl rfl (by first | exact .head _ | exact .tail _ (.head _) | exact .tail _ (.tail _ (.head _)) | exact .tail _ (.tail _ (.tail _ (.head _))) | exact .tail _ (.tail _ (.tail _ (.tail _ (.head _)))) | exact .tail _ (.tail _ (.tail _ (.tail _ (.tail _ (.head _))))) | exact .tail _ (.tail _ (.tail _ (.tail _ (.tail _ (.tail _ (.head _)))))) | exact .tail _ (.tail _ (.tail _ (.tail _ (.tail _ (.tail _ (.tail _ (.head _)))))))) (attrL a) rfl Tryz.underlying33 rfl (by kernel_rfl) ?_; simp only [Act.put, List.setIfInBounds_toArray, List.set_cons_zero, List.set_cons_succ]; refine hK _ ?_; clear hK K) | still_step)
    refine wpStill_nil ?_
    go_wp2_with (go_at_call 107; (with_reducible refine (fillM (j := j + 1) (o := T) HM.out HF5.out (by omega) (by simp; omega) (by simpa using hm) (by simpa using h0)).mono ?_); rintro e w7 ⟨rfl, hM⟩; simp only [List.set_set, List.set_cons_succ] at hM; have HM7 := hid hM; clear hM)
    go_end0
    have hM := HM7.out
    exact ⟨rfl, by rw [← HE.out]; exact hM.sub (List.sublist_cons_self _ _)⟩
  · have hz := copy_eq (o := T) (n := E - T) (d := K) (s := 0) (M := M) (by omega) (by omega) (by omega)
    simp only [Nat.sub_zero, Nat.add_zero] at hz
    have HZ := hid hz
    clear hz
    have HCZ := hid hcz
    go_upto_region 7 with (first | ((with_reducible refine wl_id ?_); refine m_load HM.out rfl rfl rfl (.tail _ (List.mem_of_getElem? HG.out)) HL1.out Tryz.underlying3 rfl ?_; simp only [Act.put, List.setIfInBounds_toArray, List.set_cons_zero, List.set_cons_succ]) | ((with_reducible refine wl_id ?_); refine m_copy (j := j + 1) (d := (T + K)) (b := T) rfl rfl HM.out HF0.out rfl rfl (by omega) (by omega) (by have := HCZ.out; omega) (by have := HCZ.out; omega) ?_; intro v5 w5 hM; simp only [Act.put, List.setIfInBounds_toArray, List.set_cons_zero, List.set_cons_succ]; simp only [List.set_set, List.set_cons_succ] at hM; have HM5 := hid hM; clear hM))
    have hM := HM5.out
    rw [HZ.out] at hM
    clear HM HM5
    have HM := hid hM
    clear hM hcz
    (refine m_tail 4 HM.out (by kernel_rfl) (by kernel_rfl) ?_; intro wd hM; clear HM; have HM := hid hM; clear hM; simp only [List.take_succ_cons, List.take_zero, List.drop_succ_cons, List.drop_zero])
    repeat (first | (refine ws_want rfl (fun K hK => ?_); refine ms_loadS HM.out rfl rfl (by first | exact .head _ | exact .tail _ (.head _) | exact .tail _ (.tail _ (.head _)) | exact .tail _ (.tail _ (.tail _ (.head _))) | exact .tail _ (.tail _ (.tail _ (.tail _ (.head _)))) | exact .tail _ (.tail _ (.tail _ (.tail _ (.tail _ (.head _))))) | exact .tail _ (.tail _ (.tail _ (.tail _ (.tail _ (.tail _ (.head _)))))) | exact .tail _ (.tail _ (.tail _ (.tail _ (.tail _ (.tail _ (.tail _ (.head _)))))))) (attrL a) rfl Tryz.underlying33 rfl (by kernel_rfl) ?_; simp only [Act.put, List.setIfInBounds_toArray, List.set_cons_zero, List.set_cons_succ]; refine hK _ ?_; clear hK K) | still_step)
    refine wpStill_nil ?_
    go_wp2_with (go_at_call 107; (with_reducible refine (fillM (j := j + 1) (o := T) HM.out HF5.out (by omega) (by simp; omega) (by simpa using hm) (by simpa using h0)).mono ?_); rintro e w7 ⟨rfl, hM⟩; simp only [List.set_set, List.set_cons_succ] at hM; have HM7 := hid hM; clear hM)
    go_end0
    have hM := HM7.out
    exact ⟨rfl, by rw [← HE.out]; exact hM.sub (List.sublist_cons_self _ _)⟩
end Go.Proofs.YtpmfjombfcnhmaaGreatDoor
