/- The reference's edits of grids: With, Move; the grid that is seen. -/
import Derived.Test.YtpmfjombfcnhmaaGreatDoorEdRef2
set_option linter.unusedVariables false
set_option linter.unusedSimpArgs false
set_option linter.unnecessarySimpa false
namespace Go.Proofs.YtpmfjombfcnhmaaGreatDoor
open Go Go.RowKit Go.Proofs.YtpmfjombfcnhmaaGreatDoorW.PrintLast

def seenO (s : Scr) : Nat := if s.sw = true then 3 else 0
theorem Seen_any {s : Scr} {m o t : Value} {p i : Nat} {w0 w : World} {F : List Ent} (hM : Mem w0 w F) (hF : F[i]? = some (p, Row 38 (scrL s m o t))) :
    Calls Tryz.prog 65 #[.pointer (some ⟨p, 0, none⟩)] w fun e w' => e = .returned (.pointer (some ⟨p, seenO s, none⟩)) ∧ w = w' := by
  have HM := hid hM
  have HF := hid hF
  clear hM hF
  cases h : s.sw with
  | true =>
    have e : seenO s = 3 := by rw [seenO, if_pos h]
    rw [e]
    clear e
    go_enter Tryz.func65, Tryz.ntmps65
    go_wp2_with (first | ((with_reducible refine wl_id ?_); refine m_load HM.out rfl rfl rfl (List.mem_of_getElem? HF.out) (show (scrL s m o t)[6]? = some (.bool true) by rw [← h]; rfl) Tryz.underlying4 rfl ?_; simp only [Act.put, List.setIfInBounds_toArray, List.set_cons_zero, List.set_cons_succ]))
    go_ret
    exact ⟨rfl, rfl⟩
  | false =>
    have e : seenO s = 0 := by rw [seenO, if_neg (by simp [h])]
    rw [e]
    clear e
    go_enter Tryz.func65, Tryz.ntmps65
    go_wp2_with (first | ((with_reducible refine wl_id ?_); refine m_load HM.out rfl rfl rfl (List.mem_of_getElem? HF.out) (show (scrL s m o t)[6]? = some (.bool false) by rw [← h]; rfl) Tryz.underlying4 rfl ?_; simp only [Act.put, List.setIfInBounds_toArray, List.set_cons_zero, List.set_cons_succ]))
    go_ret
    exact ⟨rfl, rfl⟩
theorem rseen_any {s : Scr} {m o t : Value} {p i : Nat} {w0 w : World} {F : List Ent} (hM : Mem w0 w F) (hF : F[i]? = some (p, Row 38 (scrL s m o t))) :
    Calls Tryz.prog 41 #[.pointer (some ⟨p, 0, none⟩)] w fun e w' => e = .returned (.pointer (some ⟨p, seenO s, none⟩)) ∧ w = w' := by
  have HM := hid hM
  have HF := hid hF
  clear hM hF
  cases h : s.sw with
  | true =>
    have e : seenO s = 3 := by rw [seenO, if_pos h]
    rw [e]
    clear e
    go_enter Tryz.func41, Tryz.ntmps41
    go_wp2_with (first | ((with_reducible refine wl_id ?_); refine m_load HM.out rfl rfl rfl (List.mem_of_getElem? HF.out) (show (scrL s m o t)[6]? = some (.bool true) by rw [← h]; rfl) Tryz.underlying4 rfl ?_; simp only [Act.put, List.setIfInBounds_toArray, List.set_cons_zero, List.set_cons_succ]))
    go_ret
    exact ⟨rfl, rfl⟩
  | false =>
    have e : seenO s = 0 := by rw [seenO, if_neg (by simp [h])]
    rw [e]
    clear e
    go_enter Tryz.func41, Tryz.ntmps41
    go_wp2_with (first | ((with_reducible refine wl_id ?_); refine m_load HM.out rfl rfl rfl (List.mem_of_getElem? HF.out) (show (scrL s m o t)[6]? = some (.bool false) by rw [← h]; rfl) Tryz.underlying4 rfl ?_; simp only [Act.put, List.setIfInBounds_toArray, List.set_cons_zero, List.set_cons_succ]))
    go_ret
    exact ⟨rfl, rfl⟩
theorem copyGL (r c : Int) (L : List Cell) (v : Value) (w : World) (hv : RdC w v L) (hl : L.length ≤ 1048576) : Calls Tryz.prog 28 #[.agg (gridL r c v).toArray] w fun e w' => ∃ v', e = .returned (.agg (gridL r c v').toArray) ∧ OwnC w' w.heap.size v' L ∧ Below w.heap.size w w' := copyG_any r c L v w hv hl
/-- a row put in, so far -/
def withTo (P k : Nat) (L M : List Cell) : List Cell := tab M.length fun j => if P ≤ j ∧ j < P + k then at_ L (j - P) else at_ M j
@[simp] theorem withTo_length (P k : Nat) (L M : List Cell) : (withTo P k L M).length = M.length := by simp [withTo]
theorem withTo_start (P : Nat) (L M : List Cell) : withTo P 0 L M = M := Eq.trans (tab_congr fun j hj => by rw [if_neg (by omega)]) (tab_at M)
theorem withTo_step {P k : Nat} {L M : List Cell} : (withTo P k L M).set (P + k) (at_ L k) = withTo P (k + 1) L M := by
  unfold withTo
  rw [tab_set]
  refine tab_congr fun j hj => ?_
  by_cases h1 : j = P + k
  · rw [if_pos h1, if_pos (by omega), show j - P = k by omega]
  · rw [if_neg h1]
    by_cases h2 : P ≤ j ∧ j < P + k
    · rw [if_pos h2, if_pos (by omega)]
    · rw [if_neg h2, if_neg (by omega)]
theorem withTo_end {P c : Nat} {L M : List Cell} : withTo P c L M = onSub P c (fun _ => L) M := rfl
set_option maxRecDepth 100000 in
set_option maxHeartbeats 2000000 in
theorem rwith_any {M L : List Cell} {v vl : Value} {w : World} {r : Int} {c i P : Nat} (hv : RdC w v M) (hl : RdC w vl L) (hL : L.length = c) (hP : i * c = P) (hPM : P + c ≤ M.length) (hi : i ≤ 1000) (hc1 : 1 ≤ c) (hc : c ≤ 1000) (hm : M.length ≤ 1000000) :
    Calls Tryz.prog 42 #[.agg (gridL r c v).toArray, .int .i64 i, vl] w fun e w' => ∃ v', e = .returned (.agg (gridL r c v').toArray) ∧ OwnC w' w.heap.size v' (onSub P c (fun _ => L) M) ∧ Below w.heap.size w w' := by
  obtain ⟨A, cap, rfl, hlc, -⟩ := hv.open_
  have h0 : 0 < M.length := by omega
  have HC : Hid (∀ W, Below w.heap.size w W → Calls Tryz.prog 28 #[.agg (gridL r c (.slice A M.length cap)).toArray] W _) := hid fun W hW => copyGL r c M _ W (hv.below hW) (by omega)
  obtain ⟨A2, cap2, rfl, hlc2, hcell⟩ := hl.open_
  rw [hL] at hlc2 hcell ⊢
  obtain ⟨b2, q2, rfl, -⟩ := hcell w (Below.refl _ _) 0 (by omega)
  have HL : Hid (∀ W, Below w.heap.size w W → ∀ k, k < c → ∀ j u, (encs [at_ L k])[j]? = some u → W.cell? ⟨b2, q2 + k * 6 + j, none⟩ = some u) := hid fun W hW k hk => cells_six fun j hj => by
    obtain ⟨A', c', e', h1, h2⟩ := hl.below hW
    cases e'
    obtain ⟨b', q', e', h3⟩ := h2 (by omega)
    cases e'
    exact h3 k (by omega) j hj
  have e1 : (i : Int) * (c : Int) = (P : Int) := by rw [← hP]; push_cast; rfl
  have s1 : IntKind.i64.wrap (P : Int) = (P : Int) := IntWalk.i64_in _ (by omega)
  have HX := hid (Mem.start w)
  clear hv hl hP hcell
  go_enter Tryz.func42, Tryz.ntmps42
  go_upto_region 0 with (fail)
  refine wp_region_lit ?_
  refine m_box HX.out rfl rfl rfl ?_
  intro b3 w1 hM1
  simp only [Act.put, List.setIfInBounds_toArray, List.set_cons_zero, List.set_cons_succ]
  refine m_allocB hM1 rfl rfl info_grid ?_
  intro b6 wy _ _ hM
  simp only [Act.put, List.setIfInBounds_toArray, List.set_cons_zero, List.set_cons_succ]
  have HM := hid hM
  clear hM HX hM1
  go_upto_region 2 with (first | ((with_reducible refine wl_id ?_); refine m_loadS HM.out rfl rfl rfl (.tail _ (.head _)) (gridL r c (.slice A M.length cap)) rfl Tryz.underlying31 rfl (by kernel_rfl) ?_; simp only [Act.put, List.setIfInBounds_toArray, List.set_cons_zero, List.set_cons_succ]) | (go_at_call 28; (with_reducible refine (HC.out _ HM.out.below).mono ?_); rintro e w2 ⟨v', rfl, hO, hB⟩; obtain ⟨g, cp, rfl, hM2⟩ := HM.out.addOwn (HM.out.call hB) hO h0; have HM2 := hid hM2; clear hO hB hM2) | ((with_reducible refine wl_id ?_); refine m_storeA HM2.out rfl rfl rfl 2 rfl rfl rfl (by kernel_rfl) rfl ?_; intro wx hM; simp only [Act.put, List.setIfInBounds_toArray, List.set_cons_zero, List.set_cons_succ]; simp only [List.set_cons_succ, List.set_cons_zero] at hM; have HM3 := hid hM; clear hM))
  clear HM HM2 HC
  have HM := hid (show Mem w wx ((g, entC (withTo P 0 L M) cp) :: [(b6, Row 31 (gridL 0 0 (.slice none 0 0))), (b3, Row 31 (gridL r c (sl g M.length cp)))]) by rw [withTo_start]; exact HM3.out)
  clear HM3
  go_wp2
  obtain ⟨wo, rfl⟩ : ∃ wo : World, wo = wx := ⟨_, rfl⟩
  go_loopw [7] (fun x wr => ∃ k : Nat, x = .int .i64 k ∧ k ≤ c ∧ Hid (Mem w wr ((g, entC (withTo P k L M) cp) :: [(b6, Row 31 (gridL 0 0 (.slice none 0 0))), (b3, Row 31 (gridL r c (sl g M.length cp)))]))) (fun x _ => c - (intOf x).toNat)
  case atStart => exact ⟨0, rfl, Nat.zero_le _, HM⟩
  case round =>
    obtain ⟨k, rfl, hi1, HMr⟩ := hrel
    clear HM
    have HM := HMr
    clear HMr
    by_cases hlt : k < c
    · have hlt2 : (k : Int) < (c : Int) := by omega
      have s2 : IntKind.i64.wrap ((P : Int) + k) = (P : Int) + k := IntWalk.i64_in _ (by omega)
      have t2 : ((P : Int) + (k : Int)).toNat = P + k := by omega
      have g1 : (0 : Int) ≤ (P : Int) + (k : Int) := by omega
      have g2 : (P : Int) + (k : Int) < (M.length : Int) := by omega
      go_upto_region 5 with (first | ((with_reducible refine wl_id ?_); refine m_load HM.out rfl rfl rfl (by first | exact .head _ | exact .tail _ (.head _) | exact .tail _ (.tail _ (.head _)) | exact .tail _ (.tail _ (.tail _ (.head _))) | exact .tail _ (.tail _ (.tail _ (.tail _ (.head _)))) | exact .tail _ (.tail _ (.tail _ (.tail _ (.tail _ (.head _))))) | exact .tail _ (.tail _ (.tail _ (.tail _ (.tail _ (.tail _ (.head _)))))) | exact .tail _ (.tail _ (.tail _ (.tail _ (.tail _ (.tail _ (.tail _ (.head _)))))))) rfl (by first | exact Tryz.underlying3 | exact Tryz.underlying4 | exact Tryz.underlying9 | exact Tryz.underlying29 | exact Tryz.underlying36) rfl ?_; simp only [Act.put, List.setIfInBounds_toArray, List.set_cons_zero, List.set_cons_succ]))
      (refine m_tail 13 HM.out (by kernel_rfl) (by kernel_rfl) ?_; intro wd hM; clear HM; have HM := hid hM; clear hM; simp only [List.take_succ_cons, List.take_zero, List.drop_succ_cons, List.drop_zero])
      have HLD := hid (loadCE (HL.out wd HM.out.below k hlt))
      have HI := hid (show P + k < (withTo P k L M).length by simp; omega)
      repeat (first | (refine ws_want rfl (fun K hK => ?_); refine ms_load HM.out rfl rfl (by first | exact .head _ | exact .tail _ (.head _) | exact .tail _ (.tail _ (.head _)) | exact .tail _ (.tail _ (.tail _ (.head _))) | exact .tail _ (.tail _ (.tail _ (.tail _ (.head _)))) | exact .tail _ (.tail _ (.tail _ (.tail _ (.tail _ (.head _))))) | exact .tail _ (.tail _ (.tail _ (.tail _ (.tail _ (.tail _ (.head _)))))) | exact .tail _ (.tail _ (.tail _ (.tail _ (.tail _ (.tail _ (.tail _ (.head _)))))))) rfl (by first | exact Tryz.underlying3 | exact Tryz.underlying4 | exact Tryz.underlying9 | exact Tryz.underlying29 | exact Tryz.underlying36) rfl ?_; simp only [Act.put, List.setIfInBounds_toArray, List.set_cons_zero, List.set_cons_succ]; refine hK _ ?_; clear hK K) | (refine ws_want rfl (fun K hK => ?_); refine ms_any rfl rfl HLD.out ?_; simp only [Act.put, List.setIfInBounds_toArray, List.set_cons_zero, List.set_cons_succ]; refine hK _ ?_; clear hK K) | still_step)
      refine wpStill_nil ?_
      go_wp2_with (first | ((with_reducible refine wl_id ?_); refine m_storeC HM.out rfl rfl rfl 0 rfl (at_ L k) rfl (P + k) HI.out rfl (by kernel_rfl) ?_; intro w4 hM; simp only [Act.put, List.setIfInBounds_toArray, List.set_cons_zero, List.set_cons_succ]; simp only [List.set_cons_zero] at hM; have HM4 := hid hM; clear hM))
      go_roundw
      case rel => exact ⟨k + 1, by go_num, by omega, hid (by have := HM4.out; rwa [withTo_step] at this)⟩
      case measure => simp [intOf]; omega
    · have hlt2 : ¬ (k : Int) < (c : Int) := by omega
      obtain rfl : k = c := by omega
      go_wp2_with (first | ((with_reducible refine wl_id ?_); refine m_load HM.out rfl rfl rfl (by first | exact .head _ | exact .tail _ (.head _) | exact .tail _ (.tail _ (.head _)) | exact .tail _ (.tail _ (.tail _ (.head _))) | exact .tail _ (.tail _ (.tail _ (.tail _ (.head _)))) | exact .tail _ (.tail _ (.tail _ (.tail _ (.tail _ (.head _))))) | exact .tail _ (.tail _ (.tail _ (.tail _ (.tail _ (.tail _ (.head _)))))) | exact .tail _ (.tail _ (.tail _ (.tail _ (.tail _ (.tail _ (.tail _ (.head _)))))))) rfl (by first | exact Tryz.underlying3 | exact Tryz.underlying4 | exact Tryz.underlying9 | exact Tryz.underlying29 | exact Tryz.underlying36) rfl ?_; simp only [Act.put, List.setIfInBounds_toArray, List.set_cons_zero, List.set_cons_succ]) | ((with_reducible refine wl_id ?_); refine m_loadS HM.out rfl rfl rfl (.tail _ (.tail _ (.head _))) (gridL r k (sl g M.length cp)) rfl Tryz.underlying31 rfl (by kernel_rfl) ?_; simp only [Act.put, List.setIfInBounds_toArray, List.set_cons_zero, List.set_cons_succ]) | ((with_reducible refine wl_id ?_); refine m_storeA HM.out rfl rfl rfl 1 rfl rfl rfl (by kernel_rfl) rfl ?_; intro wy hM; simp only [Act.put, List.setIfInBounds_toArray, List.set_cons_zero, List.set_cons_succ]; simp only [List.set_cons_succ, List.set_cons_zero] at hM; have HM3 := hid hM; clear hM))
      exact bodyPost_ret (m_results1 HM3.out Tryz.results42 _ rfl (.tail _ (.head _)) (gridL r k (sl g M.length cp)) rfl Tryz.underlying31 rfl (by kernel_rfl)) rfl ⟨_, rfl, entC_own HM3.out (.head _) (by simp [withTo_end]), HM3.out.below⟩
end Go.Proofs.YtpmfjombfcnhmaaGreatDoor
