/- The reference's rows moved: the walk. -/
import Derived.Test.YtpmfjombfcnhmaaGreatDoorEdMv
set_option linter.unusedVariables false
set_option linter.unusedSimpArgs false
set_option linter.unnecessarySimpa false
namespace Go.Proofs.YtpmfjombfcnhmaaGreatDoor
open Go Go.RowKit Go.Proofs.YtpmfjombfcnhmaaGreatDoorW.PrintLast

set_option maxRecDepth 100000 in
set_option maxHeartbeats 16000000 in
theorem rmoveG_any {M : List Cell} {v : Value} {w : World} {a : Attr} {r c top bot : Nat} {n : Int} (hv : RdC w v M) (hMl : M.length = r * c) (htb : top ≤ bot) (hbr : bot < r) (hr : r ≤ 1000) (hc1 : 1 ≤ c) (hc : c ≤ 1000) (hn : -9999 ≤ n ∧ n ≤ 9999) (hm : M.length ≤ 100000) :
    Calls Tryz.prog 47 #[.agg (gridL r c v).toArray, .int .i64 top, .int .i64 bot, .int .i64 n, .agg (attrL a).toArray] w fun e w' => ∃ v', e = .returned (.agg (gridL r c v').toArray) ∧ OwnC w' w.heap.size v' (mvTo c top bot n a M r) ∧ Below w.heap.size w w' := by
  obtain ⟨A, cap, rfl, hlc, -⟩ := hv.open_
  have hrow : ∀ i, i < r → i * c + c ≤ M.length := fun i hi => by
    rw [hMl, ← Nat.succ_mul]; exact Nat.mul_le_mul_right _ hi
  have HAT : Hid (∀ i, i < r → ∀ W, Below w.heap.size w W → Calls Tryz.prog 44 #[.agg (gridL r c (.slice A M.length cap)).toArray, .int .i64 i] W fun e w' => ∃ v', e = .returned v' ∧ OwnC w' W.heap.size v' (sub (i * c) c M) ∧ Below W.heap.size W w') := hid fun i hi W hW => rat_any (hv.below hW) rfl (hrow i hi) (by omega) hc1 hc (by omega)
  have hXl : ∀ k, k < r → (mvTo c top bot n a M k).length + c ≤ 1000000 := fun k hk => by rw [mvTo_length]; have := hrow k hk; omega
  have HXL := hid hXl
  have HX := hid (Mem.start w)
  clear hv hXl hrow
  go_enter Tryz.func47, Tryz.ntmps47
  go_upto_region 0 with (fail)
  refine wp_region_lit ?_
  refine m_box HX.out rfl rfl rfl ?_
  intro b5 w1 hM1
  simp only [Act.put, List.setIfInBounds_toArray, List.set_cons_zero, List.set_cons_succ]
  refine m_box hM1 rfl rfl rfl ?_
  intro b9 w2 hM2
  simp only [Act.put, List.setIfInBounds_toArray, List.set_cons_zero, List.set_cons_succ]
  refine m_allocB hM2 rfl rfl info_grid ?_
  intro b10 w3 _ _ hM
  simp only [Act.put, List.setIfInBounds_toArray, List.set_cons_zero, List.set_cons_succ]
  have HM := hid hM
  clear hM HX hM1 hM2
  go_upto_region 2 with (first | ((with_reducible refine wl_id ?_); refine m_load HM.out rfl rfl rfl (by first | exact .head _ | exact .tail _ (.head _) | exact .tail _ (.tail _ (.head _)) | exact .tail _ (.tail _ (.tail _ (.head _))) | exact .tail _ (.tail _ (.tail _ (.tail _ (.head _)))) | exact .tail _ (.tail _ (.tail _ (.tail _ (.tail _ (.head _))))) | exact .tail _ (.tail _ (.tail _ (.tail _ (.tail _ (.tail _ (.head _)))))) | exact .tail _ (.tail _ (.tail _ (.tail _ (.tail _ (.tail _ (.tail _ (.head _)))))))) rfl (by first | exact Tryz.underlying3 | exact Tryz.underlying4 | exact Tryz.underlying9 | exact Tryz.underlying29 | exact Tryz.underlying36) rfl ?_; simp only [Act.put, List.setIfInBounds_toArray, List.set_cons_zero, List.set_cons_succ]) | ((with_reducible refine wl_id ?_); refine m_build rfl rfl #[(0, .int .i64 r), (1, .int .i64 c)] rfl (build_grid2 r c _) ?_; simp only [Act.put, List.setIfInBounds_toArray, List.set_cons_zero, List.set_cons_succ]) | ((with_reducible refine wl_id ?_); refine m_allocB HM.out rfl rfl info_grid ?_; intro b11 wy hbn hBy hM; simp only [Act.put, List.setIfInBounds_toArray, List.set_cons_zero, List.set_cons_succ]; have HMy := hid hM; clear hM hbn hBy) | ((with_reducible refine wl_id ?_); refine m_storeA HMy.out rfl rfl rfl 0 rfl rfl rfl (by kernel_rfl) rfl ?_; intro wz hM; simp only [Act.put, List.setIfInBounds_toArray, List.set_cons_zero, List.set_cons_succ]; simp only [List.set_cons_succ, List.set_cons_zero] at hM; have HMx := hid hM; clear hM))
  clear HM HMy
  have HM := HMx
  clear HMx
  have hlt : b11 < wz.heap.size ∧ b10 < wz.heap.size ∧ b9 < wz.heap.size ∧ b5 < wz.heap.size := ⟨HM.out.lt (.head _), HM.out.lt (.tail _ (.head _)), HM.out.lt (.tail _ (.tail _ (.head _))), HM.out.lt (.tail _ (.tail _ (.tail _ (.head _))))⟩
  have HLT := hid hlt
  have HBZ := hid HM.out.below.size
  clear hlt
  go_wp2
  obtain ⟨B, hB⟩ : ∃ B, wz.heap.size = B := ⟨_, rfl⟩
  rw [hB] at HLT HBZ
  have HB0 := hid (show B ≤ wz.heap.size by omega)
  clear hB
  obtain ⟨wo, rfl⟩ : ∃ wo : World, wo = wz := ⟨_, rfl⟩
  go_loopw [12] (fun x wr => ∃ k : Nat, ∃ A1 n1 c1, x = .int .i64 k ∧ k ≤ r ∧ Hid (Mem w wr [(b11, Row 31 (gridL r c (.slice A1 n1 c1))), (b10, Row 31 (gridL 0 0 (.slice none 0 0))), (b9, Row 33 (attrL a)), (b5, Row 31 (gridL r c (.slice A M.length cap)))]) ∧ Hid (OwnC wr B (.slice A1 n1 c1) (mvTo c top bot n a M k)) ∧ Hid (B ≤ wr.heap.size)) (fun x _ => r - (intOf x).toNat)
  case atStart => exact ⟨0, none, 0, 0, rfl, Nat.zero_le _, HM, hid (OwnC.nil _ _), HB0⟩
  case round =>
    obtain ⟨k, A1, n1, c1, rfl, hi1, HMr, HO, HBr⟩ := hrel
    clear HM HB0
    have HM := HMr
    clear HMr
    by_cases hlt : k < r
    · have hlt2 : (k : Int) < (r : Int) := by omega
      have s2 : IntKind.i64.wrap ((k : Int) + n) = (k : Int) + n := IntWalk.i64_in _ (by omega)
      by_cases hin : top ≤ k ∧ k ≤ bot
      · obtain ⟨hi2, hi3⟩ := hin
        have hi4 : (top : Int) ≤ (k : Int) := by omega
        have hi5 : (k : Int) ≤ (bot : Int) := by omega
        by_cases hf : (k : Int) + n < top ∨ (k : Int) + n > bot
        · have HR := hid (show mvTo c top bot n a M (k + 1) = mvTo c top bot n a M k ++ blankL c a by rw [mvTo, mvRow, if_pos ⟨hi2, hi3⟩, if_pos hf])
          rcases hf with hf | hf
          · go_upto_region 9 with (first | ((with_reducible refine wl_id ?_); refine m_load HM.out rfl rfl rfl (by first | exact .head _ | exact .tail _ (.head _) | exact .tail _ (.tail _ (.head _)) | exact .tail _ (.tail _ (.tail _ (.head _))) | exact .tail _ (.tail _ (.tail _ (.tail _ (.head _)))) | exact .tail _ (.tail _ (.tail _ (.tail _ (.tail _ (.head _))))) | exact .tail _ (.tail _ (.tail _ (.tail _ (.tail _ (.tail _ (.head _)))))) | exact .tail _ (.tail _ (.tail _ (.tail _ (.tail _ (.tail _ (.tail _ (.head _)))))))) rfl (by first | exact Tryz.underlying3 | exact Tryz.underlying4 | exact Tryz.underlying9 | exact Tryz.underlying29 | exact Tryz.underlying36) rfl ?_; simp only [Act.put, List.setIfInBounds_toArray, List.set_cons_zero, List.set_cons_succ]))
            refine vreg9_is HM.out HLT.out HBZ.out HBr.out HO.out (HXL.out k hlt) (fun _ _ _ _ _ h => by simp +zetaDelta only [Exit.then, Exit.inBlock] at h ⊢; exact h) _ _ _ _ _ _ _ _ _ _ _ _ _ _ _ _ _ _ _ _ _ _ _ _ _ _ _ _ _ _ _ _ _ _ _ _ _ _ _ _ _ _ _ _ _ _ _ _ _ _ _ _ _ _ _ _ _ _ _ _ _ _ _ _ _ _ _ _ ?_
            rintro w9 A2 n2 c2 v55 v56 v57 v58 v59 v60 v61 v62 hM hO hz
            conv => zeta
            have HM9 := hid hM
            have HO9 := hid hO
            have HZ9 := hid (Nat.le_trans HBr.out hz)
            clear hM hO hz HM HO
            go_wp2
            go_roundw
            case rel => exact ⟨k + 1, A2, n2, c2, by go_num, by omega, HM9, hid (by rw [HR.out]; exact HO9.out), HZ9⟩
            case measure => simp [intOf]; omega
          · have hf2 : ¬ ((k : Int) + n < top) := by omega
            go_upto_region 9 with (first | ((with_reducible refine wl_id ?_); refine m_load HM.out rfl rfl rfl (by first | exact .head _ | exact .tail _ (.head _) | exact .tail _ (.tail _ (.head _)) | exact .tail _ (.tail _ (.tail _ (.head _))) | exact .tail _ (.tail _ (.tail _ (.tail _ (.head _)))) | exact .tail _ (.tail _ (.tail _ (.tail _ (.tail _ (.head _))))) | exact .tail _ (.tail _ (.tail _ (.tail _ (.tail _ (.tail _ (.head _)))))) | exact .tail _ (.tail _ (.tail _ (.tail _ (.tail _ (.tail _ (.tail _ (.head _)))))))) rfl (by first | exact Tryz.underlying3 | exact Tryz.underlying4 | exact Tryz.underlying9 | exact Tryz.underlying29 | exact Tryz.underlying36) rfl ?_; simp only [Act.put, List.setIfInBounds_toArray, List.set_cons_zero, List.set_cons_succ]))
            refine vreg9_is HM.out HLT.out HBZ.out HBr.out HO.out (HXL.out k hlt) (fun _ _ _ _ _ h => by simp +zetaDelta only [Exit.then, Exit.inBlock] at h ⊢; exact h) _ _ _ _ _ _ _ _ _ _ _ _ _ _ _ _ _ _ _ _ _ _ _ _ _ _ _ _ _ _ _ _ _ _ _ _ _ _ _ _ _ _ _ _ _ _ _ _ _ _ _ _ _ _ _ _ _ _ _ _ _ _ _ _ _ _ _ _ ?_
            rintro w9 A2 n2 c2 v55 v56 v57 v58 v59 v60 v61 v62 hM hO hz
            conv => zeta
            have HM9 := hid hM
            have HO9 := hid hO
            have HZ9 := hid (Nat.le_trans HBr.out hz)
            clear hM hO hz HM HO
            go_wp2
            go_roundw
            case rel => exact ⟨k + 1, A2, n2, c2, by go_num, by omega, HM9, hid (by rw [HR.out]; exact HO9.out), HZ9⟩
            case measure => simp [intOf]; omega
        · have HR := hid (show mvTo c top bot n a M (k + 1) = mvTo c top bot n a M k ++ sub (((k : Int) + n).toNat * c) c M by rw [mvTo, mvRow, if_pos ⟨hi2, hi3⟩, if_neg hf])
          have hf2 : ¬ ((k : Int) + n < top) := by omega
          have hf3 : ¬ ((k : Int) + n > bot) := by omega
          obtain ⟨f, hfe⟩ : ∃ f : Nat, (k : Int) + n = (f : Int) := ⟨((k : Int) + n).toNat, by omega⟩
          have hfr : f < r := by omega
          rw [hfe, Int.toNat_natCast] at HR
          rw [hfe] at s2 hf2 hf3
          have hf4 : ¬ ((bot : Int) < (f : Int)) := by omega
          clear hf
          go_upto_region 10 with (first | ((with_reducible refine wl_id ?_); refine m_load HM.out rfl rfl rfl (by first | exact .head _ | exact .tail _ (.head _) | exact .tail _ (.tail _ (.head _)) | exact .tail _ (.tail _ (.tail _ (.head _))) | exact .tail _ (.tail _ (.tail _ (.tail _ (.head _)))) | exact .tail _ (.tail _ (.tail _ (.tail _ (.tail _ (.head _))))) | exact .tail _ (.tail _ (.tail _ (.tail _ (.tail _ (.tail _ (.head _)))))) | exact .tail _ (.tail _ (.tail _ (.tail _ (.tail _ (.tail _ (.tail _ (.head _)))))))) rfl (by first | exact Tryz.underlying3 | exact Tryz.underlying4 | exact Tryz.underlying9 | exact Tryz.underlying29 | exact Tryz.underlying36) rfl ?_; simp only [Act.put, List.setIfInBounds_toArray, List.set_cons_zero, List.set_cons_succ]))
          refine vreg10_is (N := sub (f * c) c M) (a := a) HM.out HLT.out HBZ.out HBr.out HO.out (by rw [sub_length]; exact HXL.out k hlt) (HAT.out f hfr) (fun _ _ _ _ _ h => by simp +zetaDelta only [Exit.then, Exit.inBlock] at h ⊢; exact h) _ _ _ _ _ _ _ _ _ _ _ _ _ _ _ _ _ _ _ _ _ _ _ _ _ _ _ _ _ _ _ _ _ _ _ _ _ _ _ _ _ _ _ _ _ _ _ _ _ _ _ _ _ _ _ _ _ _ _ _ _ _ _ _ _ _ _ _ ?_
          rintro w9 A2 n2 c2 v63 v64 v65 v66 v67 v68 v69 hM hO hz
          conv => zeta
          have HM9 := hid hM
          have HO9 := hid hO
          have HZ9 := hid (Nat.le_trans HBr.out hz)
          clear hM hO hz HM HO
          go_wp2
          go_roundw
          case rel => exact ⟨k + 1, A2, n2, c2, by go_num, by omega, HM9, hid (by rw [HR.out]; exact HO9.out), HZ9⟩
          case measure => simp [intOf]; omega
      · have HR := hid (show mvTo c top bot n a M (k + 1) = mvTo c top bot n a M k ++ sub (k * c) c M by rw [mvTo, mvRow, if_neg hin])
        by_cases hi2 : top ≤ k
        · have hi4 : (top : Int) ≤ (k : Int) := by omega
          have hi5 : ¬ (k : Int) ≤ (bot : Int) := by omega
          clear hin
          go_upto_region 10 with (first | ((with_reducible refine wl_id ?_); refine m_load HM.out rfl rfl rfl (by first | exact .head _ | exact .tail _ (.head _) | exact .tail _ (.tail _ (.head _)) | exact .tail _ (.tail _ (.tail _ (.head _))) | exact .tail _ (.tail _ (.tail _ (.tail _ (.head _)))) | exact .tail _ (.tail _ (.tail _ (.tail _ (.tail _ (.head _))))) | exact .tail _ (.tail _ (.tail _ (.tail _ (.tail _ (.tail _ (.head _)))))) | exact .tail _ (.tail _ (.tail _ (.tail _ (.tail _ (.tail _ (.tail _ (.head _)))))))) rfl (by first | exact Tryz.underlying3 | exact Tryz.underlying4 | exact Tryz.underlying9 | exact Tryz.underlying29 | exact Tryz.underlying36) rfl ?_; simp only [Act.put, List.setIfInBounds_toArray, List.set_cons_zero, List.set_cons_succ]))
          refine vreg10_is (N := sub (k * c) c M) (a := a) HM.out HLT.out HBZ.out HBr.out HO.out (by rw [sub_length]; exact HXL.out k hlt) (HAT.out k hlt) (fun _ _ _ _ _ h => by simp +zetaDelta only [Exit.then, Exit.inBlock] at h ⊢; exact h) _ _ _ _ _ _ _ _ _ _ _ _ _ _ _ _ _ _ _ _ _ _ _ _ _ _ _ _ _ _ _ _ _ _ _ _ _ _ _ _ _ _ _ _ _ _ _ _ _ _ _ _ _ _ _ _ _ _ _ _ _ _ _ _ _ _ _ _ ?_
          rintro w9 A2 n2 c2 v63 v64 v65 v66 v67 v68 v69 hM hO hz
          conv => zeta
          have HM9 := hid hM
          have HO9 := hid hO
          have HZ9 := hid (Nat.le_trans HBr.out hz)
          clear hM hO hz HM HO
          go_wp2
          go_roundw
          case rel => exact ⟨k + 1, A2, n2, c2, by go_num, by omega, HM9, hid (by rw [HR.out]; exact HO9.out), HZ9⟩
          case measure => simp [intOf]; omega
        · have hi4 : ¬ (top : Int) ≤ (k : Int) := by omega
          clear hin
          go_upto_region 10 with (first | ((with_reducible refine wl_id ?_); refine m_load HM.out rfl rfl rfl (by first | exact .head _ | exact .tail _ (.head _) | exact .tail _ (.tail _ (.head _)) | exact .tail _ (.tail _ (.tail _ (.head _))) | exact .tail _ (.tail _ (.tail _ (.tail _ (.head _)))) | exact .tail _ (.tail _ (.tail _ (.tail _ (.tail _ (.head _))))) | exact .tail _ (.tail _ (.tail _ (.tail _ (.tail _ (.tail _ (.head _)))))) | exact .tail _ (.tail _ (.tail _ (.tail _ (.tail _ (.tail _ (.tail _ (.head _)))))))) rfl (by first | exact Tryz.underlying3 | exact Tryz.underlying4 | exact Tryz.underlying9 | exact Tryz.underlying29 | exact Tryz.underlying36) rfl ?_; simp only [Act.put, List.setIfInBounds_toArray, List.set_cons_zero, List.set_cons_succ]))
          refine vreg10_is (N := sub (k * c) c M) (a := a) HM.out HLT.out HBZ.out HBr.out HO.out (by rw [sub_length]; exact HXL.out k hlt) (HAT.out k hlt) (fun _ _ _ _ _ h => by simp +zetaDelta only [Exit.then, Exit.inBlock] at h ⊢; exact h) _ _ _ _ _ _ _ _ _ _ _ _ _ _ _ _ _ _ _ _ _ _ _ _ _ _ _ _ _ _ _ _ _ _ _ _ _ _ _ _ _ _ _ _ _ _ _ _ _ _ _ _ _ _ _ _ _ _ _ _ _ _ _ _ _ _ _ _ ?_
          rintro w9 A2 n2 c2 v63 v64 v65 v66 v67 v68 v69 hM hO hz
          conv => zeta
          have HM9 := hid hM
          have HO9 := hid hO
          have HZ9 := hid (Nat.le_trans HBr.out hz)
          clear hM hO hz HM HO
          go_wp2
          go_roundw
          case rel => exact ⟨k + 1, A2, n2, c2, by go_num, by omega, HM9, hid (by rw [HR.out]; exact HO9.out), HZ9⟩
          case measure => simp [intOf]; omega
    · have hlt2 : ¬ (k : Int) < (r : Int) := by omega
      obtain rfl : k = r := by omega
      have HLB := hid (show b10 < B from HLT.out.2.1)
      go_wp2_with (first | ((with_reducible refine wl_id ?_); refine m_load HM.out rfl rfl rfl (by first | exact .head _ | exact .tail _ (.head _) | exact .tail _ (.tail _ (.head _)) | exact .tail _ (.tail _ (.tail _ (.head _))) | exact .tail _ (.tail _ (.tail _ (.tail _ (.head _)))) | exact .tail _ (.tail _ (.tail _ (.tail _ (.tail _ (.head _))))) | exact .tail _ (.tail _ (.tail _ (.tail _ (.tail _ (.tail _ (.head _)))))) | exact .tail _ (.tail _ (.tail _ (.tail _ (.tail _ (.tail _ (.tail _ (.head _)))))))) rfl (by first | exact Tryz.underlying3 | exact Tryz.underlying4 | exact Tryz.underlying9 | exact Tryz.underlying29 | exact Tryz.underlying36) rfl ?_; simp only [Act.put, List.setIfInBounds_toArray, List.set_cons_zero, List.set_cons_succ]) | ((with_reducible refine wl_id ?_); refine m_loadS HM.out rfl rfl rfl (.head _) (gridL k c (.slice A1 n1 c1)) rfl Tryz.underlying31 rfl (by kernel_rfl) ?_; simp only [Act.put, List.setIfInBounds_toArray, List.set_cons_zero, List.set_cons_succ]) | ((with_reducible refine wl_id ?_); refine m_storeAG HM.out rfl rfl rfl 1 rfl rfl rfl (by kernel_rfl) rfl ?_; intro wy hM hg; simp only [Act.put, List.setIfInBounds_toArray, List.set_cons_zero, List.set_cons_succ]; simp only [List.set_cons_succ, List.set_cons_zero] at hM; have HM3 := hid hM; have HG3 := hid hg; clear hM hg))
      exact bodyPost_ret (m_results1 HM3.out Tryz.results47 _ rfl (.tail _ (.head _)) (gridL k c (.slice A1 n1 c1)) rfl Tryz.underlying31 rfl (by kernel_rfl)) rfl ⟨_, rfl, OwnC.lower (HO.out.kept HG3.out (.inr fun e => by have := (HO.out.lt b10 e).1; have := HLB.out; omega)) HBZ.out, HM3.out.below⟩
end Go.Proofs.YtpmfjombfcnhmaaGreatDoor
