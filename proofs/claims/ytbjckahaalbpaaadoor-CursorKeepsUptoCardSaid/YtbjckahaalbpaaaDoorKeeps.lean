/- CursorKeeps: the walk. -/
import Derived.Test.YtbjckahaalbpaaaDoorKeepsR
import Derived.Test.YtbjckahaalbpaaaDoorLaws10
set_option linter.unusedVariables false
set_option linter.unusedSimpArgs false
set_option linter.unnecessarySimpa false
namespace Go.Proofs.YtbjckahaalbpaaaDoor
open Go Go.RowKit Go.Proofs.YtbjckahaalbpaaaDoorW.PrintLast

set_option maxRecDepth 100000 in
set_option maxHeartbeats 8000000 in
theorem walk_CursorKeeps {L : List SV} {v : Value} {n m k r : Int} {w : World} (hv : RdSS w v L) (hL : L.length ≤ 1048576) (hT : U8 w) :
    Calls Tryd.prog 20 #[.agg (askL v n m k r).toArray] w fun e w' => e = .returned (.bool true) ∧ Below w.heap.size w w' := by
  have HV : Hid (∀ W, Below w.heap.size w W → RdSS W v L) := hid fun W hW => hv.below hW
  have HT : Hid (∀ W, Below w.heap.size w W → U8 W) := hid fun W hW => hT.below hW
  obtain ⟨A, c, rfl, hc, -⟩ := hv
  have HX := hid (Mem.start w)
  clear hT
  go_enter Tryd.func20, Tryd.ntmps20
  go_upto_region 0 with (fail)
  refine wp_region_lit ?_
  refine m_box HX.out rfl rfl rfl ?_
  intro b w1 hM
  simp only [Act.put, List.setIfInBounds_toArray, List.set_cons_zero, List.set_cons_succ]
  have HM := hid hM
  clear hM HX
  go_wp2_with (first | ((with_reducible refine wl_id ?_); refine m_loadS HM.out rfl rfl rfl (by first | exact .head _ | exact .tail _ (.head _) | exact .tail _ (.tail _ (.head _)) | exact .tail _ (.tail _ (.tail _ (.head _))) | exact .tail _ (.tail _ (.tail _ (.tail _ (.head _)))) | exact .tail _ (.tail _ (.tail _ (.tail _ (.tail _ (.head _))))) | exact .tail _ (.tail _ (.tail _ (.tail _ (.tail _ (.tail _ (.head _)))))) | exact .tail _ (.tail _ (.tail _ (.tail _ (.tail _ (.tail _ (.tail _ (.head _)))))))) (askL (.slice A L.length c) n m k r) rfl Tryd.underlying24 rfl (by kernel_rfl) ?_; simp only [Act.put, List.setIfInBounds_toArray, List.set_cons_zero, List.set_cons_succ]) | (go_at_call 22; fail))
  refine (heavy_any (HV.out _ HM.out.below) hL).mono ?_
  rintro e w2 ⟨x, rfl, hB⟩
  have HM2 := hid (HM.out.call hB)
  clear HM hB
  have HM := HM2
  clear HM2
  cases x with
  | true =>
    go_wp2
    go_ret
    exact ⟨rfl, HM.out.below⟩
  | false =>
    go_wp2
    obtain ⟨wo, rfl⟩ : ∃ wo : World, wo = w2 := ⟨_, rfl⟩
    go_loopw [3] (fun i wr => ∃ ii : Nat, i = .int .i64 ii ∧ ii ≤ L.length ∧ ii ≤ 4 ∧ Hid (Mem w wr [(b, Row 24 (askL (.slice A L.length c) n m k r))])) (fun i _ => 4 - (intOf i).toNat)
    case atStart => exact ⟨0, rfl, Nat.zero_le _, by omega, HM⟩
    case round =>
      obtain ⟨ii, rfl, hi1, hi2, HMr⟩ := hrel
      clear HM
      have HM := HMr
      clear HMr
      by_cases hlt : ii < L.length
      · have hlt2 : (ii : Int) < (L.length : Int) := by omega
        by_cases h4 : ii < 4
        · have h42 : (ii : Int) < 4 := by omega
          obtain ⟨A', c', e1, -, hcells⟩ := HV.out w (Below.refl _ _)
          obtain ⟨sb, so, e2, hel0, hrs0⟩ := hcells ii hlt
          cases e1
          subst e2
          obtain ⟨sv, hsv⟩ : ∃ sv, L[ii] = sv := ⟨_, rfl⟩
          rw [hsv] at hel0 hrs0
          obtain ⟨s, m0, o0, t0⟩ := sv
          simp only at hel0 hrs0
          have HEL : Hid (∀ W, Below w.heap.size w W → ∀ q u, (scrL s m0 o0 t0)[q]? = some u → W.cell? ⟨sb, so + ii * 43 + q, none⟩ = some u) := hid fun W hW q u hq => cell_below hW (hel0 q u hq)
          have HRS : Hid (∀ W, Below w.heap.size w W → RdScr W s m0 o0 t0) := hid fun W hW => hrs0.below hW
          have HSM := hid hrs0.2.2.2
          clear hcells hel0 hrs0 hsv
          obtain ⟨may, hmay⟩ : ∃ x, scrB s = x := ⟨_, rfl⟩
          have HMAY := hid hmay
          have HS : Hid (∀ W, Below w.heap.size w W → Calls Tryd.prog 23 #[.agg (scrL s m0 o0 t0).toArray] W fun e w' => e = .returned (.bool may) ∧ Below W.heap.size W w') := hid fun W hW => rS_l hmay (HRS.out W hW) (HT.out W hW)
          have HCP : Hid (∀ W, Below w.heap.size w W → Calls Tryd.prog 30 #[.agg (scrL s m0 o0 t0).toArray] W _) := hid fun W hW => copyS_l (HRS.out W hW)
          clear hmay
          go_upto_region 7 with (first | ((with_reducible refine wl_id ?_); refine m_load HM.out rfl rfl rfl (by first | exact .head _ | exact .tail _ (.head _) | exact .tail _ (.tail _ (.head _)) | exact .tail _ (.tail _ (.tail _ (.head _))) | exact .tail _ (.tail _ (.tail _ (.tail _ (.head _)))) | exact .tail _ (.tail _ (.tail _ (.tail _ (.tail _ (.head _))))) | exact .tail _ (.tail _ (.tail _ (.tail _ (.tail _ (.tail _ (.head _)))))) | exact .tail _ (.tail _ (.tail _ (.tail _ (.tail _ (.tail _ (.tail _ (.head _)))))))) rfl Tryd.underlying22 rfl ?_; simp only [Act.put, List.setIfInBounds_toArray, List.set_cons_zero, List.set_cons_succ]) | ((with_reducible refine wl_id ?_); refine m_any rfl rfl rfl (load_sl (HEL.out _ HM.out.below)) ?_; simp only [Act.put, List.setIfInBounds_toArray, List.set_cons_zero, List.set_cons_succ]) | (go_at_call 23; (with_reducible refine (HS.out _ HM.out.below).mono ?_); rintro e w6 ⟨rfl, hB⟩; have HM6 := hid (HM.out.call hB); clear hB))
          clear HM HS
          have HM := HM6
          clear HM6
          go_upto_region 8 with (first | ((with_reducible refine wl_id ?_); refine m_load HM.out rfl rfl rfl (by first | exact .head _ | exact .tail _ (.head _) | exact .tail _ (.tail _ (.head _)) | exact .tail _ (.tail _ (.tail _ (.head _))) | exact .tail _ (.tail _ (.tail _ (.tail _ (.head _)))) | exact .tail _ (.tail _ (.tail _ (.tail _ (.tail _ (.head _))))) | exact .tail _ (.tail _ (.tail _ (.tail _ (.tail _ (.tail _ (.head _)))))) | exact .tail _ (.tail _ (.tail _ (.tail _ (.tail _ (.tail _ (.tail _ (.head _)))))))) rfl Tryd.underlying22 rfl ?_; simp only [Act.put, List.setIfInBounds_toArray, List.set_cons_zero, List.set_cons_succ]) | ((with_reducible refine wl_id ?_); refine m_any rfl rfl rfl (load_sl (HEL.out _ HM.out.below)) ?_; simp only [Act.put, List.setIfInBounds_toArray, List.set_cons_zero, List.set_cons_succ]) | (go_at_call 30; (with_reducible refine (HCP.out _ HM.out.below).mono ?_); rintro e wc7 ⟨m', o', t', rfl, hO, hB⟩; obtain ⟨i1, i2, rfl⟩ := hO.hm.slice; obtain ⟨i3, i4, rfl⟩ := hO.ho.slice; obtain ⟨i5, i6, rfl⟩ := ownB_slice hO.ht; have HMc := hid (HM.out.call hB); have HOc := hid hO; clear hO hB) | ((with_reducible refine wl_id ?_); refine m_allocB HMc.out rfl rfl info_zS ?_; intro b5 wy7 hbn hBy hM; simp only [Act.put, List.setIfInBounds_toArray, List.set_cons_zero, List.set_cons_succ]; have HMy := hid hM; have HNy := hid hbn; have HBy := hid hBy; clear hM hbn hBy) | ((with_reducible refine wl_id ?_); refine m_storeAG HMy.out rfl rfl rfl 0 rfl rfl rfl (by kernel_rfl) rfl ?_; intro wB hM hg; simp only [Act.put, List.setIfInBounds_toArray, List.set_cons_zero, List.set_cons_succ]; simp only [List.set_cons_succ, List.set_cons_zero] at hM; have HMx := hid hM; have HGx := hid hg; clear hM hg))
          have HIN := hid ((HOc.out.put HNy.out HBy.out HGx.out).rd HSM.out)
          have HRB := hid (HRS.out _ HMx.out.below)
          have HBB := hid (Below.refl wB.heap.size wB)
          have HBW := hid HMx.out.below
          clear HM HMc HOc HMy HNy HBy HGx HCP
          have HM := HMx
          clear HMx
          obtain ⟨RA, hRA⟩ : ∃ R, kR s (toS s 72 1 1) = R := ⟨_, rfl⟩
          obtain ⟨RB, hRB⟩ : ∃ R, kR s (keepS s) = R := ⟨_, rfl⟩
          obtain ⟨RD, hRD⟩ : ∃ R, kR s (backS s) = R := ⟨_, rfl⟩
          obtain ⟨ec, hec⟩ : ∃ e, kE s = e := ⟨_, rfl⟩
          have HKA : Hid (∀ W, Below wB.heap.size wB W → Calls Tryd.prog 31 #[.agg (scrL s (.slice i1 s.ms.length i2) (.slice i3 s.os.length i4) (.slice i5 s.tabs.length i6)).toArray] W fun e w' => KeepPost W RA ec e w') := hid fun W hW => by
            have := kHome (HIN.out.below hW) (HT.out W (HBW.out.trans (hW.mono HBW.out.size)))
            rwa [hRA, hec] at this
          have HKB : Hid (∀ W, Below wB.heap.size wB W → Calls Tryd.prog 32 #[.agg (scrL s (.slice i1 s.ms.length i2) (.slice i3 s.os.length i4) (.slice i5 s.tabs.length i6)).toArray] W fun e w' => KeepPost W RB ec e w') := hid fun W hW => by
            have := kSave (HIN.out.below hW) (HT.out W (HBW.out.trans (hW.mono HBW.out.size)))
            rwa [hRB, hec] at this
          have HKD : Hid (∀ W, Below wB.heap.size wB W → Calls Tryd.prog 33 #[.agg (scrL s (.slice i1 s.ms.length i2) (.slice i3 s.os.length i4) (.slice i5 s.tabs.length i6)).toArray] W fun e w' => KeepPost W RD ec e w') := hid fun W hW => by
            have := kRest (HIN.out.below hW) (HT.out W (HBW.out.trans (hW.mono HBW.out.size)))
            rwa [hRD, hec] at this
          have HRA := hid hRA
          have HRBe := hid hRB
          have HRD := hid hRD
          have HEC := hid hec
          clear hRA hRB hRD hec
          go_upto_region 9 with (first | ((with_reducible refine wl_id ?_); refine m_loadS HM.out rfl rfl rfl (.head _) (scrL s (.slice i1 s.ms.length i2) (.slice i3 s.os.length i4) (.slice i5 s.tabs.length i6)) rfl Tryd.underlying37 rfl (by kernel_rfl) ?_; simp only [Act.put, List.setIfInBounds_toArray, List.set_cons_zero, List.set_cons_succ]) | (go_at_call 31; (with_reducible refine (HKA.out _ HBB.out).mono ?_); rintro e wc8 ⟨A18, k18, A28, k28, A38, k38, rfl, hO, hB⟩; have HMc := hid (HM.out.call hB); have HOc := hid hO; have HBc := hid hB; clear hO hB) | ((with_reducible refine wl_id ?_); refine m_allocB HMc.out rfl rfl info_zS ?_; intro b8 wy8 hbn hBy hM; simp only [Act.put, List.setIfInBounds_toArray, List.set_cons_zero, List.set_cons_succ]; have HMy := hid hM; have HNy := hid hbn; have HBy := hid hBy; clear hM hbn hBy) | ((with_reducible refine wl_id ?_); refine m_storeAG HMy.out rfl rfl rfl 0 rfl rfl rfl (by kernel_rfl) rfl ?_; intro wx8 hM hg; simp only [Act.put, List.setIfInBounds_toArray, List.set_cons_zero, List.set_cons_succ]; simp only [List.set_cons_succ, List.set_cons_zero] at hM; have HMx := hid hM; have HGx := hid hg; clear hM hg))
          have HO8 := hid (HOc.out.put HNy.out HBy.out HGx.out)
          have HB8 := hid (put_below HBc.out HNy.out HBy.out HGx.out)
          clear HM HMc HOc HBc HMy HNy HBy HGx HKA HBB
          have HM := HMx
          clear HMx
          go_upto_region 10 with (first | ((with_reducible refine wl_id ?_); refine m_loadS HM.out rfl rfl rfl (.tail _ (.head _)) (scrL s (.slice i1 s.ms.length i2) (.slice i3 s.os.length i4) (.slice i5 s.tabs.length i6)) rfl Tryd.underlying37 rfl (by kernel_rfl) ?_; simp only [Act.put, List.setIfInBounds_toArray, List.set_cons_zero, List.set_cons_succ]) | (go_at_call 32; (with_reducible refine (HKB.out _ HB8.out).mono ?_); rintro e wc9 ⟨A19, k19, A29, k29, A39, k39, rfl, hO, hB⟩; have HMc := hid (HM.out.call hB); have HOc := hid hO; have HBc := hid hB; clear hO hB) | ((with_reducible refine wl_id ?_); refine m_allocB HMc.out rfl rfl info_zS ?_; intro b9 wy9 hbn hBy hM; simp only [Act.put, List.setIfInBounds_toArray, List.set_cons_zero, List.set_cons_succ]; have HMy := hid hM; have HNy := hid hbn; have HBy := hid hBy; clear hM hbn hBy) | ((with_reducible refine wl_id ?_); refine m_storeAG HMy.out rfl rfl rfl 0 rfl rfl rfl (by kernel_rfl) rfl ?_; intro wx9 hM hg; simp only [Act.put, List.setIfInBounds_toArray, List.set_cons_zero, List.set_cons_succ]; simp only [List.set_cons_succ, List.set_cons_zero] at hM; have HMx := hid hM; have HGx := hid hg; clear hM hg))
          have HO9 := hid (HOc.out.put HNy.out HBy.out HGx.out)
          have HB9 := hid (put_below HBc.out HNy.out HBy.out HGx.out)
          have HBB := hid (HB8.out.trans (HB9.out.mono HB8.out.size))
          clear HM HMc HOc HBc HMy HNy HBy HGx HKB
          have HM := HMx
          clear HMx
          go_upto_region 11 with (first | ((with_reducible refine wl_id ?_); refine m_loadS HM.out rfl rfl rfl (.tail _ (.tail _ (.head _))) (scrL s (.slice i1 s.ms.length i2) (.slice i3 s.os.length i4) (.slice i5 s.tabs.length i6)) rfl Tryd.underlying37 rfl (by kernel_rfl) ?_; simp only [Act.put, List.setIfInBounds_toArray, List.set_cons_zero, List.set_cons_succ]) | (go_at_call 33; (with_reducible refine (HKD.out _ HBB.out).mono ?_); rintro e wc10 ⟨A110, k110, A210, k210, A310, k310, rfl, hO, hB⟩; have HMc := hid (HM.out.call hB); have HOc := hid hO; have HBc := hid hB; clear hO hB) | ((with_reducible refine wl_id ?_); refine m_allocB HMc.out rfl rfl info_zS ?_; intro b10 wy10 hbn hBy hM; simp only [Act.put, List.setIfInBounds_toArray, List.set_cons_zero, List.set_cons_succ]; have HMy := hid hM; have HNy := hid hbn; have HBy := hid hBy; clear hM hbn hBy) | ((with_reducible refine wl_id ?_); refine m_storeAG HMy.out rfl rfl rfl 0 rfl rfl rfl (by kernel_rfl) rfl ?_; intro wx10 hM hg; simp only [Act.put, List.setIfInBounds_toArray, List.set_cons_zero, List.set_cons_succ]; simp only [List.set_cons_succ, List.set_cons_zero] at hM; have HMx := hid hM; have HGx := hid hg; clear hM hg))
          have HO10 := hid (HOc.out.put HNy.out HBy.out HGx.out)
          have HB10 := hid (put_below HBc.out HNy.out HBy.out HGx.out)
          clear HM HMc HOc HBc HMy HNy HBy HGx HKD
          have HM := HMx
          clear HMx
          have hsm : RB.small := by rw [← HRBe.out]; exact kR_small (small_keep HSM.out)
          obtain ⟨RK, hRK⟩ : ∃ R, kR RB (backS RB) = R := ⟨_, rfl⟩
          obtain ⟨ek, hek⟩ : ∃ e, kE RB = e := ⟨_, rfl⟩
          have HKK : Hid (∀ W, Below wx10.heap.size wx10 W → Calls Tryd.prog 33 #[.agg (scrL RB (.slice A19 RB.ms.length k19) (.slice A29 RB.os.length k29) (.slice A39 RB.tabs.length k39)).toArray] W fun e w' => KeepPost W RK ek e w') := hid fun W hW => by
            have h1 := (HO9.out.below HB10.out).rd hsm
            have h2 := HM.out.below
            have := kRest (h1.below hW) (HT.out W (h2.trans (hW.mono h2.size)))
            rwa [hRK, hek] at this
          have HRK := hid hRK
          have HEK := hid hek
          have HBR := hid (Below.refl wx10.heap.size wx10)
          clear hRK hek hsm
          go_upto_region 12 with (first | ((with_reducible refine wl_id ?_); refine m_loadS HM.out rfl rfl rfl (.tail _ (.head _)) (scrL RB (.slice A19 RB.ms.length k19) (.slice A29 RB.os.length k29) (.slice A39 RB.tabs.length k39)) rfl Tryd.underlying37 rfl (by kernel_rfl) ?_; simp only [Act.put, List.setIfInBounds_toArray, List.set_cons_zero, List.set_cons_succ]) | (go_at_call 33; (with_reducible refine (HKK.out _ HBR.out).mono ?_); rintro e wc11 ⟨A111, k111, A211, k211, A311, k311, rfl, hO, hB⟩; have HMc := hid (HM.out.call hB); have HOc := hid hO; have HBc := hid hB; clear hO hB) | ((with_reducible refine wl_id ?_); refine m_allocB HMc.out rfl rfl info_zS ?_; intro b11 wy11 hbn hBy hM; simp only [Act.put, List.setIfInBounds_toArray, List.set_cons_zero, List.set_cons_succ]; have HMy := hid hM; have HNy := hid hbn; have HBy := hid hBy; clear hM hbn hBy) | ((with_reducible refine wl_id ?_); refine m_storeAG HMy.out rfl rfl rfl 0 rfl rfl rfl (by kernel_rfl) rfl ?_; intro wx11 hM hg; simp only [Act.put, List.setIfInBounds_toArray, List.set_cons_zero, List.set_cons_succ]; simp only [List.set_cons_succ, List.set_cons_zero] at hM; have HMx := hid hM; have HGx := hid hg; clear hM hg))
          have HO11 := hid (HOc.out.put HNy.out HBy.out HGx.out)
          have HB11 := hid (put_below HBc.out HNy.out HBy.out HGx.out)
          clear HM HMc HOc HBc HMy HNy HBy HGx HKK HBR
          have HM := HMx
          clear HMx
          go_upto_region 13 with (first | ((with_reducible refine wl_id ?_); refine m_allocB HMb.out rfl rfl info_zS ?_; intro b16 w16 hbn hBy hM; simp only [Act.put, List.setIfInBounds_toArray, List.set_cons_zero, List.set_cons_succ]; have HMc := hid hM; have HN16 := hid hbn; have HB16 := hid hBy; clear hM hbn hBy) | ((with_reducible refine wl_id ?_); refine m_allocB HMa.out rfl rfl info_zS ?_; intro b15 w15 hbn hBy hM; simp only [Act.put, List.setIfInBounds_toArray, List.set_cons_zero, List.set_cons_succ]; have HMb := hid hM; have HN15 := hid hbn; have HB15 := hid hBy; clear hM hbn hBy) | ((with_reducible refine wl_id ?_); refine m_allocB HM.out rfl rfl info_zS ?_; intro b14 w14 hbn hBy hM; simp only [Act.put, List.setIfInBounds_toArray, List.set_cons_zero, List.set_cons_succ]; have HMa := hid hM; have HN14 := hid hbn; have HB14 := hid hBy; clear hM hbn hBy))
          have HL15 := hid (Nat.le_trans HB14.out.size HN15.out)
          have HB15b := hid (HB14.out.trans (HB15.out.mono HB14.out.size))
          have HL16 := hid (Nat.le_trans HB15b.out.size HN16.out)
          have HB16b := hid (HB15b.out.trans (HB16.out.mono HB15b.out.size))
          clear HM HMa HMb HB14 HB15 HB16 HN15 HN16 HB15b
          have HM := HMc
          clear HMc
          have hsA : RA.small := by rw [← HRA.out]; exact kR_small (small_toS HSM.out _ _ _)
          have hsB : RB.small := by rw [← HRBe.out]; exact kR_small (small_keep HSM.out)
          have hsD : RD.small := by rw [← HRD.out]; exact kR_small (small_back HSM.out)
          have HSA := hid hsA
          have HSB := hid hsB
          have HSD := hid hsD
          clear hsA hsB hsD
          have HB89 := hid (HB8.out.trans (HB9.out.mono HB8.out.size))
          have HB911 := hid (HB10.out.trans (HB11.out.mono HB10.out.size))
          cases may with
          | true =>
            have eA : toS s 72 1 1 = RA := by rw [← HRA.out, kR, if_pos HMAY.out]
            have eB : keepS s = RB := by rw [← HRBe.out, kR, if_pos HMAY.out]
            have eD : backS s = RD := by rw [← HRD.out, kR, if_pos HMAY.out]
            have eE : ec = 0 := by rw [← HEC.out, kE, if_pos HMAY.out]
            have hBok : scrB RB = true := by rw [← eB]; exact scrB_keep HMAY.out
            have eK : ek = 0 := by rw [← HEK.out, kE, if_pos hBok]
            have hcur : RK.cur = s.cur := by rw [← HRK.out, kR, if_pos hBok, ← eB]; exact kept_keep s
            have HXX : Hid (∀ W, Below w.heap.size w W → Calls Tryd.prog 34 #[.agg (scrL s m0 o0 t0).toArray] W fun e w' => RefPost W RA e w') := hid fun W hW => by
              have := rhome_any (HRS.out W hW) HMAY.out
              rwa [eA] at this
            have HYY : Hid (∀ W, Below w.heap.size w W → Calls Tryd.prog 35 #[.agg (scrL s m0 o0 t0).toArray] W fun e w' => RefPost W RB e w') := hid fun W hW => by
              have := rsave_any (HRS.out W hW)
              rwa [eB] at this
            have HZZ : Hid (∀ W, Below w.heap.size w W → Calls Tryd.prog 36 #[.agg (scrL s m0 o0 t0).toArray] W fun e w' => RefPost W RD e w') := hid fun W hW => by
              have := rrest_any (HRS.out W hW)
              rwa [eD] at this
            have HCU := hid hcur
            subst eK
            subst eE
            clear eA eB eD hBok hcur
            go_upto_region 14 with (fail)
            refine qreg14_is HM.out hlt HEL.out HB16b.out HN14.out HL15.out HL16.out HXX.out HYY.out HZZ.out (fun _ _ _ _ _ h => by simp +zetaDelta only [Exit.then, Exit.inBlock] at h ⊢; exact h) _ _ _ _ _ _ _ _ _ _ _ _ _ _ _ _ _ _ _ _ _ _ _ _ _ _ _ _ _ _ _ _ _ _ _ _ _ _ _ _ _ _ _ _ _ _ _ _ _ _ _ _ _ _ _ _ _ _ _ _ _ _ _ _ _ _ _ _ _ _ _ _ _ _ _ _ _ _ _ _ _ _ _ _ _ _ _ _ _ _ _ _ _ _ _ _ _ _ _ _ _ _ _ _ _ _ _ _ _ _ _ _ _ _ _ _ _ _ _ _ _ _ _ _ _ _ _ _ _ _ _ ?_
            rintro w17 x1 x2 x3 x4 x5 x6 y1 y2 y3 y4 y5 y6 z1 z2 z3 z4 z5 z6 v63 v64 v65 v66 v67 v68 v69 v70 v71 v72 v73 v74 v75 v76 v77 v78 v79 v80 hM hX hY hZ hB
            conv => zeta
            have HM17 := hid hM
            have HOX := hid hX
            have HOY := hid hY
            have HOZ := hid hZ
            have HB17 := hid hB
            clear hM hX hY hZ hB HXX HYY HZZ HM
            have HM := HM17
            clear HM17
            go_upto_region 15 with (fail)
            refine qreg15_is HM.out hlt HEL.out HCU.out _ _ _ _ _ _ _ _ _ _ _ _ _ _ _ _ _ _ _ _ _ _ _ _ _ _ _ _ _ _ _ _ _ _ _ _ _ _ _ _ _ _ _ _ _ _ _ _ _ _ _ _ _ _ _ _ _ _ _ _ _ _ _ _ _ _ _ _ _ _ _ _ _ _ _ _ _ _ _ _ _ _ _ _ _ _ _ _ _ _ _ _ _ _ _ _ _ _ _ _ _ _ _ _ _ _ _ _ _ _ _ _ _ _ _ _ _ _ _ _ _ _ _ _ _ _ _ _ _ _ _ _ ?_
            rintro w18 q81 q82 q83 q84 q85 q86 q87 q88 q89 q90 q91 q92 q93 hM hB
            conv => zeta
            have HM18 := hid hM
            have HOX2 := hid (HOX.out.below hB)
            have HOY2 := hid (HOY.out.below hB)
            have HOZ2 := hid (HOZ.out.below hB)
            have HB18 := hid (HB17.out.trans (hB.mono HB17.out.size))
            clear hM hB HM HOX HOY HOZ HB17
            have HM := HM18
            clear HM18
            go_upto_region 17 with (fail)
            have HBz := hid (HB911.out.trans (HB18.out.mono HB911.out.size))
            have HB9z := hid (HB9.out.trans (HBz.out.mono HB9.out.size))
            have HBBz := hid (HB8.out.trans (HB9z.out.mono HB8.out.size))
            have hD : Below w18.heap.size w18 w18.drew := (Below.refl _ _).drew
            have h916 := Nat.le_trans HB911.out.size HB16b.out.size
            have h816 := Nat.le_trans HB9.out.size h916
            have hlk := keeps_looks (may := true) (ec := 0) (.inl ⟨rfl, rfl⟩) HM.out.drew HBW.out.size HB8.out.size HB9.out.size (by
              intro x hx
              repeat (rcases List.mem_cons.1 hx with rfl | hx; · exact ⟨_, _, rfl, rfl, rfl⟩)
              cases hx) (HBBz.out.trans (hD.mono HBBz.out.size)) HIN.out HRB.out HO8.out HO9.out ((HO8.out.below HB9z.out).below hD) ((HOX2.out.below hD).rd HSA.out) ((HO9.out.below HBz.out).below hD) ((HOY2.out.below hD).low h816) (((HO10.out.below HB11.out).below HB18.out).below hD) ((HOZ2.out.below hD).low h916) HSA.out HSB.out HSD.out
            obtain ⟨hl1, hl2, hl3⟩ := hlk
            refine qreg17_is HM.out hlt rfl rfl rfl rfl rfl rfl rfl HEL.out hl1 hl2 hl3 (fun W hW => hW.1.1) (fun W hW => hW.1) (fun _ _ _ _ _ h => by simp +zetaDelta only [Exit.then, Exit.inBlock] at h ⊢; exact h) _ _ _ _ _ _ _ _ _ _ _ _ _ _ _ _ _ _ _ _ _ _ _ _ _ _ _ _ _ _ _ _ _ _ _ _ _ _ _ _ _ _ _ _ _ _ _ _ _ _ _ _ _ _ _ _ _ _ _ _ _ _ _ _ _ _ _ _ _ _ _ _ _ _ _ _ _ _ _ _ _ _ _ _ _ _ _ _ _ _ _ _ _ _ _ _ _ _ _ _ _ _ _ _ _ _ _ _ _ _ _ _ _ _ _ _ _ _ _ _ _ _ _ ?_
            rintro w19 p95 p96 p97 p98 p99 p100 p101 p102 p103 p104 p105 p106 p107 p108 p109 p110 p111 p112 p113 p114 p115 p116 p117 p118 p119 p120 p121 p122 p123 p124 p125 p126 p127 p128 p129 p130 p131 p132 p133 hM
            conv => zeta
            have HM19 := hid hM
            clear hM hl1 hl2 hl3 hD h916 h816
            go_wp2
            go_roundw
            case rel => exact ⟨ii + 1, by go_num, by omega, by omega, hid (HM19.out.sub (by repeat (first | exact List.Sublist.refl _ | apply List.Sublist.cons)))⟩
            case measure => simp [intOf]; omega
          | false =>
            have hn : ¬ scrB s = true := by rw [HMAY.out]; decide
            have eA : RA = zS := by rw [← HRA.out, kR, if_neg hn]
            have eB : RB = zS := by rw [← HRBe.out, kR, if_neg hn]
            have eD : RD = zS := by rw [← HRD.out, kR, if_neg hn]
            have eE : ec = 1 := by rw [← HEC.out, kE, if_neg hn]
            subst eA
            subst eB
            subst eD
            subst eE
            clear hn
            go_upto_region 17 with (fail)
            have HBz := hid (HB911.out.trans (HB16b.out.mono HB911.out.size))
            have HB9z := hid (HB9.out.trans (HBz.out.mono HB9.out.size))
            have HBBz := hid (HB8.out.trans (HB9z.out.mono HB8.out.size))
            have hD : Below w16.heap.size w16 w16.drew := (Below.refl _ _).drew
            have h916 := Nat.le_refl 0
            have h816 := Nat.le_refl 0
            have hlk := keeps_looks (may := false) (ec := 1) (.inr ⟨rfl, rfl, rfl, rfl, rfl⟩) HM.out.drew HBW.out.size HB8.out.size HB9.out.size (by
              intro x hx
              repeat (rcases List.mem_cons.1 hx with rfl | hx; · exact ⟨_, _, rfl, rfl, rfl⟩)
              cases hx) (HBBz.out.trans (hD.mono HBBz.out.size)) HIN.out HRB.out HO8.out HO9.out ((HO8.out.below HB9z.out).below hD) (zS_rd _) ((HO9.out.below HBz.out).below hD) (zS_own _ _) (((HO10.out.below HB11.out).below HB16b.out).below hD) (zS_own _ _) HSA.out HSB.out HSD.out
            obtain ⟨hl1, hl2, hl3⟩ := hlk
            refine qreg17_is HM.out hlt rfl rfl rfl rfl rfl rfl rfl HEL.out hl1 hl2 hl3 (fun W hW => hW.1.1) (fun W hW => hW.1) (fun _ _ _ _ _ h => by simp +zetaDelta only [Exit.then, Exit.inBlock] at h ⊢; exact h) _ _ _ _ _ _ _ _ _ _ _ _ _ _ _ _ _ _ _ _ _ _ _ _ _ _ _ _ _ _ _ _ _ _ _ _ _ _ _ _ _ _ _ _ _ _ _ _ _ _ _ _ _ _ _ _ _ _ _ _ _ _ _ _ _ _ _ _ _ _ _ _ _ _ _ _ _ _ _ _ _ _ _ _ _ _ _ _ _ _ _ _ _ _ _ _ _ _ _ _ _ _ _ _ _ _ _ _ _ _ _ _ _ _ _ _ _ _ _ _ _ _ _ ?_
            rintro w19 p95 p96 p97 p98 p99 p100 p101 p102 p103 p104 p105 p106 p107 p108 p109 p110 p111 p112 p113 p114 p115 p116 p117 p118 p119 p120 p121 p122 p123 p124 p125 p126 p127 p128 p129 p130 p131 p132 p133 hM
            conv => zeta
            have HM19 := hid hM
            clear hM hl1 hl2 hl3 hD h916 h816
            go_wp2
            go_roundw
            case rel => exact ⟨ii + 1, by go_num, by omega, by omega, hid (HM19.out.sub (by repeat (first | exact List.Sublist.refl _ | apply List.Sublist.cons)))⟩
            case measure => simp [intOf]; omega
        · have h42 : ¬ (ii : Int) < 4 := by omega
          go_wp2_with (first | ((with_reducible refine wl_id ?_); refine m_load HM.out rfl rfl rfl (by first | exact .head _ | exact .tail _ (.head _) | exact .tail _ (.tail _ (.head _)) | exact .tail _ (.tail _ (.tail _ (.head _))) | exact .tail _ (.tail _ (.tail _ (.tail _ (.head _)))) | exact .tail _ (.tail _ (.tail _ (.tail _ (.tail _ (.head _))))) | exact .tail _ (.tail _ (.tail _ (.tail _ (.tail _ (.tail _ (.head _)))))) | exact .tail _ (.tail _ (.tail _ (.tail _ (.tail _ (.tail _ (.tail _ (.head _)))))))) rfl Tryd.underlying22 rfl ?_; simp only [Act.put, List.setIfInBounds_toArray, List.set_cons_zero, List.set_cons_succ]) | (go_at_call 29; (with_reducible refine (wakes10_any _ (HT.out _ HM.out.below)).mono ?_); rintro e w3 ⟨rfl, hB⟩; have HM2 := hid (HM.out.call hB); clear hB))
          go_ret
          exact ⟨rfl, HM2.out.below⟩
      · have hlt2 : ¬ (ii : Int) < (L.length : Int) := by omega
        go_wp2_with (first | ((with_reducible refine wl_id ?_); refine m_load HM.out rfl rfl rfl (by first | exact .head _ | exact .tail _ (.head _) | exact .tail _ (.tail _ (.head _)) | exact .tail _ (.tail _ (.tail _ (.head _))) | exact .tail _ (.tail _ (.tail _ (.tail _ (.head _)))) | exact .tail _ (.tail _ (.tail _ (.tail _ (.tail _ (.head _))))) | exact .tail _ (.tail _ (.tail _ (.tail _ (.tail _ (.tail _ (.head _)))))) | exact .tail _ (.tail _ (.tail _ (.tail _ (.tail _ (.tail _ (.tail _ (.head _)))))))) rfl Tryd.underlying22 rfl ?_; simp only [Act.put, List.setIfInBounds_toArray, List.set_cons_zero, List.set_cons_succ]) | (go_at_call 29; (with_reducible refine (wakes10_any _ (HT.out _ HM.out.below)).mono ?_); rintro e w3 ⟨rfl, hB⟩; have HM2 := hid (HM.out.call hB); clear hB))
        go_ret
        exact ⟨rfl, HM2.out.below⟩
end Go.Proofs.YtbjckahaalbpaaaDoor
