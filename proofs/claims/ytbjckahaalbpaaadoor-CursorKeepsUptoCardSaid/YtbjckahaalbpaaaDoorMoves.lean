/- By some keys, from each screen: the law's loops. -/
import Derived.Test.YtbjckahaalbpaaaDoorReg3
set_option linter.unusedVariables false
set_option linter.unusedSimpArgs false
set_option linter.unnecessarySimpa false
namespace Go.Proofs.YtbjckahaalbpaaaDoor
open Go Go.RowKit Go.Proofs.YtbjckahaalbpaaaDoorW.PrintLast

theorem nsL_at (n : Int) (j : Nat) (hj : j < 6) : ∃ nj, (nsL n)[j]? = some (.int .i64 nj) := by
  match j, hj with
  | 0, _ => exact ⟨_, rfl⟩
  | 1, _ => exact ⟨_, rfl⟩
  | 2, _ => exact ⟨_, rfl⟩
  | 3, _ => exact ⟨_, rfl⟩
  | 4, _ => exact ⟨_, rfl⟩
  | 5, _ => exact ⟨_, rfl⟩
noncomputable def mayMove (s : Scr) (key nj mv : Int) : Bool := scrB s && moveKey key && numOk nj && numOk mv
noncomputable def outS (s : Scr) (key nj mv : Int) : Scr := if mayMove s key nj mv = true then toS s key (max 1 nj) (max 1 mv) else zS
noncomputable def outE (s : Scr) (key nj mv : Int) : Int := if mayMove s key nj mv = true then 0 else 1
theorem small_toS {s : Scr} (h : s.small) (key n k : Int) : (toS s key n k).small := by
  have e := toS_keeps s key n k
  obtain ⟨h1, h2, h3, h4, h5, h6⟩ := h
  exact ⟨by rw [e.1]; exact h1, by rw [e.2.1]; exact h2, by rw [e.2.2.1]; exact h3, by rw [e.2.2.2]; exact h4, by rw [e.1]; exact h5, by rw [e.2.1]; exact h6⟩
theorem outS_small {s : Scr} (h : s.small) (key n k : Int) : (outS s key n k).small := by
  unfold outS
  split
  · exact small_toS h _ _ _
  · exact zS_small
theorem moveOut_is {s : Scr} {mi oi ti : Value} {key nj mv : Int} {W : World} (hr : RdScr W s mi oi ti) (hT : U8 W) : MoveOut s mi oi ti key nj mv (outS s key nj mv) (outE s key nj mv) W := by
  unfold MoveOut outS outE
  by_cases h : mayMove s key nj mv = true
  · rw [if_pos h, if_pos h]
    simp only [mayMove, Bool.and_eq_true] at h
    refine (move_good hr hT h.1.1.1 h.1.2 h.2 h.1.1.2).mono ?_
    rintro e w' ⟨m', o', t', rfl, hO, hB⟩
    obtain ⟨A1, k1, rfl⟩ := hO.hm.slice
    obtain ⟨A2, k2, rfl⟩ := hO.ho.slice
    obtain ⟨A3, k3, rfl⟩ := ownB_slice hO.ht
    exact ⟨A1, k1, A2, k2, A3, k3, rfl, hO, hB⟩
  · rw [if_neg h, if_neg h]
    refine (move_bad hr hT ?_).mono ?_
    · have h2 : mayMove s key nj mv = false := by simpa using h
      simp only [mayMove] at h2
      revert h2
      cases scrB s <;> cases moveKey key <;> cases numOk nj <;> cases numOk mv <;> simp
    · rintro e w' ⟨rfl, hB⟩
      exact ⟨none, 0, none, 0, none, 0, rfl, zS_own _ _, hB⟩

set_option maxRecDepth 100000 in
set_option maxHeartbeats 8000000 in
theorem moves_any {L : List SV} {v kv : Value} {n m k r : Int} {keys : List Int} {w : World} (hv : RdSS w v L) (hL : L.length ≤ 1048576) (hk : RdI w kv keys) (hkl : keys.length ≤ 1048576) (hT : U8 w) :
    Calls Tryd.prog 21 #[.agg (askL v n m k r).toArray, kv] w fun e w' => e = .returned (.bool true) ∧ Below w.heap.size w w' := by
  have HV : Hid (∀ W, Below w.heap.size w W → RdSS W v L) := hid fun W hW => hv.below hW
  have HK : Hid (∀ W, Below w.heap.size w W → RdI W kv keys) := hid fun W hW => hk.below hW
  have HT : Hid (∀ W, Below w.heap.size w W → U8 W) := hid fun W hW => hT.below hW
  obtain ⟨A, c, rfl, hc, -⟩ := hv
  obtain ⟨B, kc, rfl, hkc, -⟩ := hk.open_
  have HX := hid (Mem.start w)
  clear hk hT
  go_enter Tryd.func21, Tryd.ntmps21
  go_upto_region 0 with (fail)
  refine wp_region_lit ?_
  refine m_box HX.out rfl rfl rfl ?_
  intro b w1 hM
  simp only [Act.put, List.setIfInBounds_toArray, List.set_cons_zero, List.set_cons_succ]
  have HM := hid hM
  clear hM HX
  go_wp2_with (first | ((with_reducible refine wl_id ?_); refine m_loadS HM.out rfl rfl rfl (by first | exact .head _ | exact .tail _ (.head _) | exact .tail _ (.tail _ (.head _)) | exact .tail _ (.tail _ (.tail _ (.head _))) | exact .tail _ (.tail _ (.tail _ (.tail _ (.head _)))) | exact .tail _ (.tail _ (.tail _ (.tail _ (.tail _ (.head _))))) | exact .tail _ (.tail _ (.tail _ (.tail _ (.tail _ (.tail _ (.head _)))))) | exact .tail _ (.tail _ (.tail _ (.tail _ (.tail _ (.tail _ (.tail _ (.head _)))))))) (askL (.slice A L.length c) n m k r) rfl Tryd.underlying24 rfl (by kernel_rfl) ?_; simp only [Act.put, List.setIfInBounds_toArray, List.set_cons_zero, List.set_cons_succ]) | (go_at_call 22; fail))
  refine (heavy_any (HV.out _ HM.out.below) hL).mono ?_
  rintro e w2 ⟨x, rfl, hB⟩
  have HM2 := hid (HM.out.call hB)
  clear HM hB
  have HM := HM2
  clear HM2
  cases x with
  | true =>
    go_wp2
    go_ret
    exact ⟨rfl, HM.out.below⟩
  | false =>
    go_wp2_with (fail)
    go_loopw [5] (fun i wr => ∃ ii : Nat, i = .int .i64 ii ∧ ii ≤ L.length ∧ ii ≤ 4 ∧ Hid (Mem w wr [(b, Row 24 (askL (.slice A L.length c) n m k r))])) (fun i _ => 4 - (intOf i).toNat)
    case atStart => exact ⟨0, rfl, Nat.zero_le _, by omega, HM⟩
    case round =>
      obtain ⟨ii, rfl, hi1, hi2, HMr⟩ := hrel
      clear HM
      have HM := HMr
      clear HMr
      by_cases hlt : ii < L.length
      · have hlt2 : (ii : Int) < (L.length : Int) := by omega
        by_cases h4 : ii < 4
        · have h42 : (ii : Int) < 4 := by omega
          go_wp2_with (first | ((with_reducible refine wl_id ?_); refine m_load HM.out rfl rfl rfl (by first | exact .head _ | exact .tail _ (.head _) | exact .tail _ (.tail _ (.head _)) | exact .tail _ (.tail _ (.tail _ (.head _))) | exact .tail _ (.tail _ (.tail _ (.tail _ (.head _)))) | exact .tail _ (.tail _ (.tail _ (.tail _ (.tail _ (.head _))))) | exact .tail _ (.tail _ (.tail _ (.tail _ (.tail _ (.tail _ (.head _)))))) | exact .tail _ (.tail _ (.tail _ (.tail _ (.tail _ (.tail _ (.tail _ (.head _)))))))) rfl Tryd.underlying22 rfl ?_; simp only [Act.put, List.setIfInBounds_toArray, List.set_cons_zero, List.set_cons_succ]))
          obtain ⟨A', c', e1, -, hcells⟩ := HV.out w (Below.refl _ _)
          obtain ⟨sb, so, e2, hel0, hrs0⟩ := hcells ii hlt
          cases e1
          subst e2
          obtain ⟨sv, hsv⟩ : ∃ sv, L[ii] = sv := ⟨_, rfl⟩
          rw [hsv] at hel0 hrs0
          obtain ⟨s, m0, o0, t0⟩ := sv
          have HEL : Hid (∀ W, Below w.heap.size w W → ∀ q u, (scrL s m0 o0 t0)[q]? = some u → W.cell? ⟨sb, so + ii * 43 + q, none⟩ = some u) := hid fun W hW q u hq => cell_below hW (hel0 q u hq)
          have HRS : Hid (∀ W, Below w.heap.size w W → RdScr W s m0 o0 t0) := hid fun W hW => hrs0.below hW
          have HSM := hid hrs0.2.2.2
          clear hcells hel0 hrs0 hsv
          obtain ⟨wo, rfl⟩ : ∃ wo : World, wo = wr := ⟨_, rfl⟩
          go_loopw [6] (fun x wr => ∃ kk : Nat, x = .int .i64 kk ∧ kk ≤ keys.length ∧ Hid (Mem w wr [(b, Row 24 (askL (.slice (some ⟨sb, so, none⟩) L.length c) n m k r))])) (fun x _ => keys.length - (intOf x).toNat)
          case atStart => exact ⟨0, rfl, Nat.zero_le _, HM⟩
          case round =>
            obtain ⟨kk, rfl, hkk1, HMr⟩ := hrel
            clear HM
            have HM := HMr
            clear HMr
            by_cases hkk : kk < keys.length
            · have hkk2 : (kk : Int) < (keys.length : Int) := by omega
              obtain ⟨B', kc', e1, -, hkcells⟩ := (HK.out w (Below.refl _ _)).open_
              cases e1
              obtain ⟨kb, ko, e2, hkc0⟩ := hkcells w (Below.refl _ _) kk hkk
              subst e2
              obtain ⟨key, hkey⟩ : ∃ key, keys.getD kk 0 = key := ⟨_, rfl⟩
              rw [hkey] at hkc0
              have HKC : Hid (∀ W, Below w.heap.size w W → W.cell? ⟨kb, ko + kk, none⟩ = some (.int .i64 key)) := hid fun W hW => cell_below hW hkc0
              clear hkcells hkc0 hkey
              go_upto_region 9 with (fail)
              refine mreg9_is HM.out (fun _ _ _ _ _ h => by simp +zetaDelta only [Exit.then, Exit.inBlock] at h ⊢; exact h) _ _ _ _ _ _ _ _ _ _ _ _ _ _ _ _ _ _ _ _ _ _ _ _ _ _ _ _ _ _ _ _ _ _ _ _ _ _ _ _ _ _ _ _ _ _ _ _ _ _ _ _ _ _ _ _ _ _ _ _ _ _ _ _ _ _ _ _ _ _ _ _ _ _ _ _ _ _ _ _ _ _ _ _ _ _ _ _ _ _ _ _ _ _ _ _ _ _ _ _ _ _ _ _ _ _ _ _ _ _ _ _ _ _ _ _ _ _ _ _ _ _ _ _ _ _ _ _ _ ?_
              rintro w9 g v34 v35 v36 v37 v38 v39 hM
              conv => zeta
              have HM9 := hid hM
              clear hM HM
              have HM := HM9
              clear HM9
              go_wp2_with (fail)
              obtain ⟨wm, rfl⟩ : ∃ wm : World, wm = w9 := ⟨_, rfl⟩
              go_loopw [8] (fun x wr => ∃ j : Nat, x = .int .i64 j ∧ j ≤ 6 ∧ Hid (Mem w wr [(g, Row 3 (nsL n)), (b, Row 24 (askL (.slice (some ⟨sb, so, none⟩) L.length c) n m k r))])) (fun x _ => 6 - (intOf x).toNat)
              case atStart => exact ⟨0, rfl, by omega, HM⟩
              case round =>
                obtain ⟨j, rfl, hj1, HMr⟩ := hrel
                clear HM
                have HM := HMr
                clear HMr
                by_cases hj : j < 6
                · have hj2 : (j : Int) < 6 := by omega
                  obtain ⟨nj, hnj⟩ := nsL_at n j hj
                  have HNJ := hid hnj
                  clear hnj
                  go_upto_region 13 with (fail)
                  refine mreg13_is HM.out hj (fun _ _ _ _ _ h => by simp +zetaDelta only [Exit.then, Exit.inBlock] at h ⊢; exact h) _ _ _ _ _ _ _ _ _ _ _ _ _ _ _ _ _ _ _ _ _ _ _ _ _ _ _ _ _ _ _ _ _ _ _ _ _ _ _ _ _ _ _ _ _ _ _ _ _ _ _ _ _ _ _ _ _ _ _ _ _ _ _ _ _ _ _ _ _ _ _ _ _ _ _ _ _ _ _ _ _ _ _ _ _ _ _ _ _ _ _ _ _ _ _ _ _ _ _ _ _ _ _ _ _ _ _ _ _ _ _ _ _ _ _ _ _ _ _ _ _ _ _ _ _ _ _ _ ?_
                  rintro w13 mv v46 v47 v48 v49 v50 v51 v52 v53 v54 v55 hM
                  conv => zeta
                  have HM13 := hid hM
                  clear hM HM
                  have HM := HM13
                  clear HM13
                  go_wp2_with (first | ((with_reducible refine wl_id ?_); refine m_load HM.out rfl rfl rfl (by first | exact .head _ | exact .tail _ (.head _) | exact .tail _ (.tail _ (.head _)) | exact .tail _ (.tail _ (.tail _ (.head _))) | exact .tail _ (.tail _ (.tail _ (.tail _ (.head _)))) | exact .tail _ (.tail _ (.tail _ (.tail _ (.tail _ (.head _))))) | exact .tail _ (.tail _ (.tail _ (.tail _ (.tail _ (.tail _ (.head _)))))) | exact .tail _ (.tail _ (.tail _ (.tail _ (.tail _ (.tail _ (.tail _ (.head _)))))))) rfl Tryd.underlying22 rfl ?_; simp only [Act.put, List.setIfInBounds_toArray, List.set_cons_zero, List.set_cons_succ]) | ((with_reducible refine wl_id ?_); refine m_any rfl rfl rfl (load_sl (HEL.out _ HM.out.below)) ?_; simp only [Act.put, List.setIfInBounds_toArray, List.set_cons_zero, List.set_cons_succ]) | (go_at_call 30; fail))
                  refine (copyS_l (HRS.out _ HM.out.below)).mono ?_
                  rintro e w14 ⟨mi, oi, ti, rfl, hO, hB⟩
                  obtain ⟨I1, i1, rfl⟩ := hO.hm.slice
                  obtain ⟨I2, i2, rfl⟩ := hO.ho.slice
                  obtain ⟨I3, i3, rfl⟩ := ownB_slice hO.ht
                  have HO14 := hid hO
                  have HM14 := hid (HM.out.call hB)
                  clear hO hB HM
                  have HM := HM14
                  clear HM14
                  go_upto_region 15 with (first | ((with_reducible refine wl_id ?_); refine m_allocB HM.out rfl rfl info_zS ?_; intro bin wy hbn hBy hM; simp only [Act.put, List.setIfInBounds_toArray, List.set_cons_zero, List.set_cons_succ]; have HMy := hid hM; have HBN := hid hbn; have HBy := hid hBy; clear hM hbn hBy) | ((with_reducible refine wl_id ?_); refine m_storeAG HMy.out rfl rfl rfl 0 rfl rfl rfl (by kernel_rfl) rfl ?_; intro wx hM hg; simp only [Act.put, List.setIfInBounds_toArray, List.set_cons_zero, List.set_cons_succ]; simp only [List.set_cons_succ, List.set_cons_zero] at hM; have HMx := hid hM; have HGx := hid hg; clear hM hg))
                  have hO14 := HO14.out.below HBy.out
                  have HIN := hid (show RdScr wx s (.slice I1 s.ms.length i1) (.slice I2 s.os.length i2) (.slice I3 s.tabs.length i3) from OwnScr.rd (base := w13.heap.size) ⟨hO14.hm.kept HGx.out (own_lt HO14.out.hm HBN.out), hO14.ho.kept HGx.out (own_lt HO14.out.ho HBN.out), hO14.ht.kept HGx.out (own_lt HO14.out.ht HBN.out), hO14.mo, hO14.mt, hO14.ot⟩ HSM.out)
                  clear hO14 HM HMy HBN HBy HGx HO14
                  have HM := HMx
                  clear HMx
                  have HS0 := hid (HRS.out _ HM.out.below)
                  have HMB := hid (HM.out.sub (List.sublist_cons_self _ _))
                  have HBX := hid HM.out.below
                  obtain ⟨R, hR⟩ : ∃ R, outS s key nj mv = R := ⟨_, rfl⟩
                  obtain ⟨ec, hec⟩ : ∃ ec, outE s key nj mv = ec := ⟨_, rfl⟩
                  obtain ⟨my, hmy⟩ : ∃ my, mayMove s key nj mv = my := ⟨_, rfl⟩
                  have HMO : Hid (∀ W, Below wx.heap.size wx W → MoveOut s (.slice I1 s.ms.length i1) (.slice I2 s.os.length i2) (.slice I3 s.tabs.length i3) key nj mv R ec W) := hid fun W hW => by
                    have h := moveOut_is (key := key) (nj := nj) (mv := mv) (HIN.out.below hW) (HT.out W (HBX.out.trans (hW.mono HBX.out.size)))
                    rwa [hR, hec] at h
                  have HRSM : Hid R.small := hid (hR ▸ outS_small HSM.out key nj mv)
                  have HR := hid hR
                  have HEC := hid hec
                  have HMAY := hid hmy
                  clear hR hec hmy
                  refine mreg15_is HM.out hj HNJ.out hkk HKC.out HMO.out (fun _ _ _ _ _ h => by simp +zetaDelta only [Exit.then, Exit.inBlock] at h ⊢; exact h) _ _ _ _ _ _ _ _ _ _ _ _ _ _ _ _ _ _ _ _ _ _ _ _ _ _ _ _ _ _ _ _ _ _ _ _ _ _ _ _ _ _ _ _ _ _ _ _ _ _ _ _ _ _ _ _ _ _ _ _ _ _ _ _ _ _ _ _ _ _ _ _ _ _ _ _ _ _ _ _ _ _ _ _ _ _ _ _ _ _ _ _ _ _ _ _ _ _ _ _ _ _ _ _ _ _ _ _ _ _ _ _ _ _ _ _ _ _ _ _ _ _ _ ?_
                  rintro w15 bx X1 q1 X2 q2 X3 q3 v63 v64 v65 v66 v67 v68 v69 v70 v71 v72 v73 v74 v75 hM hO hB
                  conv => zeta
                  have HO15 := hid hO
                  have HB15 := hid hB
                  have HM15 := hid hM
                  clear hM hO hB HM HMO
                  have HM := HM15
                  clear HM15
                  go_upto_region 16 with (fail)
                  refine mreg16_is (b1 := scrB s) (b2 := moveKey key) (b3 := numOk nj) (b4 := numOk mv) (may := my) HM.out hkk hlt HKC.out HNJ.out hj HEL.out HMAY.out (fun W hW => rS_l rfl (HRS.out W hW) (HT.out W hW)) rfl rfl rfl _ _ _ _ _ _ _ _ _ _ _ _ _ _ _ _ _ _ _ _ _ _ _ _ _ _ _ _ _ _ _ _ _ _ _ _ _ _ _ _ _ _ _ _ _ _ _ _ _ _ _ _ _ _ _ _ _ _ _ _ _ _ _ _ _ _ _ _ _ _ _ _ _ _ _ _ _ _ _ _ _ _ _ _ _ _ _ _ _ _ _ _ _ _ _ _ _ _ _ _ _ _ _ _ _ _ _ _ _ _ _ _ _ _ _ _ _ _ _ _ _ _ _ ?_
                  rintro w16 v76 v77 v78 v79 v80 v81 v82 v83 v84 v85 v86 v87 v88 v89 v90 v91 v92 v93 v94 v95 v96 v97 v98 v99 hM hB16
                  conv => zeta
                  have HO16 := hid (HO15.out.below hB16)
                  have HB16 := hid (HB15.out.trans (hB16.mono HB15.out.size))
                  have HM16 := hid hM
                  clear hM hB16 HM HO15 HB15
                  have HM := HM16
                  clear HM16
                  go_upto_region 18 with (first | ((with_reducible refine wl_id ?_); refine m_build0 rfl rfl (build_zS _) ?_; simp only [Act.put, List.setIfInBounds_toArray, List.set_cons_zero, List.set_cons_succ]) | ((with_reducible refine wl_id ?_); refine m_allocB HM.out rfl rfl info_zS ?_; intro bw wy hbn hBy hM; simp only [Act.put, List.setIfInBounds_toArray, List.set_cons_zero, List.set_cons_succ]; have HMy := hid hM; have HBN := hid hbn; have HBy := hid hBy; clear hM hbn hBy) | ((with_reducible refine wl_id ?_); refine m_storeAG HMy.out rfl rfl rfl 0 rfl rfl rfl (by kernel_rfl) rfl ?_; intro w17 hM hg; simp only [Act.put, List.setIfInBounds_toArray, List.set_cons_zero, List.set_cons_succ]; simp only [List.set_cons_succ, List.set_cons_zero] at hM; have HM17 := hid hM; have HGx := hid hg; clear hM hg))
                  have hO16 := HO16.out.below HBy.out
                  have HO17 := hid (show OwnScr w17 wx.heap.size R _ _ _ from ⟨hO16.hm.kept HGx.out (own_lt HO16.out.hm HBN.out), hO16.ho.kept HGx.out (own_lt HO16.out.ho HBN.out), hO16.ht.kept HGx.out (own_lt HO16.out.ht HBN.out), hO16.mo, hO16.mt, hO16.ot⟩)
                  have HB17 := hid (below_of_grown (HB16.out.trans (HBy.out.mono HB16.out.size)) HGx.out (fun q hq => by cases hq; exact Nat.le_trans HB16.out.size HBN.out))
                  have HBWX := hid (Nat.le_trans HB16.out.size HBN.out)
                  clear hO16 HM HMy HBy HGx HB16
                  have HM := HM17
                  clear HM17
                  cases my with
                  | true =>
                    have hR : toS s key (max 1 nj) (max 1 mv) = R := by rw [← HR.out, outS, if_pos HMAY.out]
                    have he : ec = 0 := by rw [← HEC.out, outE, if_pos HMAY.out]
                    subst he
                    have HREF : Hid (∀ W, Below w.heap.size w W → Calls Tryd.prog 40 #[.agg (scrL s m0 o0 t0).toArray, .int .i64 key, .int .i64 nj, .int .i64 mv] W fun e w' => ∃ m' o' t', e = .returned (.agg (scrL R m' o' t').toArray) ∧ OwnScr w' W.heap.size R m' o' t' ∧ Below W.heap.size W w') := hid fun W hW => by
                      have h := HMAY.out
                      simp only [mayMove, Bool.and_eq_true] at h
                      have h2 := rmove_any (HRS.out W hW) h.1.1.1 h.1.2 h.2 h.1.1.2
                      rwa [hR] at h2
                    clear hR
                    go_upto_region 19 with (fail)
                    refine mreg19_is HM.out hkk hlt HKC.out HNJ.out hj HEL.out HREF.out HRSM.out (fun _ _ _ _ _ h => by simp +zetaDelta only [Exit.then, Exit.inBlock] at h ⊢; exact h) _ _ _ _ _ _ _ _ _ _ _ _ _ _ _ _ _ _ _ _ _ _ _ _ _ _ _ _ _ _ _ _ _ _ _ _ _ _ _ _ _ _ _ _ _ _ _ _ _ _ _ _ _ _ _ _ _ _ _ _ _ _ _ _ _ _ _ _ _ _ _ _ _ _ _ _ _ _ _ _ _ _ _ _ _ _ _ _ _ _ _ _ _ _ _ _ _ _ _ _ _ _ _ _ _ _ _ _ _ _ _ _ _ _ _ _ _ _ _ _ _ _ ?_
                    rintro w19 Y1 p1 Y2 p2 Y3 p3 v102 v103 v104 v105 v106 v107 v108 v109 v110 v111 v112 v113 v114 v115 v116 hM hRw hg
                    conv => zeta
                    have HO19 := hid (show OwnScr w19 wx.heap.size R _ _ _ from ⟨HO17.out.hm.kept hg (own_lt HO16.out.hm HBN.out), HO17.out.ho.kept hg (own_lt HO16.out.ho HBN.out), HO17.out.ht.kept hg (own_lt HO16.out.ht HBN.out), HO17.out.mo, HO17.out.mt, HO17.out.ot⟩)
                    have HB19 := hid (below_of_grown HB17.out hg (fun q hq => by cases hq; exact HBWX.out))
                    have HM19 := hid hM
                    have HRW := hid hRw
                    clear hM hRw hg HM HO17 HB17
                    have HM := HM19
                    clear HM19
                    have HSA := hid (same_may (HB19.out.trans (Below.refl _ _).drew) (HO19.out.below (Below.refl _ _).drew) HRSM.out (HRW.out.below (Below.refl _ _).drew) HIN.out HS0.out)
                    go_upto_region 20 with (fail)
                    refine mreg20_is HM.out hlt rfl rfl rfl HEL.out HMB.out HSA.out (fun _ _ _ _ _ h => by simp +zetaDelta only [Exit.then, Exit.inBlock] at h ⊢; exact h) _ _ _ _ _ _ _ _ _ _ _ _ _ _ _ _ _ _ _ _ _ _ _ _ _ _ _ _ _ _ _ _ _ _ _ _ _ _ _ _ _ _ _ _ _ _ _ _ _ _ _ _ _ _ _ _ _ _ _ _ _ _ _ _ _ _ _ _ _ _ _ _ _ _ _ _ _ _ _ _ _ _ _ _ _ _ _ _ _ _ _ _ _ _ _ _ _ _ _ _ _ _ _ _ _ _ _ _ _ _ _ _ _ _ _ _ _ _ _ _ _ _ _ ?_
                    rintro w20 v117 v118 v119 v120 v121 v122 v123 v124 v125 v126 v127 hM
                    conv => zeta
                    have HM20 := hid hM
                    clear hM HM HSA
                    go_wp2
                    go_roundw
                    case rel => exact ⟨j + 1, by go_num, by omega, HM20⟩
                    case measure => simp [intOf]; omega
                  | false =>
                    have hn : ¬ mayMove s key nj mv = true := by rw [HMAY.out]; simp
                    have hR : R = zS := by rw [← HR.out, outS, if_neg hn]
                    have he : ec = 1 := by rw [← HEC.out, outE, if_neg hn]
                    subst he
                    subst hR
                    clear hn
                    have HSA := hid (same_not (r := zS) (mw := .slice none 0 0) (ow := .slice none 0 0) (tw := .slice none 0 0) (HB17.out.trans (Below.refl _ _).drew) (HO17.out.below (Below.refl _ _).drew) HIN.out HS0.out)
                    go_upto_region 20 with (fail)
                    refine mreg20_is HM.out hlt rfl rfl rfl HEL.out HMB.out HSA.out (fun _ _ _ _ _ h => by simp +zetaDelta only [Exit.then, Exit.inBlock] at h ⊢; exact h) _ _ _ _ _ _ _ _ _ _ _ _ _ _ _ _ _ _ _ _ _ _ _ _ _ _ _ _ _ _ _ _ _ _ _ _ _ _ _ _ _ _ _ _ _ _ _ _ _ _ _ _ _ _ _ _ _ _ _ _ _ _ _ _ _ _ _ _ _ _ _ _ _ _ _ _ _ _ _ _ _ _ _ _ _ _ _ _ _ _ _ _ _ _ _ _ _ _ _ _ _ _ _ _ _ _ _ _ _ _ _ _ _ _ _ _ _ _ _ _ _ _ _ ?_
                    rintro w20 v117 v118 v119 v120 v121 v122 v123 v124 v125 v126 v127 hM
                    conv => zeta
                    have HM20 := hid hM
                    clear hM HM HSA
                    go_wp2
                    go_roundw
                    case rel => exact ⟨j + 1, by go_num, by omega, HM20⟩
                    case measure => simp [intOf]; omega
                · obtain rfl : j = 6 := by omega
                  go_wp2
                  go_roundw
                  case rel => exact ⟨kk + 1, by go_num, by omega, hid (HM.out.sub (List.sublist_cons_self _ _))⟩
                  case measure => simp [intOf]; omega
            · have hkk2 : ¬ (kk : Int) < (keys.length : Int) := by omega
              go_wp2
              go_roundw
              case rel => exact ⟨ii + 1, by go_num, by omega, by omega, HM⟩
              case measure => simp [intOf]; omega
        · have h42 : ¬ (ii : Int) < 4 := by omega
          go_wp2_with (first | ((with_reducible refine wl_id ?_); refine m_load HM.out rfl rfl rfl (by first | exact .head _ | exact .tail _ (.head _) | exact .tail _ (.tail _ (.head _)) | exact .tail _ (.tail _ (.tail _ (.head _))) | exact .tail _ (.tail _ (.tail _ (.tail _ (.head _)))) | exact .tail _ (.tail _ (.tail _ (.tail _ (.tail _ (.head _))))) | exact .tail _ (.tail _ (.tail _ (.tail _ (.tail _ (.tail _ (.head _)))))) | exact .tail _ (.tail _ (.tail _ (.tail _ (.tail _ (.tail _ (.tail _ (.head _)))))))) rfl Tryd.underlying22 rfl ?_; simp only [Act.put, List.setIfInBounds_toArray, List.set_cons_zero, List.set_cons_succ]) | (go_at_call 29; (with_reducible refine (wakes10_any _ (HT.out _ HM.out.below)).mono ?_); rintro e w3 ⟨rfl, hB⟩; have HM2 := hid (HM.out.call hB); clear hB))
          go_ret
          exact ⟨rfl, HM2.out.below⟩
      · have hlt2 : ¬ (ii : Int) < (L.length : Int) := by omega
        go_wp2_with (first | ((with_reducible refine wl_id ?_); refine m_load HM.out rfl rfl rfl (by first | exact .head _ | exact .tail _ (.head _) | exact .tail _ (.tail _ (.head _)) | exact .tail _ (.tail _ (.tail _ (.head _))) | exact .tail _ (.tail _ (.tail _ (.tail _ (.head _)))) | exact .tail _ (.tail _ (.tail _ (.tail _ (.tail _ (.head _))))) | exact .tail _ (.tail _ (.tail _ (.tail _ (.tail _ (.tail _ (.head _)))))) | exact .tail _ (.tail _ (.tail _ (.tail _ (.tail _ (.tail _ (.tail _ (.head _)))))))) rfl Tryd.underlying22 rfl ?_; simp only [Act.put, List.setIfInBounds_toArray, List.set_cons_zero, List.set_cons_succ]) | (go_at_call 29; (with_reducible refine (wakes10_any _ (HT.out _ HM.out.below)).mono ?_); rintro e w3 ⟨rfl, hB⟩; have HM2 := hid (HM.out.call hB); clear hB))
        go_ret
        exact ⟨rfl, HM2.out.below⟩
end Go.Proofs.YtbjckahaalbpaaaDoor
