/- CursorWithin: the walk. -/
import Derived.Test.YtbjckahaalbpaaaDoorWithinR
import Derived.Test.YtbjckahaalbpaaaDoorLaws10
set_option linter.unusedVariables false
set_option linter.unusedSimpArgs false
set_option linter.unnecessarySimpa false
namespace Go.Proofs.YtbjckahaalbpaaaDoor
open Go Go.RowKit Go.Proofs.YtbjckahaalbpaaaDoorW.PrintLast

theorem m_storeSG {P : Program} {ops : Array Oper} {rest : List Oper} {op : Oper} {a : Act} {w0 w : World} {Q : Exit → Act → World → Prop} {F : List Ent} (hM : Mem w0 w F) (hgd : op.guard = none) {ty : TypeId} {x y : Operand} (ho : op.op = .store ty x y) {b o : Nat} (hx : a.eval x = .pointer (some ⟨b, o, none⟩)) (i : Nat) {t : TypeId} {l : List Value} (hF : F[i]? = some (b, Row t l))
    {cs : List Value} (hy : a.eval y = .agg cs.toArray) (l' : List Value) (hl : Mem.putL l o cs = l') (hk : o + cs.length ≤ l.length) (hi : (P.info? ty).map (·.size) = some cs.length) (h1 : cs.all (·.oneCell') = true)
    (h : ∀ w', Mem w0 w' (F.set i (b, Row t l')) → w.grownBy w' (some b) → wpList P ops Q rest (a.put op.dst undef) w') : wpList P ops Q (op :: rest) a w :=
  wpList_store_mid hgd ty x y ho b o cs.toArray hx hy (hM.there (List.mem_of_getElem? hF) (by simpa using hk)) (by simpa using hi) (by rw [List.all_toArray]; exact h1) (h _ (hl ▸ hM.sets hF o cs) (grown_setCells _ _ _))
theorem slice11 (w : World) : (Instr.buildSlice 27 11 #[(0, .int .i64 65), (1, .int .i64 66), (2, .int .i64 67), (3, .int .i64 68), (4, .int .i64 69), (5, .int .i64 70), (6, .int .i64 71), (7, .int .i64 100), (8, .int .i64 72), (9, .int .i64 73), (10, .int .i64 90)]).run Tryd.prog w = .ok (.slice (some ⟨w.heap.size, 0, none⟩) 11 11) (w.alloc (.cells kV.toArray 3)) := by kernel_rfl
theorem own_ne {w0 w : World} {F : List Ent} (hM : Mem w0 w F) {b : Nat} {t : TypeId} {l : List Value} (hF : (b, Row t l) ∈ F) {base n size : Nat} {e : TypeId} {v : Value} {xs : List Value} (h : w.ownsRow base e size v n xs) (hne : (e == t) = false) : v.ownBlock = none ∨ v.ownBlock ≠ some b := by
  obtain ⟨hl, h | ⟨g, cap, cur, rfl, hb, hg, h1, h2, h3, h4⟩⟩ := h
  · exact .inl (by rw [h.1]; rfl)
  · refine .inr fun hv => ?_
    obtain rfl : g = b := by simpa [Value.ownBlock] using hv
    obtain ⟨-, o, ho, hr⟩ := hM.here _ hF
    have h5 : o = .cells cur e (0, 0) := Option.some.inj (ho.symm.trans hg)
    have h6 : o = .cells l.toArray t (0, 0) := hr
    rw [h5] at h6
    simp only [Obj.cells.injEq] at h6
    simp [h6.2.1] at hne
theorem put_cur (R : Scr) (c : Cur) (m o t : Value) : Mem.putL (scrL R m o t) 7 (curL c) = scrL (putCur R c) m o t := by rfl
set_option maxRecDepth 100000 in
set_option maxHeartbeats 8000000 in
theorem walk_CursorWithin {L : List SV} {v : Value} {n m k r : Int} {w : World} (hv : RdSS w v L) (hL : L.length ≤ 1048576) (hT : U8 w) :
    Calls Tryd.prog 19 #[.agg (askL v n m k r).toArray] w fun e w' => e = .returned (.bool true) ∧ Below w.heap.size w w' := by
  have HV : Hid (∀ W, Below w.heap.size w W → RdSS W v L) := hid fun W hW => hv.below hW
  have HT : Hid (∀ W, Below w.heap.size w W → U8 W) := hid fun W hW => hT.below hW
  obtain ⟨A, c, rfl, hc, -⟩ := hv
  have HX := hid (Mem.start w)
  clear hT
  go_enter Tryd.func19, Tryd.ntmps19
  go_upto_region 0 with (fail)
  refine wp_region_lit ?_
  refine m_box HX.out rfl rfl rfl ?_
  intro b w1 hM
  simp only [Act.put, List.setIfInBounds_toArray, List.set_cons_zero, List.set_cons_succ]
  have HM := hid hM
  clear hM HX
  go_wp2_with (first | ((with_reducible refine wl_id ?_); refine m_loadS HM.out rfl rfl rfl (by first | exact .head _ | exact .tail _ (.head _) | exact .tail _ (.tail _ (.head _)) | exact .tail _ (.tail _ (.tail _ (.head _))) | exact .tail _ (.tail _ (.tail _ (.tail _ (.head _)))) | exact .tail _ (.tail _ (.tail _ (.tail _ (.tail _ (.head _))))) | exact .tail _ (.tail _ (.tail _ (.tail _ (.tail _ (.tail _ (.head _)))))) | exact .tail _ (.tail _ (.tail _ (.tail _ (.tail _ (.tail _ (.tail _ (.head _)))))))) (askL (.slice A L.length c) n m k r) rfl Tryd.underlying24 rfl (by kernel_rfl) ?_; simp only [Act.put, List.setIfInBounds_toArray, List.set_cons_zero, List.set_cons_succ]) | (go_at_call 22; fail))
  refine (heavy_any (HV.out _ HM.out.below) hL).mono ?_
  rintro e w2 ⟨x, rfl, hB⟩
  have HM2 := hid (HM.out.call hB)
  clear HM hB
  have HM := HM2
  clear HM2
  cases x with
  | true =>
    go_wp2
    go_ret
    exact ⟨rfl, HM.out.below⟩
  | false =>
    go_wp2_with (first | ((with_reducible refine wl_id ?_); refine m_slice (e := 3) HM.out rfl rfl #[(0, .int .i64 65), (1, .int .i64 66), (2, .int .i64 67), (3, .int .i64 68), (4, .int .i64 69), (5, .int .i64 70), (6, .int .i64 71), (7, .int .i64 100), (8, .int .i64 72), (9, .int .i64 73), (10, .int .i64 90)] (by simp only [List.map_toArray, List.map_cons, List.map_nil]; rfl) kV (fun w' => slice11 w') ?_; intro g w2 hM; simp only [Act.put, List.setIfInBounds_toArray, List.set_cons_zero, List.set_cons_succ]; have HM2 := hid hM; clear hM))
    clear HM
    have HM := HM2
    clear HM2
    obtain ⟨wo, rfl⟩ : ∃ wo : World, wo = w2 := ⟨_, rfl⟩
    go_loopw [4] (fun i wr => ∃ ii : Nat, i = .int .i64 ii ∧ ii ≤ L.length ∧ ii ≤ 4 ∧ Hid (Mem w wr [(g, Row 3 kV), (b, Row 24 (askL (.slice A L.length c) n m k r))])) (fun i _ => 4 - (intOf i).toNat)
    case atStart => exact ⟨0, rfl, Nat.zero_le _, by omega, HM⟩
    case round =>
      obtain ⟨ii, rfl, hi1, hi2, HMr⟩ := hrel
      clear HM
      have HM := HMr
      clear HMr
      by_cases hlt : ii < L.length
      · have hlt2 : (ii : Int) < (L.length : Int) := by omega
        by_cases h4 : ii < 4
        · have h42 : (ii : Int) < 4 := by omega
          obtain ⟨A', c', e1, -, hcells⟩ := HV.out w (Below.refl _ _)
          obtain ⟨sb, so, e2, hel0, hrs0⟩ := hcells ii hlt
          cases e1
          subst e2
          obtain ⟨sv, hsv⟩ : ∃ sv, L[ii] = sv := ⟨_, rfl⟩
          rw [hsv] at hel0 hrs0
          obtain ⟨s, m0, o0, t0⟩ := sv
          obtain ⟨M1, d1, em, -⟩ := hrs0.1
          obtain ⟨M2, d2, eo, -⟩ := hrs0.2.1
          obtain ⟨M3, d3, et, -⟩ := hrs0.2.2.1
          simp only at em eo et
          subst em
          subst eo
          subst et
          have HEL : Hid (∀ W, Below w.heap.size w W → ∀ q u, (scrL s (.slice M1 s.ms.length d1) (.slice M2 s.os.length d2) (.slice M3 s.tabs.length d3))[q]? = some u → W.cell? ⟨sb, so + ii * 43 + q, none⟩ = some u) := hid fun W hW q u hq => cell_below hW (hel0 q u hq)
          have HRS : Hid (∀ W, Below w.heap.size w W → RdScr W s (.slice M1 s.ms.length d1) (.slice M2 s.os.length d2) (.slice M3 s.tabs.length d3)) := hid fun W hW => hrs0.below hW
          have HSM := hid hrs0.2.2.2
          clear hcells hel0 hrs0 hsv
          have HSB : ∀ x, scrB s = x → Hid (∀ W, Below w.heap.size w W → Calls Tryd.prog 23 #[.agg (scrL s (.slice M1 s.ms.length d1) (.slice M2 s.os.length d2) (.slice M3 s.tabs.length d3)).toArray] W fun e w' => e = .returned (.bool x) ∧ Below W.heap.size W w') := fun x hx => hid fun W hW => rS_l hx (HRS.out W hW) (HT.out W hW)
          go_upto_region 8 with (first | ((with_reducible refine wl_id ?_); refine m_load HM.out rfl rfl rfl (by first | exact .head _ | exact .tail _ (.head _) | exact .tail _ (.tail _ (.head _)) | exact .tail _ (.tail _ (.tail _ (.head _))) | exact .tail _ (.tail _ (.tail _ (.tail _ (.head _)))) | exact .tail _ (.tail _ (.tail _ (.tail _ (.tail _ (.head _))))) | exact .tail _ (.tail _ (.tail _ (.tail _ (.tail _ (.tail _ (.head _)))))) | exact .tail _ (.tail _ (.tail _ (.tail _ (.tail _ (.tail _ (.tail _ (.head _)))))))) rfl Tryd.underlying22 rfl ?_; simp only [Act.put, List.setIfInBounds_toArray, List.set_cons_zero, List.set_cons_succ]) | ((with_reducible refine wl_id ?_); refine m_any rfl rfl rfl (load_sl (HEL.out _ HM.out.below)) ?_; simp only [Act.put, List.setIfInBounds_toArray, List.set_cons_zero, List.set_cons_succ]) | ((with_reducible refine wl_id ?_); refine m_allocB HM.out rfl rfl info_zS ?_; intro bs wy hbn hBy hM; simp only [Act.put, List.setIfInBounds_toArray, List.set_cons_zero, List.set_cons_succ]; have HMy := hid hM; clear hM hbn hBy) | ((with_reducible refine wl_id ?_); refine m_storeAG HMy.out rfl rfl rfl 0 rfl rfl rfl (by kernel_rfl) rfl ?_; intro wx hM hg; simp only [Act.put, List.setIfInBounds_toArray, List.set_cons_zero, List.set_cons_succ]; simp only [List.set_cons_succ, List.set_cons_zero] at hM; have HMx := hid hM; clear hM hg))
          clear HM HMy
          have HM := HMx
          clear HMx
          cases hsc : scrB s with
          | false =>
            have HS := HSB _ hsc
            clear HSB
            go_wp2_with (first | ((with_reducible refine wl_id ?_); refine m_loadS HM.out rfl rfl rfl (by first | exact .head _ | exact .tail _ (.head _) | exact .tail _ (.tail _ (.head _)) | exact .tail _ (.tail _ (.tail _ (.head _))) | exact .tail _ (.tail _ (.tail _ (.tail _ (.head _)))) | exact .tail _ (.tail _ (.tail _ (.tail _ (.tail _ (.head _))))) | exact .tail _ (.tail _ (.tail _ (.tail _ (.tail _ (.tail _ (.head _)))))) | exact .tail _ (.tail _ (.tail _ (.tail _ (.tail _ (.tail _ (.tail _ (.head _)))))))) (scrL s (.slice M1 s.ms.length d1) (.slice M2 s.os.length d2) (.slice M3 s.tabs.length d3)) rfl Tryd.underlying37 rfl (by kernel_rfl) ?_; simp only [Act.put, List.setIfInBounds_toArray, List.set_cons_zero, List.set_cons_succ]) | (go_at_call 23; (with_reducible refine (HS.out _ HM.out.below).mono ?_); rintro e w3 ⟨rfl, hB⟩; have HM3 := hid (HM.out.call hB); clear hB))
            go_roundw
            case rel => exact ⟨ii + 1, by go_num, by omega, by omega, hid (HM3.out.sub (List.sublist_cons_self _ _))⟩
            case measure => simp [intOf]; omega
          | true =>
            have HS := HSB _ hsc
            clear HSB
            have HFA := hid (scrB_facts hsc)
            have HSC := hid hsc
            clear hsc
            go_wp2_with (first | ((with_reducible refine wl_id ?_); refine m_loadS HM.out rfl rfl rfl (by first | exact .head _ | exact .tail _ (.head _) | exact .tail _ (.tail _ (.head _)) | exact .tail _ (.tail _ (.tail _ (.head _))) | exact .tail _ (.tail _ (.tail _ (.tail _ (.head _)))) | exact .tail _ (.tail _ (.tail _ (.tail _ (.tail _ (.head _))))) | exact .tail _ (.tail _ (.tail _ (.tail _ (.tail _ (.tail _ (.head _)))))) | exact .tail _ (.tail _ (.tail _ (.tail _ (.tail _ (.tail _ (.tail _ (.head _)))))))) (scrL s (.slice M1 s.ms.length d1) (.slice M2 s.os.length d2) (.slice M3 s.tabs.length d3)) rfl Tryd.underlying37 rfl (by kernel_rfl) ?_; simp only [Act.put, List.setIfInBounds_toArray, List.set_cons_zero, List.set_cons_succ]) | (go_at_call 23; (with_reducible refine (HS.out _ HM.out.below).mono ?_); rintro e w3 ⟨rfl, hB⟩; have HM3 := hid (HM.out.call hB); clear hB))
            clear HM HS
            have HM := HM3
            clear HM3
            obtain ⟨wm, rfl⟩ : ∃ wm : World, wm = w3 := ⟨_, rfl⟩
            go_loopw [6] (fun x wr => ∃ kk : Nat, x = .int .i64 kk ∧ kk ≤ 11 ∧ Hid (Mem w wr [(bs, Row 37 (scrL s (.slice M1 s.ms.length d1) (.slice M2 s.os.length d2) (.slice M3 s.tabs.length d3))), (g, Row 3 kV), (b, Row 24 (askL (.slice (some ⟨sb, so, none⟩) L.length c) n m k r))])) (fun x _ => 11 - (intOf x).toNat)
            case atStart => exact ⟨0, rfl, by omega, HM⟩
            case round =>
              obtain ⟨kk, rfl, hkk1, HMr⟩ := hrel
              clear HM
              have HM := HMr
              clear HMr
              by_cases hkk : kk < 11
              · have hkk2 : (kk : Int) < 11 := by omega
                obtain ⟨key, hkey, hmk⟩ := kV_at kk hkk
                have HKEY := hid hkey
                have HMK := hid hmk
                clear hkey hmk
                go_upto_region 12 with (fail)
                have hn1 := within_bd n (n := 10000) (by decide)
                have hn2 := within_bd m (n := 60) (by decide)
                have HNO := hid (show numOk (withinZ n 10000) = true by simp [numOk]; omega)
                have HMO : Hid (numOk (withinZ m 60) = true) := hid (by simp [numOk]; omega)
                clear hn1 hn2
                obtain ⟨hbd, -, htl, -⟩ := HFA.out
                have hfine := toS_in hbd htl key (n := max 1 (withinZ n 10000)) (k := max 1 (withinZ m 60)) (by omega) (by omega)
                obtain ⟨R, hR⟩ : ∃ R, toS s key (max 1 (withinZ n 10000)) (max 1 (withinZ m 60)) = R := ⟨_, rfl⟩
                have hmay : mayMove s key (withinZ n 10000) (withinZ m 60) = true := by simp [mayMove, HSC.out, HMK.out, HNO.out, HMO.out]
                have HOUT : Hid (∀ W, Below w.heap.size w W → MoveOut s (.slice M1 s.ms.length d1) (.slice M2 s.os.length d2) (.slice M3 s.tabs.length d3) key (withinZ n 10000) (withinZ m 60) R 0 W) := hid fun W hW => by
                  have h := moveOut_is (key := key) (nj := withinZ n 10000) (mv := withinZ m 60) (HRS.out W hW) (HT.out W hW)
                  rwa [outS, if_pos hmay, outE, if_pos hmay, hR] at h
                rw [hR] at hfine
                have hmr := hbd.mr
                have hmc := hbd.mc
                have hrow : 0 ≤ R.cur.row ∧ R.cur.row < s.mr := by have h1 := hfine.bd.row; have h2 : R.mr = s.mr := hfine.mr; rw [h2] at h1; exact h1
                have hcol : 0 ≤ R.cur.col ∧ R.cur.col < s.mc := by have h1 := hfine.bd.col; have h2 : R.mc = s.mc := hfine.mc; rw [h2] at h1; exact h1
                have HROW := hid hrow
                have HCOL := hid hcol
                have HWR := hid hfine.wrap
                have HPUT := hid hfine.rest
                have HMR := hid hmr
                have HMC := hid hmc
                clear hrow hcol hfine hmr hmc hmay hbd htl hR HNO HMO
                have HBX := hid HM.out.below
                refine wreg12_is HM.out hkk HKEY.out (fun W hW => HOUT.out W (HBX.out.trans (hW.mono HBX.out.size))) (fun _ _ _ _ _ h => by simp +zetaDelta only [Exit.then, Exit.inBlock] at h ⊢; exact h) _ _ _ _ _ _ _ _ _ _ _ _ _ _ _ _ _ _ _ _ _ _ _ _ _ _ _ _ _ _ _ _ _ _ _ _ _ _ _ _ _ _ _ _ _ _ _ _ _ _ _ _ _ _ _ _ _ _ _ _ _ _ _ _ _ _ _ _ _ _ _ _ _ _ _ _ _ _ _ _ _ _ _ _ _ _ ?_
                rintro w12 bx X1 q1 X2 q2 X3 q3 v37 v38 v39 v40 v41 v42 v43 v44 v45 v46 v47 v48 v49 v50 v51 hM hO hB
                conv => zeta
                have HO12 := hid hO
                have HM12 := hid hM
                clear hM hO hB HM HBX HOUT
                have HM := HM12
                clear HM12
                go_upto_region 13 with (fail)
                refine wreg13_is HM.out HMR.out HMC.out HROW.out HCOL.out HWR.out _ _ _ _ _ _ _ _ _ _ _ _ _ _ _ _ _ _ _ _ _ _ _ _ _ _ _ _ _ _ _ _ _ _ _ _ _ _ _ _ _ _ _ _ _ _ _ _ _ _ _ _ _ _ _ _ _ _ _ _ _ _ _ _ _ _ _ _ _ _ _ _ _ _ _ _ _ _ _ _ _ _ _ _ _ _ ?_
                rintro w13 v52 v53 v54 v55 v56 v57 v58 v59 v60 v61 v62 v63 v64 v65 v66 v67 v68 v69 v70 v71 v72 v73 v74 v75 v76 v77 v78 v79 v80 hM hB
                conv => zeta
                have HO13 := hid (HO12.out.below hB)
                have HM13 := hid hM
                clear hM hB HM HO12
                have HM := HM13
                clear HM13
                go_upto_region 16 with (first | ((with_reducible refine wl_id ?_); refine m_loadS HM.out rfl rfl rfl (.tail _ (.head _)) (curL s.cur) rfl Tryd.underlying34 rfl (by kernel_rfl) ?_; simp only [Act.put, List.setIfInBounds_toArray, List.set_cons_zero, List.set_cons_succ]) | ((with_reducible refine wl_id ?_); refine m_storeSG HM.out rfl rfl rfl 0 rfl rfl _ (put_cur R s.cur _ _ _) (Nat.le_of_ble_eq_true rfl) (by kernel_rfl) rfl ?_; intro wx hM hg; simp only [Act.put, List.setIfInBounds_toArray, List.set_cons_zero, List.set_cons_succ]; simp only [List.set_cons_succ, List.set_cons_zero] at hM; have HMx := hid hM; have HGx := hid hg; clear hM hg))
                have hM2 := HMx.out
                rw [HPUT.out] at hM2
                have e1 : R.ms = s.ms := (show (putCur R s.cur).ms = s.ms by rw [HPUT.out])
                have e2 : R.os = s.os := (show (putCur R s.cur).os = s.os by rw [HPUT.out])
                have e3 : R.tabs = s.tabs := (show (putCur R s.cur).tabs = s.tabs by rw [HPUT.out])
                have hO := HO13.out
                have hk : OwnScr wx wr.heap.size R (.slice X1 R.ms.length q1) (.slice X2 R.os.length q2) (.slice X3 R.tabs.length q3) := ⟨hO.hm.kept HGx.out (own_ne HM.out (.head _) hO.hm rfl), hO.ho.kept HGx.out (own_ne HM.out (.head _) hO.ho rfl), hO.ht.kept HGx.out (own_ne HM.out (.head _) hO.ht rfl), hO.mo, hO.mt, hO.ot⟩
                have HRD := hid ((hk.as e1.symm e2.symm e3.symm).rd HSM.out)
                have HM16 := hid hM2
                clear hM2 hk hO e1 e2 e3 HM HMx HGx HO13
                have HM := HM16
                clear HM16
                go_wp2_with (first | ((with_reducible refine wl_id ?_); refine m_loadS HM.out rfl rfl rfl (.head _) (scrL s (.slice X1 R.ms.length q1) (.slice X2 R.os.length q2) (.slice X3 R.tabs.length q3)) rfl Tryd.underlying37 rfl (by kernel_rfl) ?_; simp only [Act.put, List.setIfInBounds_toArray, List.set_cons_zero, List.set_cons_succ]) | ((with_reducible refine wl_id ?_); refine m_loadS HM.out rfl rfl rfl (.tail _ (.head _)) (scrL s (.slice M1 s.ms.length d1) (.slice M2 s.os.length d2) (.slice M3 s.tabs.length d3)) rfl Tryd.underlying37 rfl (by kernel_rfl) ?_; simp only [Act.put, List.setIfInBounds_toArray, List.set_cons_zero, List.set_cons_succ]) | (go_at_call 28; (with_reducible refine (eqS_yes HRD.out (HRS.out _ HM.out.below)).mono ?_); rintro e w3 ⟨rfl, hB⟩; have HM3 := hid (HM.out.call hB); clear hB))
                clear HRD HPUT
                go_roundw
                case rel => exact ⟨kk + 1, by go_num, by omega, hid (HM3.out.sub (List.sublist_cons_self _ _))⟩
                case measure => simp [intOf]; omega
              · obtain rfl : kk = 11 := by omega
                go_wp2
                go_roundw
                case rel => exact ⟨ii + 1, by go_num, by omega, by omega, hid (HM.out.sub (List.sublist_cons_self _ _))⟩
                case measure => simp [intOf]; omega
        · have h42 : ¬ (ii : Int) < 4 := by omega
          go_wp2_with (first | ((with_reducible refine wl_id ?_); refine m_load HM.out rfl rfl rfl (by first | exact .head _ | exact .tail _ (.head _) | exact .tail _ (.tail _ (.head _)) | exact .tail _ (.tail _ (.tail _ (.head _))) | exact .tail _ (.tail _ (.tail _ (.tail _ (.head _)))) | exact .tail _ (.tail _ (.tail _ (.tail _ (.tail _ (.head _))))) | exact .tail _ (.tail _ (.tail _ (.tail _ (.tail _ (.tail _ (.head _)))))) | exact .tail _ (.tail _ (.tail _ (.tail _ (.tail _ (.tail _ (.tail _ (.head _)))))))) rfl Tryd.underlying22 rfl ?_; simp only [Act.put, List.setIfInBounds_toArray, List.set_cons_zero, List.set_cons_succ]) | (go_at_call 29; (with_reducible refine (wakes10_any _ (HT.out _ HM.out.below)).mono ?_); rintro e w3 ⟨rfl, hB⟩; have HM2 := hid (HM.out.call hB); clear hB))
          go_ret
          exact ⟨rfl, HM2.out.below⟩
      · have hlt2 : ¬ (ii : Int) < (L.length : Int) := by omega
        go_wp2_with (first | ((with_reducible refine wl_id ?_); refine m_load HM.out rfl rfl rfl (by first | exact .head _ | exact .tail _ (.head _) | exact .tail _ (.tail _ (.head _)) | exact .tail _ (.tail _ (.tail _ (.head _))) | exact .tail _ (.tail _ (.tail _ (.tail _ (.head _)))) | exact .tail _ (.tail _ (.tail _ (.tail _ (.tail _ (.head _))))) | exact .tail _ (.tail _ (.tail _ (.tail _ (.tail _ (.tail _ (.head _)))))) | exact .tail _ (.tail _ (.tail _ (.tail _ (.tail _ (.tail _ (.tail _ (.head _)))))))) rfl Tryd.underlying22 rfl ?_; simp only [Act.put, List.setIfInBounds_toArray, List.set_cons_zero, List.set_cons_succ]) | (go_at_call 29; (with_reducible refine (wakes10_any _ (HT.out _ HM.out.below)).mono ?_); rintro e w3 ⟨rfl, hB⟩; have HM2 := hid (HM.out.call hB); clear hB))
        go_ret
        exact ⟨rfl, HM2.out.below⟩
end Go.Proofs.YtbjckahaalbpaaaDoor
