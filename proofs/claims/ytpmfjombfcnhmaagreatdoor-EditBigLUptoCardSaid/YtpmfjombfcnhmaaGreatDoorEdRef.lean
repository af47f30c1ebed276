/- The reference's edits of rows: At, mend, Erase. -/
import Derived.Test.YtpmfjombfcnhmaaGreatDoorEdRow
set_option linter.unusedVariables false
set_option linter.unusedSimpArgs false
set_option linter.unnecessarySimpa false
namespace Go.Proofs.YtpmfjombfcnhmaaGreatDoor
open Go Go.RowKit Go.Proofs.YtpmfjombfcnhmaaGreatDoorW.PrintLast

theorem rblankL (a : Attr) (w : World) : Calls Tryz.prog 79 #[.agg (attrL a).toArray] w fun e w' => e = .returned (bare a).agg ∧ Below w.heap.size w w' := rblank_any a w
set_option maxRecDepth 100000 in
set_option maxHeartbeats 1000000 in
theorem rat_any {M : List Cell} {v : Value} {w : World} {r : Int} {c i P : Nat} (hv : RdC w v M) (hP : i * c = P) (hPM : P + c ≤ M.length) (hi : i ≤ 1000) (hc1 : 1 ≤ c) (hc : c ≤ 1000) (hm : M.length ≤ 1000000) :
    Calls Tryz.prog 44 #[.agg (gridL r c v).toArray, .int .i64 i] w fun e w' => ∃ v', e = .returned v' ∧ OwnC w' w.heap.size v' (sub P c M) ∧ Below w.heap.size w w' := by
  obtain ⟨A, cap, rfl, hlc, -⟩ := hv.open_
  obtain ⟨b, q, rfl, hr⟩ := hv.part (c' := cap - P) hPM (by omega) (by omega)
  have HC : Hid (∀ W, Below w.heap.size w W → Calls Tryz.prog 54 #[.slice (some ⟨b, q + P * 6, none⟩) c (cap - P)] W _) := hid fun W hW => copyC_any (sub P c M) _ W (hr.below hW) (by rw [sub_length]; omega)
  have e1 : (i : Int) * (c : Int) = (P : Int) := by rw [← hP]; push_cast; rfl
  have e2 : ((i : Int) + 1) * (c : Int) = (P : Int) + (c : Int) := by rw [Int.add_mul, e1]; omega
  have s0 : IntKind.i64.wrap ((i : Int) + 1) = (i : Int) + 1 := IntWalk.i64_in _ (by omega)
  have s1 : IntKind.i64.wrap (P : Int) = (P : Int) := IntWalk.i64_in _ (by omega)
  have s2 : IntKind.i64.wrap ((P : Int) + (c : Int)) = (P : Int) + (c : Int) := IntWalk.i64_in _ (by omega)
  have t1 : ((P : Int) + (c : Int)).toNat = P + c := by omega
  have g1 : (0 : Int) ≤ (P : Int) := by omega
  have g2 : (P : Int) ≤ (P : Int) + (c : Int) := by omega
  have g3 : (P : Int) + (c : Int) ≤ (cap : Int) := by omega
  have g4 : ¬ cap = P := by omega
  have HX := hid (Mem.start w)
  clear hP hv hr
  go_enter Tryz.func44, Tryz.ntmps44
  go_upto_region 0 with (fail)
  refine wp_region_lit ?_
  refine m_box HX.out rfl rfl rfl ?_
  intro b1 w1 hM
  simp only [Act.put, List.setIfInBounds_toArray, List.set_cons_zero, List.set_cons_succ]
  have HM := hid hM
  clear hM HX
  go_wp2_with (first | ((with_reducible refine wl_id ?_); refine m_load HM.out rfl rfl rfl (by first | exact .head _ | exact .tail _ (.head _) | exact .tail _ (.tail _ (.head _)) | exact .tail _ (.tail _ (.tail _ (.head _))) | exact .tail _ (.tail _ (.tail _ (.tail _ (.head _)))) | exact .tail _ (.tail _ (.tail _ (.tail _ (.tail _ (.head _))))) | exact .tail _ (.tail _ (.tail _ (.tail _ (.tail _ (.tail _ (.head _)))))) | exact .tail _ (.tail _ (.tail _ (.tail _ (.tail _ (.tail _ (.tail _ (.head _)))))))) rfl (by first | exact Tryz.underlying3 | exact Tryz.underlying4 | exact Tryz.underlying9 | exact Tryz.underlying29 | exact Tryz.underlying36) rfl ?_; simp only [Act.put, List.setIfInBounds_toArray, List.set_cons_zero, List.set_cons_succ]) | (go_at_call 54; (with_reducible refine (HC.out _ HM.out.below).mono ?_); rintro e w2 ⟨v', rfl, hO, hB⟩; have HO := hid hO; have HM2 := hid (HM.out.call hB); clear hO hB))
  go_ret
  exact ⟨_, rfl, OwnC.lower HO.out HM.out.below.size, HM2.out.below⟩
theorem endL_keep {Y : List Cell} (h : (at_ Y (Y.length - 1)).wd ≠ 1) : endL Y = Y := by
  apply ext_at
  · simp
  · intro j hj
    rw [endL_length] at hj
    rw [at_endL hj, if_neg]
    rintro ⟨h1, h2⟩
    rw [show j = Y.length - 1 by omega] at h2
    exact h h2
theorem endL_set {Y : List Cell} {i : Nat} (hi : i + 1 = Y.length) (h : (at_ Y i).wd = 1) : Y.set i (bare (at_ Y i).a) = endL Y := by
  apply ext_at
  · simp
  · intro j hj
    rw [List.length_set] at hj
    rw [at_endL hj]
    by_cases h1 : j = i
    · subst h1
      rw [at_set_same hj, if_pos ⟨hi, h⟩]
    · rw [at_set_ne (fun e => h1 e.symm), if_neg (by omega)]
set_option maxRecDepth 100000 in
set_option maxHeartbeats 2000000 in
theorem mendM {w0 w : World} {F : List Ent} {g cap j : Nat} {Y : List Cell} (hM : Mem w0 w F) (hF : F[j]? = some (g, entC Y cap)) (hE : rowE Y) (h0 : 0 < Y.length) (hm : Y.length ≤ 1000000) :
    Calls Tryz.prog 81 #[sl g Y.length cap] w fun e w' => e = .returned (.tuple #[]) ∧ Mem w0 w' (F.set j (g, entC (endL Y) cap)) := by
  have HM := hid (show Mem w0 w (F.set j (g, entC (if 0 < Y.length then Y else endL Y) cap)) by rw [if_pos h0, set_same hF]; exact hM)
  have HF := hid hF
  have HE := hid hE
  clear hM hF hE
  go_enter Tryz.func81, Tryz.ntmps81
  go_wp2
  obtain ⟨wo, rfl⟩ : ∃ wo : World, wo = w := ⟨_, rfl⟩
  go_loopw [2] (fun x wr => ∃ ii : Nat, x = .int .i64 ii ∧ ii ≤ Y.length ∧ Hid (Mem w0 wr (F.set j (g, entC (if ii < Y.length then Y else endL Y) cap)))) (fun x _ => Y.length - (intOf x).toNat)
  case atStart => exact ⟨0, rfl, Nat.zero_le _, HM⟩
  case round =>
    obtain ⟨ii, rfl, hi1, HMr⟩ := hrel
    clear HM
    by_cases hlt : ii < Y.length
    · have hlt2 : (ii : Int) < (Y.length : Int) := by omega
      have hM := HMr.out
      rw [if_pos hlt, set_same HF.out] at hM
      clear HMr
      have HM := hid hM
      clear hM
      have hmem := List.mem_of_getElem? HF.out
      obtain ⟨ha, hb⟩ := HE.out ii hlt
      obtain ⟨d, hd⟩ : ∃ d, (at_ Y ii).wd = d := ⟨_, rfl⟩
      rw [hd] at ha hb
      have HW0 := hid (show (Instr.loadAt 3 (.pointer (some ⟨g, ii * 6 + 2, none⟩))).run Tryz.prog wr = .ok (.int .i64 d) wr by rw [← hd]; exact load1E Tryz.underlying3 rfl (cellE_one HM.out hmem ii 2 hlt (by decide) rfl))
      have s1 : IntKind.i64.wrap ((ii : Int) + 1) = (ii : Int) + 1 := IntWalk.i64_in _ (by omega)
      have HHD := hid hd
      clear hd
      by_cases h1 : d = 1
      · subst h1
        by_cases hl : ii + 1 < Y.length
        · have hl2 : (ii : Int) + 1 < (Y.length : Int) := by omega
          have hl3 : ((ii : Int) + 1 == (Y.length : Int)) = false := wd_ne (by omega)
          have hl4 : (0 : Int) ≤ (ii : Int) + 1 := by omega
          have hl5 : ((ii : Int) + 1).toNat = ii + 1 := by omega
          have hw1 : wr.cell? ⟨g, (ii + 1) * 6 + 2, none⟩ = some (.int .i64 2) := by rw [← ha rfl hl]; exact cellE_one HM.out hmem (ii + 1) 2 hl (by decide) rfl
          clear ha hb
          go_wp2_with (first | ((with_reducible refine wl_id ?_); refine m_any rfl rfl rfl HW0.out ?_; simp only [Act.put, List.setIfInBounds_toArray, List.set_cons_zero, List.set_cons_succ]))
          go_roundw
          case rel => exact ⟨ii + 1, by go_num, by omega, hid (by rw [if_pos hl, set_same HF.out]; exact HM.out)⟩
          case measure => simp [intOf]; omega
        · have hl1 : ii + 1 = Y.length := by omega
          have HL1 := hid hl1
          have hl2 : (Y.length : Int) = (ii : Int) + 1 := by omega
          have HATT := hid (cellE_attr HM.out hmem ii hlt rfl)
          clear ha hb hl hl1
          go_wp2_with (first | ((with_reducible refine wl_id ?_); refine m_any rfl rfl rfl HW0.out ?_; simp only [Act.put, List.setIfInBounds_toArray, List.set_cons_zero, List.set_cons_succ]) | ((with_reducible refine wl_id ?_); refine m_any rfl rfl rfl HATT.out ?_; simp only [Act.put, List.setIfInBounds_toArray, List.set_cons_zero, List.set_cons_succ]) | (go_at_call 79; (refine (rblankL _ _).mono ?_); rintro e w3 ⟨rfl, hB⟩; have HM3 := hid (HM.out.call hB); clear hB) | ((with_reducible refine wl_id ?_); refine m_storeC HM3.out rfl rfl rfl j HF.out (bare (at_ Y ii).a) rfl ii hlt rfl (by kernel_rfl) ?_; intro w4 hM; simp only [Act.put, List.setIfInBounds_toArray, List.set_cons_zero, List.set_cons_succ]; have HM4 := hid hM; clear hM))
          go_roundw
          case rel => exact ⟨ii + 1, by go_num, by omega, hid (by rw [if_neg (by have := HL1.out; omega), ← endL_set HL1.out HHD.out]; exact HM4.out)⟩
          case measure => simp [intOf]; omega
      · have h1b : (d == 1) = false := wd_ne h1
        by_cases h2 : d = 2
        · subst h2
          obtain ⟨hp, hpw⟩ := hb rfl
          have hl3 : ((ii : Int) == 0) = false := wd_ne (by omega)
          have s2 : IntKind.i64.wrap ((ii : Int) - 1) = (ii : Int) - 1 := IntWalk.i64_in _ (by omega)
          have hl4 : (0 : Int) ≤ (ii : Int) - 1 := by omega
          have hl5 : ((ii : Int) - 1).toNat = ii - 1 := by omega
          have hl6 : (ii : Int) - 1 < (Y.length : Int) := by omega
          have hw1 : wr.cell? ⟨g, (ii - 1) * 6 + 2, none⟩ = some (.int .i64 1) := by rw [← hpw]; exact cellE_one HM.out hmem (ii - 1) 2 (by omega) (by decide) rfl
          have HK := hid (show (at_ Y ii).wd ≠ 1 by rw [HHD.out]; decide)
          clear ha hb hp hpw h1 h1b
          go_wp2_with (first | ((with_reducible refine wl_id ?_); refine m_any rfl rfl rfl HW0.out ?_; simp only [Act.put, List.setIfInBounds_toArray, List.set_cons_zero, List.set_cons_succ]))
          go_roundw
          case rel => exact ⟨ii + 1, by go_num, by omega, hid (by
            split
            · rw [set_same HF.out]; exact HM.out
            · rw [endL_keep (by rw [show Y.length - 1 = ii by omega]; exact HK.out), set_same HF.out]; exact HM.out)⟩
          case measure => simp [intOf]; omega
        · have h2b : (d == 2) = false := wd_ne h2
          have HK := hid (show (at_ Y ii).wd ≠ 1 by rw [HHD.out]; exact h1)
          clear ha hb
          go_wp2_with (first | ((with_reducible refine wl_id ?_); refine m_any rfl rfl rfl HW0.out ?_; simp only [Act.put, List.setIfInBounds_toArray, List.set_cons_zero, List.set_cons_succ]))
          go_roundw
          case rel => exact ⟨ii + 1, by go_num, by omega, hid (by
            split
            · rw [set_same HF.out]; exact HM.out
            · rw [endL_keep (by rw [show Y.length - 1 = ii by omega]; exact HK.out), set_same HF.out]; exact HM.out)⟩
          case measure => simp [intOf]; omega
    · have hlt2 : ¬ (ii : Int) < (Y.length : Int) := by omega
      have hM := HMr.out
      rw [if_neg hlt] at hM
      have HM := hid hM
      clear hM HMr
      go_wp2
      go_end0
      exact ⟨rfl, HM.out⟩
/-- so far made blank -/
def wipeTo (low i : Nat) (a : Attr) (X : List Cell) : List Cell := tab X.length fun j => if low ≤ j ∧ j < i then bare a else at_ X j
@[simp] theorem wipeTo_length (low i : Nat) (a : Attr) (X : List Cell) : (wipeTo low i a X).length = X.length := by simp [wipeTo]
theorem wipeTo_start (low : Nat) (a : Attr) (X : List Cell) : wipeTo low low a X = X := Eq.trans (tab_congr fun j hj => by rw [if_neg (by omega)]) (tab_at X)
theorem wipeTo_step {low i : Nat} {a : Attr} {X : List Cell} (hl : low ≤ i) : (wipeTo low i a X).set i (bare a) = wipeTo low (i + 1) a X := by
  unfold wipeTo
  rw [tab_set]
  refine tab_congr fun j hj => ?_
  by_cases h1 : j = i
  · rw [if_pos h1, if_pos (by omega)]
  · rw [if_neg h1]
    by_cases h2 : low ≤ j ∧ j < i
    · rw [if_pos h2, if_pos (by omega)]
    · rw [if_neg h2, if_neg (by omega)]
theorem wipeTo_end {low high : Nat} {a : Attr} {L : List Cell} (h : low < high) : wipeTo low high a (cutL high (cutL low L)) = wipeL low high a L := by
  rw [wipeL, if_pos h]
  apply ext_at
  · simp
  · intro j hj
    rw [wipeTo_length] at hj
    rw [wipeTo, at_tab hj, at_onSub hj]
    by_cases h1 : low ≤ j ∧ j < high
    · rw [if_pos h1, if_pos (by omega), at_fillL (by rw [sub_length]; omega)]
    · rw [if_neg h1, if_neg (by omega)]
set_option maxRecDepth 100000 in
set_option maxHeartbeats 2000000 in
theorem rerase_any {L : List Cell} {v : Value} {w : World} {low high : Nat} {a : Attr} (hv : RdC w v L) (hlt : low < high) (hh : high ≤ L.length) (hm : L.length ≤ 1000000) :
    Calls Tryz.prog 43 #[v, .int .i64 low, .int .i64 high, .agg (attrL a).toArray] w fun e w' => ∃ v', e = .returned v' ∧ OwnC w' w.heap.size v' (wipeL low high a L) ∧ Below w.heap.size w w' := by
  obtain ⟨A, cap, rfl, hlc, -⟩ := hv.open_
  have HC : Hid (∀ W, Below w.heap.size w W → Calls Tryz.prog 54 #[.slice A L.length cap] W _) := hid fun W hW => copyC_any L _ W (hv.below hW) (by omega)
  have h0 : 0 < L.length := by omega
  have e1 : ((low : Int) == (high : Int)) = false := wd_ne (by omega)
  have HX := hid (Mem.start w)
  clear hv
  go_enter Tryz.func43, Tryz.ntmps43
  go_upto_region 0 with (fail)
  refine wp_region_lit ?_
  refine m_box HX.out rfl rfl rfl ?_
  intro b1 w1 hM
  simp only [Act.put, List.setIfInBounds_toArray, List.set_cons_zero, List.set_cons_succ]
  have HM := hid hM
  clear hM HX
  go_upto_region 2 with (go_at_call 54; (with_reducible refine (HC.out _ HM.out.below).mono ?_); rintro e w2 ⟨v', rfl, hO, hB⟩; obtain ⟨g, cp, rfl, hM2⟩ := HM.out.addOwn (HM.out.call hB) hO h0; have HM2 := hid hM2; clear hO hB hM2)
  clear HM HC
  have HM := HM2
  clear HM2
  go_upto_region 6 with (first | (go_at_call 78; (with_reducible refine (rcutM (j := 0) (o := 0) (n := L.length) HM3.out rfl rfl (by simp) (by simpa using hm) (by simpa using h0)).mono ?_); rintro e w4 ⟨rfl, hM⟩; simp only [List.set_cons_zero, Nat.zero_add] at hM; rw [show onSub 0 L.length (cutL high) (cutL low L) = cutL high (cutL low L) by have := onSub_all (cutL high) (cutL low L) (by simp); rwa [cutL_length] at this] at hM; have HM4 := hid hM; clear hM) | (go_at_call 78; (with_reducible refine (rcutM (j := 0) (o := 0) (n := L.length) HM.out rfl rfl (by simp) hm h0).mono ?_); rintro e w3 ⟨rfl, hM⟩; simp only [List.set_cons_zero] at hM; rw [onSub_all (cutL low) L (by simp)] at hM; have HM3 := hid hM; clear hM))
  clear HM HM3
  have HM := hid (show Mem w w4 ((g, entC (wipeTo low low a (cutL high (cutL low L))) cp) :: [(b1, Row 33 (attrL a))]) by rw [wipeTo_start]; exact HM4.out)
  clear HM4
  obtain ⟨wo, rfl⟩ : ∃ wo : World, wo = w4 := ⟨_, rfl⟩
  have HE := hid (wipeTo_end (a := a) (L := L) hlt)
  obtain ⟨X, hX⟩ : ∃ X, cutL high (cutL low L) = X := ⟨_, rfl⟩
  rw [hX] at HM HE
  have hXl : X.length = L.length := by rw [← hX]; simp
  have HXL := hid hXl
  clear hX hXl
  go_wp2
  go_loopw [9] (fun x wr => ∃ ii : Nat, x = .int .i64 ii ∧ low ≤ ii ∧ ii ≤ high ∧ Hid (Mem w wr ((g, entC (wipeTo low ii a X) cp) :: [(b1, Row 33 (attrL a))]))) (fun x _ => high - (intOf x).toNat)
  case atStart => exact ⟨low, rfl, Nat.le_refl _, Nat.le_of_lt hlt, HM⟩
  case round =>
    obtain ⟨ii, rfl, hi0, hi1, HMr⟩ := hrel
    clear HM
    have HM := HMr
    clear HMr
    by_cases hlt3 : ii < high
    · have hlt2 : (ii : Int) < (high : Int) := by omega
      have hlt4 : (ii : Int) < (L.length : Int) := by omega
      have HI := hid (show ii < (wipeTo low ii a X).length by have := HXL.out; simp; omega)
      go_wp2_with (first | ((with_reducible refine wl_id ?_); refine m_loadS HM.out rfl rfl rfl (.tail _ (.head _)) (attrL a) rfl Tryz.underlying33 rfl (by kernel_rfl) ?_; simp only [Act.put, List.setIfInBounds_toArray, List.set_cons_zero, List.set_cons_succ]) | (go_at_call 79; (refine (rblankL _ _).mono ?_); rintro e w3 ⟨rfl, hB⟩; have HM3 := hid (HM.out.call hB); clear hB) | ((with_reducible refine wl_id ?_); refine m_storeC HM3.out rfl rfl rfl 0 rfl (bare a) rfl ii HI.out rfl (by kernel_rfl) ?_; intro w4 hM; simp only [Act.put, List.setIfInBounds_toArray, List.set_cons_zero, List.set_cons_succ]; simp only [List.set_cons_zero] at hM; have HM4 := hid hM; clear hM))
      go_roundw
      case rel => exact ⟨ii + 1, by go_num, by omega, by omega, hid (by have := HM4.out; rwa [wipeTo_step hi0] at this)⟩
      case measure => simp [intOf]; omega
    · have hlt2 : ¬ (ii : Int) < (high : Int) := by omega
      obtain rfl : ii = high := by omega
      go_wp2
      go_ret
      refine ⟨_, rfl, ?_, HM.out.below⟩
      have h := HM.out.own (.head _)
      rw [HE.out] at h
      have h2 := h
      simp only [wipeL_length] at h2
      exact (show OwnC wr w.heap.size (sl g L.length cp) (wipeL low ii a L) by unfold OwnC; rw [wipeL_length]; exact h2)
end Go.Proofs.YtpmfjombfcnhmaaGreatDoor
