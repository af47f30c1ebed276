/- A new screen may be; the laws' own look at one. -/
import Derived.Test.YtbjckahaalbpaaaDoorNew
set_option linter.unusedVariables false
set_option linter.unusedSimpArgs false
set_option linter.unnecessarySimpa false
namespace Go.Proofs.YtbjckahaalbpaaaDoor
open Go Go.RowKit Go.Proofs.YtbjckahaalbpaaaDoorW.PrintLast

theorem at_blank {n i : Nat} {a : Attr} (h : i < n) : at_ (blankL n a) i = bare a := at_tab h
theorem cellOk_bare : cellOk (bare plainA) = true := by decide
theorem rowOk_all {L : List Cell} (h1 : 1 ≤ L.length) (h2 : L.length ≤ 40) (h : ∀ i, i < L.length → at_ L i = bare plainA) : rowOk L := by
  refine rowOk_of h1 h2 (fun i hi => ⟨by rw [h i hi]; exact cellOk_bare, ?_, fun h0 hw => ?_⟩) ?_
  · rw [h i hi]
    constructor
    · intro h2; cases h2
    · rintro ⟨h0, hw⟩
      rw [h (i - 1) (by omega)] at hw
      cases hw
  · rw [h (i - 1) (by omega)] at hw; cases hw
  · rw [h _ (by omega)]; decide
theorem gridOk_blank {r c : Nat} (hr : 1 ≤ r ∧ r ≤ 40) (hc : 1 ≤ c ∧ c ≤ 40) : gridOk r c (blankL (r * c) plainA) := by
  refine ⟨sidesOk_iff.2 ⟨by omega, by omega, by omega, by omega⟩, by rw [blankL_length]; push_cast; rfl, fun i hi => ?_⟩
  have hi2 : i < r := by omega
  have hb := row_in (c := c) hi2
  refine rowOk_all (by simp; omega) (by simp; omega) fun j hj => ?_
  simp only [Int.toNat_natCast, sub_length] at hj ⊢
  rw [sub_at hj, at_blank (by omega)]
theorem scrB_new {r c : Nat} (hr : 1 ≤ r ∧ r ≤ 40) (hc : 1 ≤ c ∧ c ≤ 40) : scrB (newScr r c) = true := by
  have hg := gridB_yes (gridOk_blank hr hc)
  have hcur : curOk fC r c = true := by
    have h1 : attrOk plainA = true := by decide
    have h2 : setOk1 0 = true := by decide
    have h3 : (0 : Int) < r := by omega
    have h4 : (0 : Int) < c := by omega
    simp [curOk, fC, h1, h2, h3, h4]
    omega
  have hmar : marginsOk (newScr r c) = true := by
    unfold marginsOk newScr
    simp only
    split <;> simp <;> omega
  have ht : titleOk ⟨#[]⟩ = true := by decide
  have hl : (wideT [] c).length = c := by simp [wideT]
  have e1 : gridsOk (newScr r c) = true := by
    unfold gridsOk newScr
    simp [hg]
  have e2 : cursOk (newScr r c) = true := by
    unfold cursOk newScr
    simp [hcur]
  have e3 : restOk (newScr r c) = true := by
    unfold restOk
    rw [hmar]
    simp [newScr, hl, ht]
  rw [scrB, e1, e2, e3]; rfl
theorem newScr_small {r c : Nat} (hr : r ≤ 40) (hc : c ≤ 40) : (newScr r c).small := by
  have h := mul_le40 hr hc
  have ht : txtOk (blankL (r * c) plainA) := fun i hi => by rw [at_blank (by simpa using hi)]; decide
  have h2 : (wideT [] c).length = c := by simp [wideT]
  refine ⟨by simp [newScr]; omega, by simp [newScr]; omega, by simp [newScr, h2]; omega, (by decide : (0 : Nat) ≤ 1048576), ht, ht⟩
theorem num10_any (x : Int) (w : World) : Calls Tryd.prog 26 #[.int .i64 x] w fun e w' => e = .returned (.int .i64 x) ∧ w = w' := by
  go_enter Tryd.func26, Tryd.ntmps26
  go_wp2
  go_ret
  exact ⟨rfl, rfl⟩
set_option maxRecDepth 100000 in
set_option maxHeartbeats 1000000 in
theorem wakes10_any (w : World) (hT : U8 w) : Calls Tryd.prog 29 #[] w fun e w' => e = .returned (.bool true) ∧ Below w.heap.size w w' := by
  have HT := hid hT
  have HX := hid (Mem.start w)
  clear hT
  go_enter Tryd.func29, Tryd.ntmps29
  go_wp2_with (go_at_call 53; fail)
  refine (newR_any (r := 3) (c := 4) (by decide) (by decide) w).mono ?_
  rintro e w1 ⟨m, o, t, rfl, hO, hB⟩
  have HR := hid (hO.rd (newScr_small (by decide) (by decide)))
  have HM := hid (HX.out.call hB)
  have HT1 := hid (HT.out.below hB)
  clear hO hB HX
  go_wp2_with (go_at_call 24; fail)
  refine (move_good HR.out HT1.out (scrB_new (by decide) (by decide)) (by decide) (by decide) (by decide)).mono ?_
  rintro e w2 ⟨m', o', t', rfl, hO, hB⟩
  obtain ⟨A1, k1, rfl⟩ := hO.hm.slice
  obtain ⟨A2, k2, rfl⟩ := hO.ho.slice
  obtain ⟨A3, k3, rfl⟩ := ownB_slice hO.ht
  have HM2 := hid (HM.out.call hB)
  clear hO hB HM HR HT1
  have HM := HM2
  clear HM2
  obtain ⟨s', hs'⟩ : ∃ s', toS (newScr 3 4) 72 (max 1 2) (max 1 3) = s' := ⟨_, rfl⟩
  have hrow : s'.cur.row = 1 := by rw [← hs']; rfl
  have hcol : s'.cur.col = 2 := by rw [← hs']; rfl
  rw [hs']
  have HROW : Hid ((scrL s' (.slice A1 s'.ms.length k1) (.slice A2 s'.os.length k2) (.slice A3 s'.tabs.length k3))[7]? = some (.int .i64 1)) := hid (congrArg (fun x => some (Value.int .i64 x)) hrow)
  have HCOL : Hid ((scrL s' (.slice A1 s'.ms.length k1) (.slice A2 s'.os.length k2) (.slice A3 s'.tabs.length k3))[8]? = some (.int .i64 2)) := hid (congrArg (fun x => some (Value.int .i64 x)) hcol)
  clear hs' hrow hcol
  go_upto_region 2 with (first | ((with_reducible refine wl_id ?_); refine m_alloc HM.out rfl rfl info_zS ?_; intro b' wy hM; simp only [Act.put, List.setIfInBounds_toArray, List.set_cons_zero, List.set_cons_succ]; have HMy := hid (show Mem w wy [(b', Row 37 zL)] from hM); clear hM) | ((with_reducible refine wl_id ?_); refine m_storeA HMy.out rfl rfl rfl 0 rfl rfl rfl (by kernel_rfl) rfl ?_; intro wx hM; simp only [Act.put, List.setIfInBounds_toArray, List.set_cons_zero, List.set_cons_succ]; simp only [List.set_cons_succ, List.set_cons_zero] at hM; have HMx := hid hM; clear hM))
  clear HM HMy
  have HM := HMx
  clear HMx
  refine m_seq HM.out (fun hne => ?_)
  repeat (first | (go_big_quiet_want; refine mq_load rfl rfl (by first | exact .head _ | exact .tail _ (.head _) | exact .tail _ (.tail _ (.head _)) | exact .tail _ (.tail _ (.tail _ (.head _))) | exact .tail _ (.tail _ (.tail _ (.tail _ (.head _)))) | exact .tail _ (.tail _ (.tail _ (.tail _ (.tail _ (.head _))))) | exact .tail _ (.tail _ (.tail _ (.tail _ (.tail _ (.tail _ (.head _)))))) | exact .tail _ (.tail _ (.tail _ (.tail _ (.tail _ (.tail _ (.tail _ (.head _)))))))) HROW.out (by first | exact Tryd.underlying3 | exact Tryd.underlying4 | exact Tryd.underlying9 | exact Tryd.underlying28 | exact Tryd.underlying35) rfl ?_; simp only [Act.put, List.setIfInBounds_toArray, List.set_cons_zero, List.set_cons_succ]; go_big_quiet_on) | (go_big_quiet_want; refine mq_load rfl rfl (by first | exact .head _ | exact .tail _ (.head _) | exact .tail _ (.tail _ (.head _)) | exact .tail _ (.tail _ (.tail _ (.head _))) | exact .tail _ (.tail _ (.tail _ (.tail _ (.head _)))) | exact .tail _ (.tail _ (.tail _ (.tail _ (.tail _ (.head _))))) | exact .tail _ (.tail _ (.tail _ (.tail _ (.tail _ (.tail _ (.head _)))))) | exact .tail _ (.tail _ (.tail _ (.tail _ (.tail _ (.tail _ (.tail _ (.head _)))))))) HCOL.out (by first | exact Tryd.underlying3 | exact Tryd.underlying4 | exact Tryd.underlying9 | exact Tryd.underlying28 | exact Tryd.underlying35) rfl ?_; simp only [Act.put, List.setIfInBounds_toArray, List.set_cons_zero, List.set_cons_succ]; go_big_quiet_on) | go_big_quiet_step ((go_at_call 26; with_reducible exact m_still _ (num10_any _ _))))
  refine wpQuiet_nil ?_
  intro wq hM
  have HM' := hid hM
  clear hM HM hne
  go_wp2
  go_ret
  exact ⟨rfl, HM'.out.below⟩
end Go.Proofs.YtbjckahaalbpaaaDoor
