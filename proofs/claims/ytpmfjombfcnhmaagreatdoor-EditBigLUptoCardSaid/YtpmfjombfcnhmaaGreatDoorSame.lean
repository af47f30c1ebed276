/- An answer written over; the look at an answer. -/
import Derived.Test.YtpmfjombfcnhmaaGreatDoorSS
set_option linter.unusedVariables false
set_option linter.unusedSimpArgs false
namespace Go.Proofs.YtpmfjombfcnhmaaGreatDoor
open Go Go.RowKit

theorem apart_kept {w w1 : World} {base n : Nat} {e : TypeId} {size : Nat} {x y : Value} {ys : List Value} (h : w.ownsRow base e size y n ys) (hg : w.grownBy w1 x.ownBlock) (ha : apartV x y) : w1.ownsRow base e size y n ys :=
  h.kept hg ha
set_option maxHeartbeats 1000000 in
theorem boolsG_any (l : List Bool) (v : Value) (base : Nat) (w : World) (hO : OwnB w base v l) (hl : l.length ≤ 1048576) :
    Calls Tryz.prog 85 #[v] w fun e w' => e = .returned (.tuple #[]) ∧ w.grownBy w' v.ownBlock := by
  by_cases h0 : l.length = 0
  · obtain ⟨A, c, rfl⟩ := ownB_slice hO
    rw [h0]
    clear hO
    go_enter Tryz.func85, Tryz.ntmps85
    go_wp2
    go_loopg [2] 0 (fun k v2 wr => v2 = .int .i64 0 ∧ Hid (w.grownBy wr (Value.ownBlock (.slice A 0 c))))
    case atStart => exact ⟨rfl, hid (grown_refl _ _)⟩
    case round =>
      obtain ⟨rfl, HB⟩ := hrel
      go_wp2
      go_end0
      exact ⟨rfl, HB.out⟩
  · obtain ⟨g, cap, rfl⟩ := ownB_at hO (by omega)
    have HG := hid (show base ≤ g from (hO.lt g rfl).1)
    have HO0 := hid hO
    obtain ⟨n, hn⟩ : ∃ n, l.length = n := ⟨_, rfl⟩
    have HN := hid hn
    rw [hn]; rw [hn] at hl h0
    clear hO hn
    go_enter Tryz.func85, Tryz.ntmps85
    go_wp2
    go_loopg [2] n (fun k v2 wr => ∃ (i : Nat) (m : List Bool), v2 = .int .i64 i ∧ i ≤ n ∧ k + i = n ∧ Hid (m.length = n) ∧ Hid (OwnB wr base (.slice (some ⟨g, 0, none⟩) n cap) m) ∧ Hid (w.grownBy wr (some g)))
    case atStart => exact ⟨0, l, rfl, by omega, by omega, HN, by have := HO0.out; rw [HN.out] at this; exact hid this, hid (grown_refl _ _)⟩
    case round =>
      obtain ⟨i, m, rfl, hi, hk, HM, HO, HB⟩ := hrel
      by_cases hlt : i < n
      · have hlt2 : (i : Int) < (n : Int) := by omega
        have hce := ownB_cell HO.out (i := i) (by rw [HM.out]; exact hlt)
        have hfr := ownB_free HO.out i
        go_wp2
        go_roundg (gk - 1)
        case measure => omega
        case rel => exact ⟨i + 1, _, by go_num, by omega, by omega, hid (by rw [List.length_set]; exact HM.out), hid (ownB_set HO.out (by rw [HM.out]; exact hlt) _), hid (grown_trans HB.out (grown_set _ _ _ _))⟩
      · have hlt2 : ¬ (i : Int) < (n : Int) := by omega
        go_wp2
        go_end0
        exact ⟨rfl, HB.out⟩

set_option maxRecDepth 100000 in
set_option maxHeartbeats 1000000 in
theorem spoilS_any {s : Scr} {m o t : Value} {w0 w : World} {F : List Ent} (hM : Mem w0 w F) (hO : OwnScr w w0.heap.size s m o t) (hs : s.small) (hF : ∀ x ∈ F, m.ownBlock ≠ some x.1 ∧ o.ownBlock ≠ some x.1 ∧ t.ownBlock ≠ some x.1) :
    Calls Tryz.prog 50 #[.agg (scrL s m o t).toArray] w fun e w' => e = .returned (.tuple #[]) ∧ Mem w0 w' F := by
  have HX := hid hM
  have HO := hid hO
  have HS := hid hs
  have HF := hid hF
  clear hM hO hs hF
  go_enter Tryz.func50, Tryz.ntmps50
  go_upto_region 0 with (fail)
  refine wp_region_lit ?_
  refine m_boxB HX.out rfl rfl rfl ?_
  intro b w1 hb hB1 hM
  simp only [Act.put, List.setIfInBounds_toArray, List.set_cons_zero, List.set_cons_succ]
  have HM := hid hM
  have HO1 := hid (HO.out.below hB1)
  have hG : ∀ (x : Value) (n : Nat) (e : TypeId) (q : Nat) (xs : List Value), w.ownsRow w0.heap.size e q x n xs → (∀ y ∈ F, x.ownBlock ≠ some y.1) → ∀ k, x.ownBlock = some k → w0.heap.size ≤ k ∧ ∀ y ∈ ((b, Row 38 (scrL s m o t)) :: F : List Ent), y.1 ≠ k := fun x n e q xs hx hy k hk => by
    obtain ⟨h1, h2⟩ := hx.lt k hk
    refine ⟨h1, fun y hy2 => ?_⟩
    rcases List.mem_cons.1 hy2 with rfl | hy2
    · show b ≠ k; omega
    · intro e2; exact hy y hy2 (by rw [hk, e2])
  have HLM := hid (hG m _ _ _ _ HO.out.hm fun y hy => (HF.out y hy).1)
  have HLO := hid (hG o _ _ _ _ HO.out.ho fun y hy => (HF.out y hy).2.1)
  have HLT := hid (hG t _ _ _ _ HO.out.ht fun y hy => (HF.out y hy).2.2)
  clear hM hB1 hb hG HX HO HF
  go_wp2_with (first | ((with_reducible refine wl_id ?_); refine m_load HM.out rfl rfl rfl (by first | exact .head _ | exact .tail _ (.head _) | exact .tail _ (.tail _ (.head _)) | exact .tail _ (.tail _ (.tail _ (.head _))) | exact .tail _ (.tail _ (.tail _ (.tail _ (.head _)))) | exact .tail _ (.tail _ (.tail _ (.tail _ (.tail _ (.head _))))) | exact .tail _ (.tail _ (.tail _ (.tail _ (.tail _ (.tail _ (.head _)))))) | exact .tail _ (.tail _ (.tail _ (.tail _ (.tail _ (.tail _ (.tail _ (.head _)))))))) rfl (by first | exact Tryz.underlying3 | exact Tryz.underlying4 | exact Tryz.underlying9 | exact Tryz.underlying29 | exact Tryz.underlying36) rfl ?_; simp only [Act.put, List.setIfInBounds_toArray, List.set_cons_zero, List.set_cons_succ]) | (go_at_call 84; fail))
  refine (spoilC_any s.ms m _ w1 HO1.out.hm HS.out.1).mono ?_
  rintro e w2 ⟨rfl, hg⟩
  have HO2 := hid (apart_kept HO1.out.ho hg HO1.out.mo)
  have HT2 := hid (apart_kept HO1.out.ht hg HO1.out.mt)
  have hM := HM.out.other hg HLM.out
  clear HM HLM hg
  have HM := hid hM
  clear hM
  go_wp2_with (first | ((with_reducible refine wl_id ?_); refine m_load HM.out rfl rfl rfl (by first | exact .head _ | exact .tail _ (.head _) | exact .tail _ (.tail _ (.head _)) | exact .tail _ (.tail _ (.tail _ (.head _))) | exact .tail _ (.tail _ (.tail _ (.tail _ (.head _)))) | exact .tail _ (.tail _ (.tail _ (.tail _ (.tail _ (.head _))))) | exact .tail _ (.tail _ (.tail _ (.tail _ (.tail _ (.tail _ (.head _)))))) | exact .tail _ (.tail _ (.tail _ (.tail _ (.tail _ (.tail _ (.tail _ (.head _)))))))) rfl (by first | exact Tryz.underlying3 | exact Tryz.underlying4 | exact Tryz.underlying9 | exact Tryz.underlying29 | exact Tryz.underlying36) rfl ?_; simp only [Act.put, List.setIfInBounds_toArray, List.set_cons_zero, List.set_cons_succ]) | (go_at_call 84; fail))
  refine (spoilC_any s.os o _ w2 HO2.out HS.out.2.1).mono ?_
  rintro e w3 ⟨rfl, hg⟩
  have HT3 := hid (apart_kept HT2.out hg HO1.out.ot)
  have hM := HM.out.other hg HLO.out
  clear HM HLO hg
  have HM := hid hM
  clear hM
  go_wp2_with (first | ((with_reducible refine wl_id ?_); refine m_load HM.out rfl rfl rfl (by first | exact .head _ | exact .tail _ (.head _) | exact .tail _ (.tail _ (.head _)) | exact .tail _ (.tail _ (.tail _ (.head _))) | exact .tail _ (.tail _ (.tail _ (.tail _ (.head _)))) | exact .tail _ (.tail _ (.tail _ (.tail _ (.tail _ (.head _))))) | exact .tail _ (.tail _ (.tail _ (.tail _ (.tail _ (.tail _ (.head _)))))) | exact .tail _ (.tail _ (.tail _ (.tail _ (.tail _ (.tail _ (.tail _ (.head _)))))))) rfl (by first | exact Tryz.underlying3 | exact Tryz.underlying4 | exact Tryz.underlying9 | exact Tryz.underlying29 | exact Tryz.underlying36) rfl ?_; simp only [Act.put, List.setIfInBounds_toArray, List.set_cons_zero, List.set_cons_succ]) | (go_at_call 85; fail))
  refine (boolsG_any s.tabs t _ w3 HT3.out HS.out.2.2.1).mono ?_
  rintro e w4 ⟨rfl, hg⟩
  have hM := HM.out.other hg HLT.out
  clear HM HLT hg
  have HM := hid (hM.sub (List.sublist_cons_self _ _))
  clear hM
  go_wp2
  go_end0
  exact ⟨rfl, HM.out⟩
/-- the screen that is none -/
def zC : Cur := ⟨0, 0, false, ⟨0, 0, 0⟩, 0, 0, 0, false⟩
def zS : Scr := ⟨0, 0, [], 0, 0, [], false, zC, zC, zC, 0, 0, [], 0, ⟨#[]⟩, 0⟩
def zL : List Value := scrL zS (.slice none 0 0) (.slice none 0 0) (.slice none 0 0)
theorem zS_small : zS.small := ⟨by decide, by decide, by decide, by decide, (fun i hi => absurd hi (by simp [zS])), fun i hi => absurd hi (by simp [zS])⟩
theorem zS_own (w : World) (base : Nat) : OwnScr w base zS (.slice none 0 0) (.slice none 0 0) (.slice none 0 0) := ⟨OwnC.nil _ _, OwnC.nil _ _, World.ownsRow_nil _ _ _ _, .inl rfl, .inl rfl, .inl rfl⟩
theorem zS_rd (w : World) : RdScr w zS (.slice none 0 0) (.slice none 0 0) (.slice none 0 0) := (zS_own w 0).rd zS_small
theorem build_zS (w : World) : (Instr.build 38 #[]).run Tryz.prog w = .ok (.agg zL.toArray) w := by kernel_rfl
theorem info_zS : (Tryz.prog.info? 38).map (·.zero) = some (some (.agg zL.toArray)) := by kernel_rfl
theorem num8_any (x : Int) (w : World) : Calls Tryz.prog 48 #[.int .i64 x] w fun e w' => e = .returned (.int .i64 x) ∧ w = w' := by
  go_enter Tryz.func48, Tryz.ntmps48
  go_wp2
  go_ret
  exact ⟨rfl, rfl⟩
/-- an answer is as it is due -/
def asDue (may : Bool) (e : Int) (x want : Scr) : Prop := if may = true then e = 0 ∧ x = want else e = 1 ∧ x = zS

set_option maxRecDepth 100000 in
set_option maxHeartbeats 2000000 in
theorem same_may {r s : Scr} {mx ox tx mw ow tw mi oi ti m o t : Value} {wB w : World} (hB : Below wB.heap.size wB w) (hO : OwnScr w wB.heap.size r mx ox tx) (hr : r.small) (hw : RdScr w r mw ow tw) (hi : RdScr wB s mi oi ti) (hs : RdScr wB s m o t) :
    Calls Tryz.prog 25 #[.agg (scrL r mx ox tx).toArray, .int .i64 0, .bool true, .agg (scrL r mw ow tw).toArray, .agg (scrL s mi oi ti).toArray, .agg (scrL s m o t).toArray] w fun e w' => e = .returned (.bool true) ∧ Below wB.heap.size wB w' := by
  have HB := hid hB
  have HO := hid hO
  have HR := hid hr
  have HE1 : Hid (∀ W, Below w.heap.size w W → Calls Tryz.prog 49 #[.agg (scrL r mx ox tx).toArray, .agg (scrL r mw ow tw).toArray] W fun e w' => e = .returned (.bool true) ∧ Below W.heap.size W w') := hid fun W hW => eqS_yes ((hO.rd hr).below hW) (hw.below hW)
  have HE2 : Hid (∀ W, Below wB.heap.size wB W → Calls Tryz.prog 49 #[.agg (scrL s mi oi ti).toArray, .agg (scrL s m o t).toArray] W fun e w' => e = .returned (.bool true) ∧ Below W.heap.size W w') := hid fun W hW => eqS_yes (hi.below hW) (hs.below hW)
  have HX := hid (Mem.start w)
  clear hB hO hr hw hi hs
  go_enter Tryz.func25, Tryz.ntmps25
  go_upto_region 0 with (fail)
  refine wp_region_lit ?_
  refine m_box HX.out rfl rfl rfl ?_
  intro b1 w1 hM1
  simp only [Act.put, List.setIfInBounds_toArray, List.set_cons_zero, List.set_cons_succ]
  refine m_box hM1 rfl rfl rfl ?_
  intro b2 w2 hM2
  simp only [Act.put, List.setIfInBounds_toArray, List.set_cons_zero, List.set_cons_succ]
  refine m_box hM2 rfl rfl rfl ?_
  intro b3 w3 hM3
  simp only [Act.put, List.setIfInBounds_toArray, List.set_cons_zero, List.set_cons_succ]
  refine m_box hM3 rfl rfl rfl ?_
  intro b4 w4 hM
  simp only [Act.put, List.setIfInBounds_toArray, List.set_cons_zero, List.set_cons_succ]
  have HM := hid hM
  clear hM hM1 hM2 hM3
  go_upto_region 5 with (fail)
  refine m_seq HM.out fun hne => ?_
  repeat (first | (go_big_quiet_want; refine mq_load rfl rfl (by first | exact .head _ | exact .tail _ (.head _) | exact .tail _ (.tail _ (.head _)) | exact .tail _ (.tail _ (.tail _ (.head _))) | exact .tail _ (.tail _ (.tail _ (.tail _ (.head _)))) | exact .tail _ (.tail _ (.tail _ (.tail _ (.tail _ (.head _))))) | exact .tail _ (.tail _ (.tail _ (.tail _ (.tail _ (.tail _ (.head _)))))) | exact .tail _ (.tail _ (.tail _ (.tail _ (.tail _ (.tail _ (.tail _ (.head _)))))))) rfl (by first | exact Tryz.underlying3 | exact Tryz.underlying4 | exact Tryz.underlying9 | exact Tryz.underlying29 | exact Tryz.underlying36) rfl ?_; simp only [Act.put, List.setIfInBounds_toArray, List.set_cons_zero, List.set_cons_succ]; go_big_quiet_on) | (go_big_quiet_want; refine mq_loadS rfl rfl (by first | exact .head _ | exact .tail _ (.head _) | exact .tail _ (.tail _ (.head _)) | exact .tail _ (.tail _ (.tail _ (.head _))) | exact .tail _ (.tail _ (.tail _ (.tail _ (.head _)))) | exact .tail _ (.tail _ (.tail _ (.tail _ (.tail _ (.head _))))) | exact .tail _ (.tail _ (.tail _ (.tail _ (.tail _ (.tail _ (.head _)))))) | exact .tail _ (.tail _ (.tail _ (.tail _ (.tail _ (.tail _ (.tail _ (.head _)))))))) (scrL r mx ox tx) rfl Tryz.underlying38 rfl (by kernel_rfl) ?_; simp only [Act.put, List.setIfInBounds_toArray, List.set_cons_zero, List.set_cons_succ]; go_big_quiet_on) | (go_big_quiet_want; refine mq_loadS rfl rfl (by first | exact .head _ | exact .tail _ (.head _) | exact .tail _ (.tail _ (.head _)) | exact .tail _ (.tail _ (.tail _ (.head _))) | exact .tail _ (.tail _ (.tail _ (.tail _ (.head _)))) | exact .tail _ (.tail _ (.tail _ (.tail _ (.tail _ (.head _))))) | exact .tail _ (.tail _ (.tail _ (.tail _ (.tail _ (.tail _ (.head _)))))) | exact .tail _ (.tail _ (.tail _ (.tail _ (.tail _ (.tail _ (.tail _ (.head _)))))))) (scrL r mw ow tw) rfl Tryz.underlying38 rfl (by kernel_rfl) ?_; simp only [Act.put, List.setIfInBounds_toArray, List.set_cons_zero, List.set_cons_succ]; go_big_quiet_on) | (go_big_quiet_want; refine mq_loadS rfl rfl (by first | exact .head _ | exact .tail _ (.head _) | exact .tail _ (.tail _ (.head _)) | exact .tail _ (.tail _ (.tail _ (.head _))) | exact .tail _ (.tail _ (.tail _ (.tail _ (.head _)))) | exact .tail _ (.tail _ (.tail _ (.tail _ (.tail _ (.head _))))) | exact .tail _ (.tail _ (.tail _ (.tail _ (.tail _ (.tail _ (.head _)))))) | exact .tail _ (.tail _ (.tail _ (.tail _ (.tail _ (.tail _ (.tail _ (.head _)))))))) (scrL s mi oi ti) rfl Tryz.underlying38 rfl (by kernel_rfl) ?_; simp only [Act.put, List.setIfInBounds_toArray, List.set_cons_zero, List.set_cons_succ]; go_big_quiet_on) | (go_big_quiet_want; refine mq_loadS rfl rfl (by first | exact .head _ | exact .tail _ (.head _) | exact .tail _ (.tail _ (.head _)) | exact .tail _ (.tail _ (.tail _ (.head _))) | exact .tail _ (.tail _ (.tail _ (.tail _ (.head _)))) | exact .tail _ (.tail _ (.tail _ (.tail _ (.tail _ (.head _))))) | exact .tail _ (.tail _ (.tail _ (.tail _ (.tail _ (.tail _ (.head _)))))) | exact .tail _ (.tail _ (.tail _ (.tail _ (.tail _ (.tail _ (.tail _ (.head _)))))))) (scrL s m o t) rfl Tryz.underlying38 rfl (by kernel_rfl) ?_; simp only [Act.put, List.setIfInBounds_toArray, List.set_cons_zero, List.set_cons_succ]; go_big_quiet_on) | go_big_quiet_step ((first | (go_at_call 48; with_reducible exact m_still _ (num8_any _ _)) | (go_at_call 49; with_reducible exact m_call _ (HE1.out _ (MemW.below _))) | (go_at_call 49; with_reducible exact m_call _ (HE2.out _ (HB.out.trans ((MemW.below _).mono HB.out.size)))))))
  refine wpQuiet_nil ?_
  intro w5 hM
  have HM' := hid hM
  have hF : ∀ x ∈ ([(b4, Row 38 (scrL s m o t)), (b3, Row 38 (scrL s mi oi ti)), (b2, Row 38 (scrL r mw ow tw)), (b1, Row 38 (scrL r mx ox tx))] : List Ent), mx.ownBlock ≠ some x.1 ∧ ox.ownBlock ≠ some x.1 ∧ tx.ownBlock ≠ some x.1 := fun x hx => by
    have h0 := (hM.here x hx).1
    refine ⟨fun e => ?_, fun e => ?_, fun e => ?_⟩
    · have := (HO.out.hm.lt _ e).2; omega
    · have := (HO.out.ho.lt _ e).2; omega
    · have := (HO.out.ht.lt _ e).2; omega
  have HS : Hid (Calls Tryz.prog 50 #[.agg (scrL r mx ox tx).toArray] w5 _) := hid (spoilS_any (hM.lower HB.out) (HO.out.below hM.below) HR.out hF)
  clear hM hF HM
  have HM := HM'
  clear HM' HX HE1 HR HO
  go_wp2_with (first | ((with_reducible refine wl_id ?_); refine m_loadS HM.out rfl rfl rfl (by first | exact .head _ | exact .tail _ (.head _) | exact .tail _ (.tail _ (.head _)) | exact .tail _ (.tail _ (.tail _ (.head _))) | exact .tail _ (.tail _ (.tail _ (.tail _ (.head _)))) | exact .tail _ (.tail _ (.tail _ (.tail _ (.tail _ (.head _))))) | exact .tail _ (.tail _ (.tail _ (.tail _ (.tail _ (.tail _ (.head _)))))) | exact .tail _ (.tail _ (.tail _ (.tail _ (.tail _ (.tail _ (.tail _ (.head _)))))))) (scrL r mx ox tx) rfl Tryz.underlying38 rfl (by kernel_rfl) ?_; simp only [Act.put, List.setIfInBounds_toArray, List.set_cons_zero, List.set_cons_succ]) | (go_at_call 50; fail))
  refine HS.out.mono ?_
  rintro e w6 ⟨rfl, hM⟩
  clear HM HS
  have HM := hid hM
  clear hM
  go_wp2_with (first | ((with_reducible refine wl_id ?_); refine m_loadS HM.out rfl rfl rfl (by first | exact .head _ | exact .tail _ (.head _) | exact .tail _ (.tail _ (.head _)) | exact .tail _ (.tail _ (.tail _ (.head _))) | exact .tail _ (.tail _ (.tail _ (.tail _ (.head _)))) | exact .tail _ (.tail _ (.tail _ (.tail _ (.tail _ (.head _))))) | exact .tail _ (.tail _ (.tail _ (.tail _ (.tail _ (.tail _ (.head _)))))) | exact .tail _ (.tail _ (.tail _ (.tail _ (.tail _ (.tail _ (.tail _ (.head _)))))))) (scrL s mi oi ti) rfl Tryz.underlying38 rfl (by kernel_rfl) ?_; simp only [Act.put, List.setIfInBounds_toArray, List.set_cons_zero, List.set_cons_succ]) | ((with_reducible refine wl_id ?_); refine m_loadS HM.out rfl rfl rfl (by first | exact .head _ | exact .tail _ (.head _) | exact .tail _ (.tail _ (.head _)) | exact .tail _ (.tail _ (.tail _ (.head _))) | exact .tail _ (.tail _ (.tail _ (.tail _ (.head _)))) | exact .tail _ (.tail _ (.tail _ (.tail _ (.tail _ (.head _))))) | exact .tail _ (.tail _ (.tail _ (.tail _ (.tail _ (.tail _ (.head _)))))) | exact .tail _ (.tail _ (.tail _ (.tail _ (.tail _ (.tail _ (.tail _ (.head _)))))))) (scrL s m o t) rfl Tryz.underlying38 rfl (by kernel_rfl) ?_; simp only [Act.put, List.setIfInBounds_toArray, List.set_cons_zero, List.set_cons_succ]) | (go_at_call 49; fail))
  refine (HE2.out _ HM.out.below).mono ?_
  rintro e w7 ⟨rfl, hB7⟩
  have HM7 := hid (HM.out.call hB7)
  clear hB7
  go_wp2
  go_ret
  exact ⟨rfl, HM7.out.below⟩

set_option maxRecDepth 100000 in
set_option maxHeartbeats 2000000 in
theorem same_not {r s : Scr} {mx ox tx mw ow tw mi oi ti m o t : Value} {wB w : World} (hB : Below wB.heap.size wB w) (hO : OwnScr w wB.heap.size zS mx ox tx) (hi : RdScr wB s mi oi ti) (hs : RdScr wB s m o t) :
    Calls Tryz.prog 25 #[.agg (scrL zS mx ox tx).toArray, .int .i64 1, .bool false, .agg (scrL r mw ow tw).toArray, .agg (scrL s mi oi ti).toArray, .agg (scrL s m o t).toArray] w fun e w' => e = .returned (.bool true) ∧ Below wB.heap.size wB w' := by
  have HB := hid hB
  have HO := hid hO
  have HR := hid zS_small
  have HE1 : Hid (∀ W, Below w.heap.size w W → Calls Tryz.prog 49 #[.agg (scrL zS mx ox tx).toArray, .agg zL.toArray] W fun e w' => e = .returned (.bool true) ∧ Below W.heap.size W w') := hid fun W hW => eqS_yes ((hO.rd zS_small).below hW) (zS_rd W)
  have HE2 : Hid (∀ W, Below wB.heap.size wB W → Calls Tryz.prog 49 #[.agg (scrL s mi oi ti).toArray, .agg (scrL s m o t).toArray] W fun e w' => e = .returned (.bool true) ∧ Below W.heap.size W w') := hid fun W hW => eqS_yes (hi.below hW) (hs.below hW)
  have HX := hid (Mem.start w)
  clear hB hO hi hs
  go_enter Tryz.func25, Tryz.ntmps25
  go_upto_region 0 with (fail)
  refine wp_region_lit ?_
  refine m_box HX.out rfl rfl rfl ?_
  intro b1 w1 hM1
  simp only [Act.put, List.setIfInBounds_toArray, List.set_cons_zero, List.set_cons_succ]
  refine m_box hM1 rfl rfl rfl ?_
  intro b2 w2 hM2
  simp only [Act.put, List.setIfInBounds_toArray, List.set_cons_zero, List.set_cons_succ]
  refine m_box hM2 rfl rfl rfl ?_
  intro b3 w3 hM3
  simp only [Act.put, List.setIfInBounds_toArray, List.set_cons_zero, List.set_cons_succ]
  refine m_box hM3 rfl rfl rfl ?_
  intro b4 w4 hM
  simp only [Act.put, List.setIfInBounds_toArray, List.set_cons_zero, List.set_cons_succ]
  have HM := hid hM
  clear hM hM1 hM2 hM3
  go_upto_region 4 with (fail)
  refine wp_region_lit ?_
  refine m_build0 rfl rfl (build_zS _) ?_
  simp only [Act.put, List.setIfInBounds_toArray, List.set_cons_zero, List.set_cons_succ]
  refine m_storeA HM.out rfl rfl rfl 2 rfl rfl rfl (by kernel_rfl) rfl ?_
  intro w4 hM
  simp only [Act.put, List.setIfInBounds_toArray, List.set_cons_zero, List.set_cons_succ]
  clear HM
  have HM := hid (show Mem w w4 [(b4, Row 38 (scrL s m o t)), (b3, Row 38 (scrL s mi oi ti)), (b2, Row 38 zL), (b1, Row 38 (scrL zS mx ox tx))] from hM)
  clear hM
  go_upto_region 5 with (fail)
  refine m_seq HM.out fun hne => ?_
  repeat (first | (go_big_quiet_want; refine mq_load rfl rfl (by first | exact .head _ | exact .tail _ (.head _) | exact .tail _ (.tail _ (.head _)) | exact .tail _ (.tail _ (.tail _ (.head _))) | exact .tail _ (.tail _ (.tail _ (.tail _ (.head _)))) | exact .tail _ (.tail _ (.tail _ (.tail _ (.tail _ (.head _))))) | exact .tail _ (.tail _ (.tail _ (.tail _ (.tail _ (.tail _ (.head _)))))) | exact .tail _ (.tail _ (.tail _ (.tail _ (.tail _ (.tail _ (.tail _ (.head _)))))))) rfl (by first | exact Tryz.underlying3 | exact Tryz.underlying4 | exact Tryz.underlying9 | exact Tryz.underlying29 | exact Tryz.underlying36) rfl ?_; simp only [Act.put, List.setIfInBounds_toArray, List.set_cons_zero, List.set_cons_succ]; go_big_quiet_on) | (go_big_quiet_want; refine mq_loadS rfl rfl (by first | exact .head _ | exact .tail _ (.head _) | exact .tail _ (.tail _ (.head _)) | exact .tail _ (.tail _ (.tail _ (.head _))) | exact .tail _ (.tail _ (.tail _ (.tail _ (.head _)))) | exact .tail _ (.tail _ (.tail _ (.tail _ (.tail _ (.head _))))) | exact .tail _ (.tail _ (.tail _ (.tail _ (.tail _ (.tail _ (.head _)))))) | exact .tail _ (.tail _ (.tail _ (.tail _ (.tail _ (.tail _ (.tail _ (.head _)))))))) (scrL zS mx ox tx) rfl Tryz.underlying38 rfl (by kernel_rfl) ?_; simp only [Act.put, List.setIfInBounds_toArray, List.set_cons_zero, List.set_cons_succ]; go_big_quiet_on) | (go_big_quiet_want; refine mq_loadS rfl rfl (by first | exact .head _ | exact .tail _ (.head _) | exact .tail _ (.tail _ (.head _)) | exact .tail _ (.tail _ (.tail _ (.head _))) | exact .tail _ (.tail _ (.tail _ (.tail _ (.head _)))) | exact .tail _ (.tail _ (.tail _ (.tail _ (.tail _ (.head _))))) | exact .tail _ (.tail _ (.tail _ (.tail _ (.tail _ (.tail _ (.head _)))))) | exact .tail _ (.tail _ (.tail _ (.tail _ (.tail _ (.tail _ (.tail _ (.head _)))))))) (zL) rfl Tryz.underlying38 rfl (by kernel_rfl) ?_; simp only [Act.put, List.setIfInBounds_toArray, List.set_cons_zero, List.set_cons_succ]; go_big_quiet_on) | (go_big_quiet_want; refine mq_loadS rfl rfl (by first | exact .head _ | exact .tail _ (.head _) | exact .tail _ (.tail _ (.head _)) | exact .tail _ (.tail _ (.tail _ (.head _))) | exact .tail _ (.tail _ (.tail _ (.tail _ (.head _)))) | exact .tail _ (.tail _ (.tail _ (.tail _ (.tail _ (.head _))))) | exact .tail _ (.tail _ (.tail _ (.tail _ (.tail _ (.tail _ (.head _)))))) | exact .tail _ (.tail _ (.tail _ (.tail _ (.tail _ (.tail _ (.tail _ (.head _)))))))) (scrL s mi oi ti) rfl Tryz.underlying38 rfl (by kernel_rfl) ?_; simp only [Act.put, List.setIfInBounds_toArray, List.set_cons_zero, List.set_cons_succ]; go_big_quiet_on) | (go_big_quiet_want; refine mq_loadS rfl rfl (by first | exact .head _ | exact .tail _ (.head _) | exact .tail _ (.tail _ (.head _)) | exact .tail _ (.tail _ (.tail _ (.head _))) | exact .tail _ (.tail _ (.tail _ (.tail _ (.head _)))) | exact .tail _ (.tail _ (.tail _ (.tail _ (.tail _ (.head _))))) | exact .tail _ (.tail _ (.tail _ (.tail _ (.tail _ (.tail _ (.head _)))))) | exact .tail _ (.tail _ (.tail _ (.tail _ (.tail _ (.tail _ (.tail _ (.head _)))))))) (scrL s m o t) rfl Tryz.underlying38 rfl (by kernel_rfl) ?_; simp only [Act.put, List.setIfInBounds_toArray, List.set_cons_zero, List.set_cons_succ]; go_big_quiet_on) | go_big_quiet_step ((first | (go_at_call 48; with_reducible exact m_still _ (num8_any _ _)) | (go_at_call 49; with_reducible exact m_call _ (HE1.out _ (MemW.below _))) | (go_at_call 49; with_reducible exact m_call _ (HE2.out _ (HB.out.trans ((MemW.below _).mono HB.out.size)))))))
  refine wpQuiet_nil ?_
  intro w5 hM
  have HM' := hid hM
  have hF : ∀ x ∈ ([(b4, Row 38 (scrL s m o t)), (b3, Row 38 (scrL s mi oi ti)), (b2, Row 38 zL), (b1, Row 38 (scrL zS mx ox tx))] : List Ent), mx.ownBlock ≠ some x.1 ∧ ox.ownBlock ≠ some x.1 ∧ tx.ownBlock ≠ some x.1 := fun x hx => by
    have h0 := (hM.here x hx).1
    refine ⟨fun e => ?_, fun e => ?_, fun e => ?_⟩
    · have := (HO.out.hm.lt _ e).2; omega
    · have := (HO.out.ho.lt _ e).2; omega
    · have := (HO.out.ht.lt _ e).2; omega
  have HS : Hid (Calls Tryz.prog 50 #[.agg (scrL zS mx ox tx).toArray] w5 _) := hid (spoilS_any (hM.lower HB.out) (HO.out.below hM.below) HR.out hF)
  clear hM hF HM
  have HM := HM'
  clear HM' HX HE1 HR HO
  go_wp2_with (first | ((with_reducible refine wl_id ?_); refine m_loadS HM.out rfl rfl rfl (by first | exact .head _ | exact .tail _ (.head _) | exact .tail _ (.tail _ (.head _)) | exact .tail _ (.tail _ (.tail _ (.head _))) | exact .tail _ (.tail _ (.tail _ (.tail _ (.head _)))) | exact .tail _ (.tail _ (.tail _ (.tail _ (.tail _ (.head _))))) | exact .tail _ (.tail _ (.tail _ (.tail _ (.tail _ (.tail _ (.head _)))))) | exact .tail _ (.tail _ (.tail _ (.tail _ (.tail _ (.tail _ (.tail _ (.head _)))))))) (scrL zS mx ox tx) rfl Tryz.underlying38 rfl (by kernel_rfl) ?_; simp only [Act.put, List.setIfInBounds_toArray, List.set_cons_zero, List.set_cons_succ]) | (go_at_call 50; fail))
  refine HS.out.mono ?_
  rintro e w6 ⟨rfl, hM⟩
  clear HM HS
  have HM := hid hM
  clear hM
  go_wp2_with (first | ((with_reducible refine wl_id ?_); refine m_loadS HM.out rfl rfl rfl (by first | exact .head _ | exact .tail _ (.head _) | exact .tail _ (.tail _ (.head _)) | exact .tail _ (.tail _ (.tail _ (.head _))) | exact .tail _ (.tail _ (.tail _ (.tail _ (.head _)))) | exact .tail _ (.tail _ (.tail _ (.tail _ (.tail _ (.head _))))) | exact .tail _ (.tail _ (.tail _ (.tail _ (.tail _ (.tail _ (.head _)))))) | exact .tail _ (.tail _ (.tail _ (.tail _ (.tail _ (.tail _ (.tail _ (.head _)))))))) (scrL s mi oi ti) rfl Tryz.underlying38 rfl (by kernel_rfl) ?_; simp only [Act.put, List.setIfInBounds_toArray, List.set_cons_zero, List.set_cons_succ]) | ((with_reducible refine wl_id ?_); refine m_loadS HM.out rfl rfl rfl (by first | exact .head _ | exact .tail _ (.head _) | exact .tail _ (.tail _ (.head _)) | exact .tail _ (.tail _ (.tail _ (.head _))) | exact .tail _ (.tail _ (.tail _ (.tail _ (.head _)))) | exact .tail _ (.tail _ (.tail _ (.tail _ (.tail _ (.head _))))) | exact .tail _ (.tail _ (.tail _ (.tail _ (.tail _ (.tail _ (.head _)))))) | exact .tail _ (.tail _ (.tail _ (.tail _ (.tail _ (.tail _ (.tail _ (.head _)))))))) (scrL s m o t) rfl Tryz.underlying38 rfl (by kernel_rfl) ?_; simp only [Act.put, List.setIfInBounds_toArray, List.set_cons_zero, List.set_cons_succ]) | (go_at_call 49; fail))
  refine (HE2.out _ HM.out.below).mono ?_
  rintro e w7 ⟨rfl, hB7⟩
  have HM7 := hid (HM.out.call hB7)
  clear hB7
  go_wp2
  go_ret
  exact ⟨rfl, HM7.out.below⟩

end Go.Proofs.YtpmfjombfcnhmaaGreatDoor
