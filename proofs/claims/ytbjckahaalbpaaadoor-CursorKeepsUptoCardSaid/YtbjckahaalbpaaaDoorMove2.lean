/- cursor.Move. -/
import Derived.Test.YtbjckahaalbpaaaDoorMove
set_option linter.unusedVariables false
set_option linter.unusedSimpArgs false
namespace Go.Proofs.YtbjckahaalbpaaaDoor
open Go Go.RowKit

set_option maxRecDepth 100000 in
set_option maxHeartbeats 4000000 in
theorem move_bad {s : Scr} {m o t : Value} {key n k : Int} {w : World} (hr : RdScr w s m o t) (hT : U8 w) (h : (scrB s && numOk n && numOk k && moveKey key) = false) :
    Calls Tryd.prog 24 #[.agg (scrL s m o t).toArray, .int .i64 key, .int .i64 n, .int .i64 k] w fun e w' => e = .returned (.tuple #[.agg zL.toArray, .int .i64 1]) ∧ Below w.heap.size w w' := by
  obtain ⟨b1, h1⟩ : ∃ b, scrB s = b := ⟨_, rfl⟩
  obtain ⟨b2, h2⟩ : ∃ b, numOk n = b := ⟨_, rfl⟩
  obtain ⟨b3, h3⟩ : ∃ b, numOk k = b := ⟨_, rfl⟩
  obtain ⟨b4, h4⟩ : ∃ b, moveKey key = b := ⟨_, rfl⟩
  rw [h1, h2, h3, h4] at h
  have HA : Hid (∀ W, Below w.heap.size w W → Calls Tryd.prog 46 #[.agg (scrL s m o t).toArray] W fun e w' => e = .returned (.bool b1) ∧ Below W.heap.size W w') := hid fun W hW => mayS_l h1 (hr.below hW) (hT.below hW)
  have HN1 : Hid (∀ W, Calls Tryd.prog 47 #[.int .i64 n] W fun e w' => e = .returned (.bool b2) ∧ W = w') := hid fun W => numC_is h2 W
  have HN2 : Hid (∀ W, Calls Tryd.prog 47 #[.int .i64 k] W fun e w' => e = .returned (.bool b3) ∧ W = w') := hid fun W => numC_is h3 W
  have HK : Hid (∀ W, Calls Tryd.prog 48 #[.int .i64 key] W fun e w' => e = .returned (.bool b4) ∧ W = w') := hid fun W => isK_is h4 W
  have HX := hid (Mem.start w)
  have H := hid h
  clear h h1 h2 h3 h4 hr hT
  go_enter Tryd.func24, Tryd.ntmps24
  go_upto_region 0 with (fail)
  refine wp_region_lit ?_
  refine m_box HX.out rfl rfl rfl ?_
  intro b w1 hM1
  simp only [Act.put, List.setIfInBounds_toArray, List.set_cons_zero, List.set_cons_succ]
  refine m_alloc hM1 rfl rfl info_zS ?_
  intro b' w2 hM
  simp only [Act.put, List.setIfInBounds_toArray, List.set_cons_zero, List.set_cons_succ]
  clear hM1
  have HM := hid (show Mem w w2 [(b', Row 37 zL), (b, Row 37 (scrL s m o t))] from hM)
  clear hM
  go_upto_region 1 with (fail)
  cases b1 with
  | false =>
    refine m_seq HM.out (fun hne => ?_); (repeat (first | (go_big_quiet_want; refine mq_load rfl rfl (by first | exact .head _ | exact .tail _ (.head _) | exact .tail _ (.tail _ (.head _)) | exact .tail _ (.tail _ (.tail _ (.head _))) | exact .tail _ (.tail _ (.tail _ (.tail _ (.head _)))) | exact .tail _ (.tail _ (.tail _ (.tail _ (.tail _ (.head _))))) | exact .tail _ (.tail _ (.tail _ (.tail _ (.tail _ (.tail _ (.head _)))))) | exact .tail _ (.tail _ (.tail _ (.tail _ (.tail _ (.tail _ (.tail _ (.head _)))))))) rfl (by first | exact Tryd.underlying3 | exact Tryd.underlying4 | exact Tryd.underlying9 | exact Tryd.underlying28 | exact Tryd.underlying35) rfl ?_; simp only [Act.put, List.setIfInBounds_toArray, List.set_cons_zero, List.set_cons_succ]; go_big_quiet_on) | (go_big_quiet_want; refine mq_loadS rfl rfl (by first | exact .head _ | exact .tail _ (.head _) | exact .tail _ (.tail _ (.head _)) | exact .tail _ (.tail _ (.tail _ (.head _))) | exact .tail _ (.tail _ (.tail _ (.tail _ (.head _)))) | exact .tail _ (.tail _ (.tail _ (.tail _ (.tail _ (.head _))))) | exact .tail _ (.tail _ (.tail _ (.tail _ (.tail _ (.tail _ (.head _)))))) | exact .tail _ (.tail _ (.tail _ (.tail _ (.tail _ (.tail _ (.tail _ (.head _)))))))) (scrL s m o t) rfl Tryd.underlying37 rfl (by kernel_rfl) ?_; simp only [Act.put, List.setIfInBounds_toArray, List.set_cons_zero, List.set_cons_succ]; go_big_quiet_on) | go_big_quiet_step ((first | (go_at_call 46; with_reducible exact m_call _ (HA.out _ (MemW.below _))) | (go_at_call 47; with_reducible exact m_still _ (HN1.out _)) | (go_at_call 47; with_reducible exact m_still _ (HN2.out _)) | (go_at_call 48; with_reducible exact m_still _ (HK.out _)))))); refine wpQuiet_nil ?_; intro wq hM; clear HM; have HM := hid hM; clear hM hne
    go_upto_region 2 with (fail); refine wp_region_lit ?_; refine m_build0 rfl rfl (build_zS _) ?_; simp only [Act.put, List.setIfInBounds_toArray, List.set_cons_zero, List.set_cons_succ]; refine m_storeA HM.out rfl rfl rfl 0 rfl rfl rfl (by kernel_rfl) rfl ?_; intro wz hM; simp only [Act.put, List.setIfInBounds_toArray, List.set_cons_zero, List.set_cons_succ]; clear HM; have HM := hid hM; clear hM; go_wp2
    exact bodyPost_ret (m_results2 HM.out Tryd.results24 _ rfl rfl (.head _) zL rfl Tryd.underlying37 rfl (by kernel_rfl)) rfl ⟨rfl, HM.out.below⟩
  | true =>
  cases b2 with
  | false =>
    refine m_seq HM.out (fun hne => ?_); (repeat (first | (go_big_quiet_want; refine mq_load rfl rfl (by first | exact .head _ | exact .tail _ (.head _) | exact .tail _ (.tail _ (.head _)) | exact .tail _ (.tail _ (.tail _ (.head _))) | exact .tail _ (.tail _ (.tail _ (.tail _ (.head _)))) | exact .tail _ (.tail _ (.tail _ (.tail _ (.tail _ (.head _))))) | exact .tail _ (.tail _ (.tail _ (.tail _ (.tail _ (.tail _ (.head _)))))) | exact .tail _ (.tail _ (.tail _ (.tail _ (.tail _ (.tail _ (.tail _ (.head _)))))))) rfl (by first | exact Tryd.underlying3 | exact Tryd.underlying4 | exact Tryd.underlying9 | exact Tryd.underlying28 | exact Tryd.underlying35) rfl ?_; simp only [Act.put, List.setIfInBounds_toArray, List.set_cons_zero, List.set_cons_succ]; go_big_quiet_on) | (go_big_quiet_want; refine mq_loadS rfl rfl (by first | exact .head _ | exact .tail _ (.head _) | exact .tail _ (.tail _ (.head _)) | exact .tail _ (.tail _ (.tail _ (.head _))) | exact .tail _ (.tail _ (.tail _ (.tail _ (.head _)))) | exact .tail _ (.tail _ (.tail _ (.tail _ (.tail _ (.head _))))) | exact .tail _ (.tail _ (.tail _ (.tail _ (.tail _ (.tail _ (.head _)))))) | exact .tail _ (.tail _ (.tail _ (.tail _ (.tail _ (.tail _ (.tail _ (.head _)))))))) (scrL s m o t) rfl Tryd.underlying37 rfl (by kernel_rfl) ?_; simp only [Act.put, List.setIfInBounds_toArray, List.set_cons_zero, List.set_cons_succ]; go_big_quiet_on) | go_big_quiet_step ((first | (go_at_call 46; with_reducible exact m_call _ (HA.out _ (MemW.below _))) | (go_at_call 47; with_reducible exact m_still _ (HN1.out _)) | (go_at_call 47; with_reducible exact m_still _ (HN2.out _)) | (go_at_call 48; with_reducible exact m_still _ (HK.out _)))))); refine wpQuiet_nil ?_; intro wq hM; clear HM; have HM := hid hM; clear hM hne
    go_upto_region 2 with (fail); refine wp_region_lit ?_; refine m_build0 rfl rfl (build_zS _) ?_; simp only [Act.put, List.setIfInBounds_toArray, List.set_cons_zero, List.set_cons_succ]; refine m_storeA HM.out rfl rfl rfl 0 rfl rfl rfl (by kernel_rfl) rfl ?_; intro wz hM; simp only [Act.put, List.setIfInBounds_toArray, List.set_cons_zero, List.set_cons_succ]; clear HM; have HM := hid hM; clear hM; go_wp2
    exact bodyPost_ret (m_results2 HM.out Tryd.results24 _ rfl rfl (.head _) zL rfl Tryd.underlying37 rfl (by kernel_rfl)) rfl ⟨rfl, HM.out.below⟩
  | true =>
  cases b3 with
  | false =>
    refine m_seq HM.out (fun hne => ?_); (repeat (first | (go_big_quiet_want; refine mq_load rfl rfl (by first | exact .head _ | exact .tail _ (.head _) | exact .tail _ (.tail _ (.head _)) | exact .tail _ (.tail _ (.tail _ (.head _))) | exact .tail _ (.tail _ (.tail _ (.tail _ (.head _)))) | exact .tail _ (.tail _ (.tail _ (.tail _ (.tail _ (.head _))))) | exact .tail _ (.tail _ (.tail _ (.tail _ (.tail _ (.tail _ (.head _)))))) | exact .tail _ (.tail _ (.tail _ (.tail _ (.tail _ (.tail _ (.tail _ (.head _)))))))) rfl (by first | exact Tryd.underlying3 | exact Tryd.underlying4 | exact Tryd.underlying9 | exact Tryd.underlying28 | exact Tryd.underlying35) rfl ?_; simp only [Act.put, List.setIfInBounds_toArray, List.set_cons_zero, List.set_cons_succ]; go_big_quiet_on) | (go_big_quiet_want; refine mq_loadS rfl rfl (by first | exact .head _ | exact .tail _ (.head _) | exact .tail _ (.tail _ (.head _)) | exact .tail _ (.tail _ (.tail _ (.head _))) | exact .tail _ (.tail _ (.tail _ (.tail _ (.head _)))) | exact .tail _ (.tail _ (.tail _ (.tail _ (.tail _ (.head _))))) | exact .tail _ (.tail _ (.tail _ (.tail _ (.tail _ (.tail _ (.head _)))))) | exact .tail _ (.tail _ (.tail _ (.tail _ (.tail _ (.tail _ (.tail _ (.head _)))))))) (scrL s m o t) rfl Tryd.underlying37 rfl (by kernel_rfl) ?_; simp only [Act.put, List.setIfInBounds_toArray, List.set_cons_zero, List.set_cons_succ]; go_big_quiet_on) | go_big_quiet_step ((first | (go_at_call 46; with_reducible exact m_call _ (HA.out _ (MemW.below _))) | (go_at_call 47; with_reducible exact m_still _ (HN1.out _)) | (go_at_call 47; with_reducible exact m_still _ (HN2.out _)) | (go_at_call 48; with_reducible exact m_still _ (HK.out _)))))); refine wpQuiet_nil ?_; intro wq hM; clear HM; have HM := hid hM; clear hM hne
    go_upto_region 2 with (fail); refine wp_region_lit ?_; refine m_build0 rfl rfl (build_zS _) ?_; simp only [Act.put, List.setIfInBounds_toArray, List.set_cons_zero, List.set_cons_succ]; refine m_storeA HM.out rfl rfl rfl 0 rfl rfl rfl (by kernel_rfl) rfl ?_; intro wz hM; simp only [Act.put, List.setIfInBounds_toArray, List.set_cons_zero, List.set_cons_succ]; clear HM; have HM := hid hM; clear hM; go_wp2
    exact bodyPost_ret (m_results2 HM.out Tryd.results24 _ rfl rfl (.head _) zL rfl Tryd.underlying37 rfl (by kernel_rfl)) rfl ⟨rfl, HM.out.below⟩
  | true =>
  cases b4 with
  | false =>
    refine m_seq HM.out (fun hne => ?_); (repeat (first | (go_big_quiet_want; refine mq_load rfl rfl (by first | exact .head _ | exact .tail _ (.head _) | exact .tail _ (.tail _ (.head _)) | exact .tail _ (.tail _ (.tail _ (.head _))) | exact .tail _ (.tail _ (.tail _ (.tail _ (.head _)))) | exact .tail _ (.tail _ (.tail _ (.tail _ (.tail _ (.head _))))) | exact .tail _ (.tail _ (.tail _ (.tail _ (.tail _ (.tail _ (.head _)))))) | exact .tail _ (.tail _ (.tail _ (.tail _ (.tail _ (.tail _ (.tail _ (.head _)))))))) rfl (by first | exact Tryd.underlying3 | exact Tryd.underlying4 | exact Tryd.underlying9 | exact Tryd.underlying28 | exact Tryd.underlying35) rfl ?_; simp only [Act.put, List.setIfInBounds_toArray, List.set_cons_zero, List.set_cons_succ]; go_big_quiet_on) | (go_big_quiet_want; refine mq_loadS rfl rfl (by first | exact .head _ | exact .tail _ (.head _) | exact .tail _ (.tail _ (.head _)) | exact .tail _ (.tail _ (.tail _ (.head _))) | exact .tail _ (.tail _ (.tail _ (.tail _ (.head _)))) | exact .tail _ (.tail _ (.tail _ (.tail _ (.tail _ (.head _))))) | exact .tail _ (.tail _ (.tail _ (.tail _ (.tail _ (.tail _ (.head _)))))) | exact .tail _ (.tail _ (.tail _ (.tail _ (.tail _ (.tail _ (.tail _ (.head _)))))))) (scrL s m o t) rfl Tryd.underlying37 rfl (by kernel_rfl) ?_; simp only [Act.put, List.setIfInBounds_toArray, List.set_cons_zero, List.set_cons_succ]; go_big_quiet_on) | go_big_quiet_step ((first | (go_at_call 46; with_reducible exact m_call _ (HA.out _ (MemW.below _))) | (go_at_call 47; with_reducible exact m_still _ (HN1.out _)) | (go_at_call 47; with_reducible exact m_still _ (HN2.out _)) | (go_at_call 48; with_reducible exact m_still _ (HK.out _)))))); refine wpQuiet_nil ?_; intro wq hM; clear HM; have HM := hid hM; clear hM hne
    go_upto_region 2 with (fail); refine wp_region_lit ?_; refine m_build0 rfl rfl (build_zS _) ?_; simp only [Act.put, List.setIfInBounds_toArray, List.set_cons_zero, List.set_cons_succ]; refine m_storeA HM.out rfl rfl rfl 0 rfl rfl rfl (by kernel_rfl) rfl ?_; intro wz hM; simp only [Act.put, List.setIfInBounds_toArray, List.set_cons_zero, List.set_cons_succ]; clear HM; have HM := hid hM; clear hM; go_wp2
    exact bodyPost_ret (m_results2 HM.out Tryd.results24 _ rfl rfl (.head _) zL rfl Tryd.underlying37 rfl (by kernel_rfl)) rfl ⟨rfl, HM.out.below⟩
  | true => exact absurd H.out (by decide)
theorem to_any {s : Scr} {m o t : Value} {p i : Nat} {n k key : Int} {w0 w : World} {F : List Ent} (hM : Mem w0 w F) (hF : F[i]? = some (p, Row 37 (scrL s m o t))) (hb : Bd s) (hn : -1 ≤ n ∧ n ≤ 9999) (hk : -1 ≤ k ∧ k ≤ 9999)
    (hT : ∀ w' l, Mem w0 w' (F.set i (p, Row 37 l)) → RdB w' t s.tabs) (hl : (s.tabs.length : Int) = s.mc) (hkey : moveKey key = true) :
    Calls Tryd.prog 50 #[.pointer (some ⟨p, 0, none⟩), .int .i64 key, .int .i64 n, .int .i64 k] w fun e w' => e = .returned (.tuple #[]) ∧ Mem w0 w' (F.set i (p, Row 37 (scrL (toS s key (max 1 n) (max 1 k)) m o t))) := by
  simp only [moveKey, decide_eq_true_eq] at hkey
  rcases hkey with rfl | rfl | rfl | rfl | rfl | rfl | rfl | rfl | rfl | rfl | rfl
  · exact to_65 hM hF hb hn hk hT hl
  · exact to_66 hM hF hb hn hk hT hl
  · exact to_67 hM hF hb hn hk hT hl
  · exact to_68 hM hF hb hn hk hT hl
  · exact to_69 hM hF hb hn hk hT hl
  · exact to_70 hM hF hb hn hk hT hl
  · exact to_71 hM hF hb hn hk hT hl
  · exact to_100 hM hF hb hn hk hT hl
  · exact to_72 hM hF hb hn hk hT hl
  · exact to_73 hM hF hb hn hk hT hl
  · exact to_90 hM hF hb hn hk hT hl

theorem toS_keeps (s : Scr) (key n k : Int) : (toS s key n k).ms = s.ms ∧ (toS s key n k).os = s.os ∧ (toS s key n k).tabs = s.tabs ∧ (toS s key n k).title = s.title := by
  unfold toS
  simp only
  repeat' split
  all_goals exact ⟨rfl, rfl, rfl, rfl⟩
theorem OwnScr.as {w : World} {base : Nat} {s s' : Scr} {m o t : Value} (h : OwnScr w base s m o t) (e1 : s'.ms = s.ms) (e2 : s'.os = s.os) (e3 : s'.tabs = s.tabs) : OwnScr w base s' m o t := ⟨by rw [e1]; exact h.hm, by rw [e2]; exact h.ho, by rw [e3]; exact h.ht, h.mo, h.mt, h.ot⟩
set_option maxRecDepth 100000 in
set_option maxHeartbeats 4000000 in
theorem move_good {s : Scr} {m o t : Value} {key n k : Int} {w : World} (hr : RdScr w s m o t) (hT : U8 w) (hs : scrB s = true) (hn : numOk n = true) (hk : numOk k = true) (hkey : moveKey key = true) :
    Calls Tryd.prog 24 #[.agg (scrL s m o t).toArray, .int .i64 key, .int .i64 n, .int .i64 k] w fun e w' => ∃ m' o' t', e = .returned (.tuple #[.agg (scrL (toS s key (max 1 n) (max 1 k)) m' o' t').toArray, .int .i64 0]) ∧ OwnScr w' w.heap.size (toS s key (max 1 n) (max 1 k)) m' o' t' ∧ Below w.heap.size w w' := by
  have hnb : -1 ≤ n ∧ n ≤ 9999 := by simpa [numOk] using hn
  have hkb : -1 ≤ k ∧ k ≤ 9999 := by simpa [numOk] using hk
  have HFA := hid (scrB_facts hs)
  have HA : Hid (∀ W, Below w.heap.size w W → Calls Tryd.prog 46 #[.agg (scrL s m o t).toArray] W fun e w' => e = .returned (.bool true) ∧ Below W.heap.size W w') := hid fun W hW => mayS_l hs (hr.below hW) (hT.below hW)
  have HN1 : Hid (∀ W, Calls Tryd.prog 47 #[.int .i64 n] W fun e w' => e = .returned (.bool true) ∧ W = w') := hid fun W => numC_is hn W
  have HN2 : Hid (∀ W, Calls Tryd.prog 47 #[.int .i64 k] W fun e w' => e = .returned (.bool true) ∧ W = w') := hid fun W => numC_is hk W
  have HK : Hid (∀ W, Calls Tryd.prog 48 #[.int .i64 key] W fun e w' => e = .returned (.bool true) ∧ W = w') := hid fun W => isK_is hkey W
  have HO := hid (fun W (hW : Below w.heap.size w W) => ownS_l (hr.below hW))
  have HKEY := hid hkey
  have HX := hid (Mem.start w)
  clear hs hn hk hr hT hkey
  go_enter Tryd.func24, Tryd.ntmps24
  go_upto_region 0 with (fail)
  refine wp_region_lit ?_
  refine m_box HX.out rfl rfl rfl ?_
  intro b w1 hM1
  simp only [Act.put, List.setIfInBounds_toArray, List.set_cons_zero, List.set_cons_succ]
  refine m_alloc hM1 rfl rfl info_zS ?_
  intro b' w2 hM
  simp only [Act.put, List.setIfInBounds_toArray, List.set_cons_zero, List.set_cons_succ]
  clear hM1
  have HM := hid (show Mem w w2 [(b', Row 37 zL), (b, Row 37 (scrL s m o t))] from hM)
  clear hM
  go_upto_region 1 with (fail)
  refine m_seq HM.out (fun hne => ?_); (repeat (first | (go_big_quiet_want; refine mq_load rfl rfl (by first | exact .head _ | exact .tail _ (.head _) | exact .tail _ (.tail _ (.head _)) | exact .tail _ (.tail _ (.tail _ (.head _))) | exact .tail _ (.tail _ (.tail _ (.tail _ (.head _)))) | exact .tail _ (.tail _ (.tail _ (.tail _ (.tail _ (.head _))))) | exact .tail _ (.tail _ (.tail _ (.tail _ (.tail _ (.tail _ (.head _)))))) | exact .tail _ (.tail _ (.tail _ (.tail _ (.tail _ (.tail _ (.tail _ (.head _)))))))) rfl (by first | exact Tryd.underlying3 | exact Tryd.underlying4 | exact Tryd.underlying9 | exact Tryd.underlying28 | exact Tryd.underlying35) rfl ?_; simp only [Act.put, List.setIfInBounds_toArray, List.set_cons_zero, List.set_cons_succ]; go_big_quiet_on) | (go_big_quiet_want; refine mq_loadS rfl rfl (by first | exact .head _ | exact .tail _ (.head _) | exact .tail _ (.tail _ (.head _)) | exact .tail _ (.tail _ (.tail _ (.head _))) | exact .tail _ (.tail _ (.tail _ (.tail _ (.head _)))) | exact .tail _ (.tail _ (.tail _ (.tail _ (.tail _ (.head _))))) | exact .tail _ (.tail _ (.tail _ (.tail _ (.tail _ (.tail _ (.head _)))))) | exact .tail _ (.tail _ (.tail _ (.tail _ (.tail _ (.tail _ (.tail _ (.head _)))))))) (scrL s m o t) rfl Tryd.underlying37 rfl (by kernel_rfl) ?_; simp only [Act.put, List.setIfInBounds_toArray, List.set_cons_zero, List.set_cons_succ]; go_big_quiet_on) | go_big_quiet_step ((first | (go_at_call 46; with_reducible exact m_call _ (HA.out _ (MemW.below _))) | (go_at_call 47; with_reducible exact m_still _ (HN1.out _)) | (go_at_call 47; with_reducible exact m_still _ (HN2.out _)) | (go_at_call 48; with_reducible exact m_still _ (HK.out _)))))); refine wpQuiet_nil ?_; intro wq hM; clear HM; have HM := hid hM; clear hM hne
  go_wp2_with (first | ((with_reducible refine wl_id ?_); refine m_loadS HM.out rfl rfl rfl (by first | exact .head _ | exact .tail _ (.head _) | exact .tail _ (.tail _ (.head _)) | exact .tail _ (.tail _ (.tail _ (.head _))) | exact .tail _ (.tail _ (.tail _ (.tail _ (.head _)))) | exact .tail _ (.tail _ (.tail _ (.tail _ (.tail _ (.head _))))) | exact .tail _ (.tail _ (.tail _ (.tail _ (.tail _ (.tail _ (.head _)))))) | exact .tail _ (.tail _ (.tail _ (.tail _ (.tail _ (.tail _ (.tail _ (.head _)))))))) (scrL s m o t) rfl Tryd.underlying37 rfl (by kernel_rfl) ?_; simp only [Act.put, List.setIfInBounds_toArray, List.set_cons_zero, List.set_cons_succ]) | (go_at_call 49; fail))
  refine (HO.out _ HM.out.below).mono ?_
  rintro e w3 ⟨m', o', t', rfl, hO, hB⟩
  obtain ⟨gm, cm, go, co, gt, ct, rfl, rfl, rfl, hM⟩ := HM.out.addScr hB hO HFA.out.2.1
  clear HM hO hB HA HN1 HN2 HK HO
  have HM := hid hM
  clear hM
  go_wp2_with (first | (refine m_storeA HM.out rfl rfl rfl 4 rfl rfl rfl (by kernel_rfl) rfl ?_; intro w4 hM; simp only [Act.put, List.setIfInBounds_toArray, List.set_cons_zero, List.set_cons_succ]; clear HM; have HM := hid hM; clear hM) | (go_at_call 50; fail))
  have hF : ([(gm, entC s.ms cm), (go, entC s.os co), (gt, entB s.tabs ct), (b', Row 37 zL), (b, Row 37 (scrL s (sl gm s.ms.length cm) (sl go s.os.length co) (sl gt s.tabs.length ct)))] : List Ent)[4]? = some (b, Row 37 (scrL s (sl gm s.ms.length cm) (sl go s.os.length co) (sl gt s.tabs.length ct))) := rfl
  have hM4 : Mem w w4 [(gm, entC s.ms cm), (go, entC s.os co), (gt, entB s.tabs ct), (b', Row 37 zL), (b, Row 37 (scrL s (sl gm s.ms.length cm) (sl go s.os.length co) (sl gt s.tabs.length ct)))] := HM.out
  refine (to_any hM4 hF HFA.out.1 hnb hkb (fun w' l hl => OwnB.rd (base := w.heap.size) (hl.own (.tail _ (.tail _ (.head _))))) HFA.out.2.2.1 HKEY.out).mono ?_
  rintro e w5 ⟨rfl, hM⟩
  clear hF hM4 HM
  have HKP := hid (toS_keeps s key (max 1 n) (max 1 k))
  obtain ⟨s', hs'⟩ : ∃ s', toS s key (max 1 n) (max 1 k) = s' := ⟨_, rfl⟩
  rw [hs'] at hM HKP
  have HS' := hid hs'
  have HM := hid (show Mem w w5 [(gm, entC s.ms cm), (go, entC s.os co), (gt, entB s.tabs ct), (b', Row 37 zL), (b, Row 37 (scrL s' (sl gm s.ms.length cm) (sl go s.os.length co) (sl gt s.tabs.length ct)))] from hM)
  clear hM hs'
  go_upto_region 5 with (fail)
  refine wp_region_lit ?_
  ((with_reducible refine wl_id ?_); refine m_loadS HM.out rfl rfl rfl (by first | exact .head _ | exact .tail _ (.head _) | exact .tail _ (.tail _ (.head _)) | exact .tail _ (.tail _ (.tail _ (.head _))) | exact .tail _ (.tail _ (.tail _ (.tail _ (.head _)))) | exact .tail _ (.tail _ (.tail _ (.tail _ (.tail _ (.head _))))) | exact .tail _ (.tail _ (.tail _ (.tail _ (.tail _ (.tail _ (.head _)))))) | exact .tail _ (.tail _ (.tail _ (.tail _ (.tail _ (.tail _ (.tail _ (.head _)))))))) (scrL s' (sl gm s.ms.length cm) (sl go s.os.length co) (sl gt s.tabs.length ct)) rfl Tryd.underlying37 rfl (by kernel_rfl) ?_; simp only [Act.put, List.setIfInBounds_toArray, List.set_cons_zero, List.set_cons_succ])
  refine m_storeA HM.out rfl rfl rfl 3 rfl rfl rfl (by kernel_rfl) rfl ?_
  intro w6 hM
  simp only [Act.put, List.setIfInBounds_toArray, List.set_cons_zero, List.set_cons_succ]
  clear HM
  have HM := hid (show Mem w w6 [(gm, entC s.ms cm), (go, entC s.os co), (gt, entB s.tabs ct), (b', Row 37 (scrL s' (sl gm s.ms.length cm) (sl go s.os.length co) (sl gt s.tabs.length ct))), (b, Row 37 (scrL s' (sl gm s.ms.length cm) (sl go s.os.length co) (sl gt s.tabs.length ct)))] from hM)
  clear hM
  go_wp2
  have hO := HM.out.scr (s := s)
  have hO' : OwnScr w6 w.heap.size s' (sl gm s.ms.length cm) (sl go s.os.length co) (sl gt s.tabs.length ct) := hO.as HKP.out.1 HKP.out.2.1 HKP.out.2.2.1
  rw [HS'.out]
  exact bodyPost_ret (m_results2 HM.out Tryd.results24 _ rfl (v := .int .i64 0) rfl (.tail _ (.tail _ (.tail _ (.head _)))) (scrL s' (sl gm s.ms.length cm) (sl go s.os.length co) (sl gt s.tabs.length ct)) rfl Tryd.underlying37 rfl (by kernel_rfl)) rfl ⟨_, _, _, rfl, hO', HM.out.below⟩
end Go.Proofs.YtbjckahaalbpaaaDoor
