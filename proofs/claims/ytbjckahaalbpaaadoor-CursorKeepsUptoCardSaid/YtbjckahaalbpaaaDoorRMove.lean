/- The reference's Move of a screen that may be, key by key (printed by genref.py). -/
import Derived.Test.YtbjckahaalbpaaaDoorMove2
set_option linter.unusedVariables false
set_option linter.unusedSimpArgs false

namespace Go.Proofs.YtbjckahaalbpaaaDoor
open Go Go.RowKit

theorem Scr.row_eq {s : Scr} {a b : Int} (h : a = b) : atRow s a = atRow s b := by rw [h]
theorem Scr.col_eq {s : Scr} {a b : Int} (h : a = b) : atCol s a = atCol s b := by rw [h]
set_option maxRecDepth 100000 in
set_option maxHeartbeats 4000000 in
theorem rmove_65 {s : Scr} {m o t : Value} {n k : Int} {w : World} (hr : RdScr w s m o t) (hs : scrB s = true) (hnb : -1 ≤ n ∧ n ≤ 9999) (hkb : -1 ≤ k ∧ k ≤ 9999) :
    Calls Tryd.prog 40 #[.agg (scrL s m o t).toArray, .int .i64 65, .int .i64 n, .int .i64 k] w fun e w' => ∃ m' o' t', e = .returned (.agg (scrL (toS s 65 (max 1 n) (max 1 k)) m' o' t').toArray) ∧ OwnScr w' w.heap.size (toS s 65 (max 1 n) (max 1 k)) m' o' t' ∧ Below w.heap.size w w' := by
  have HFA := hid (scrB_facts hs)
  have HO := hid (fun W (hW : Below w.heap.size w W) => copyS_l (hr.below hW))
  have HX := hid (Mem.start w)
  obtain ⟨N, hN⟩ : ∃ N, max 1 n = N := ⟨_, rfl⟩
  obtain ⟨K, hK⟩ : ∃ K, max 1 k = K := ⟨_, rfl⟩
  have hNb : 1 ≤ N ∧ N ≤ 9999 := by omega
  have hKb : 1 ≤ K ∧ K ≤ 9999 := by omega
  rw [hN, hK]
  clear hs hr
  go_enter Tryd.func40, Tryd.ntmps40
  go_upto_region 0 with (fail)
  refine wp_region_lit ?_
  refine m_box HX.out rfl rfl rfl ?_
  intro b w1 hM1
  simp only [Act.put, List.setIfInBounds_toArray, List.set_cons_zero, List.set_cons_succ]
  refine m_alloc hM1 rfl rfl info_zS ?_
  intro b' w2 hM
  simp only [Act.put, List.setIfInBounds_toArray, List.set_cons_zero, List.set_cons_succ]
  clear hM1
  have HM := hid (show Mem w w2 [(b', Row 37 zL), (b, Row 37 (scrL s m o t))] from hM)
  clear hM
  go_wp2_with (first | ((with_reducible refine wl_id ?_); refine m_loadS HM.out rfl rfl rfl (by first | exact .head _ | exact .tail _ (.head _) | exact .tail _ (.tail _ (.head _)) | exact .tail _ (.tail _ (.tail _ (.head _))) | exact .tail _ (.tail _ (.tail _ (.tail _ (.head _)))) | exact .tail _ (.tail _ (.tail _ (.tail _ (.tail _ (.head _))))) | exact .tail _ (.tail _ (.tail _ (.tail _ (.tail _ (.tail _ (.head _)))))) | exact .tail _ (.tail _ (.tail _ (.tail _ (.tail _ (.tail _ (.tail _ (.head _)))))))) (scrL s m o t) rfl Tryd.underlying37 rfl (by kernel_rfl) ?_; simp only [Act.put, List.setIfInBounds_toArray, List.set_cons_zero, List.set_cons_succ]) | (go_at_call 30; fail))
  refine (HO.out _ HM.out.below).mono ?_
  rintro e w3 ⟨m', o', t', rfl, hO, hB⟩
  obtain ⟨gm, cm, go, co, gt, ct, rfl, rfl, rfl, hM⟩ := HM.out.addScr hB hO HFA.out.2.1
  clear HM hO hB HO HX
  have HM := hid hM
  clear hM
  go_upto_region 4 with (first | ((with_reducible refine wl_id ?_); refine m_storeA HM.out rfl rfl rfl 4 rfl rfl rfl (by kernel_rfl) rfl ?_; intro wx hM; simp only [Act.put, List.setIfInBounds_toArray, List.set_cons_zero, List.set_cons_succ]; simp only [List.set_cons_succ, List.set_cons_zero] at hM; clear HM; have HM := hid hM; clear hM))
  go_upto_region 5 with (first | ((with_reducible refine wl_id ?_); refine m_store HM.out rfl rfl rfl 4 rfl rfl rfl rfl (Nat.le_of_ble_eq_true rfl) (by kernel_rfl) ?_; intro wx hM; simp only [Act.put, List.setIfInBounds_toArray, List.set_cons_zero, List.set_cons_succ]; simp only [List.set_cons_succ, List.set_cons_zero] at hM; clear HM; have HM := hid hM; clear hM))
  obtain ⟨q, hq⟩ : ∃ q, noWrap s = q := ⟨_, rfl⟩
  have hbq : Bd q := hq ▸ HFA.out.1.noWrap
  have htq : q.tabs = s.tabs := by rw [← hq]; rfl
  have HTQ := hid htq
  have hlq : (s.tabs.length : Int) = q.mc := by rw [← hq]; exact HFA.out.2.2.1
  have HLQ := hid hlq
  have HTS := hid (show toS s 65 N K = atRow q (upR q N) by rw [← hq]; rfl)
  have hK1 : q.ms = s.ms ∧ q.os = s.os := by rw [← hq]; exact ⟨rfl, rfl⟩
  have HKP := hid hK1
  have h0 : Mem w _ [(gm, entC s.ms cm), (go, entC s.os co), (gt, entB s.tabs ct), (b', Row 37 zL), (b, Row 37 (scrL (noWrap s) (sl gm s.ms.length cm) (sl go s.os.length co) (sl gt s.tabs.length ct)))] := HM.out
  rw [hq] at h0
  have HM2 := hid h0
  clear h0
  clear HM hq htq hlq hK1
  have HM := HM2
  clear HM2
  have hrr := hbq.row
  have hcc := hbq.col
  have ht := hbq.top
  have hqb := hbq.bot
  have hmr := hbq.mr
  have hmc := hbq.mc
  clear hbq
  (refine m_quiet HM.out (by kernel_rfl) (by kernel_rfl) (fun hne => ?_); (repeat (first | (go_big_quiet_want; refine mq_load rfl rfl (by first | exact .head _ | exact .tail _ (.head _) | exact .tail _ (.tail _ (.head _)) | exact .tail _ (.tail _ (.tail _ (.head _))) | exact .tail _ (.tail _ (.tail _ (.tail _ (.head _)))) | exact .tail _ (.tail _ (.tail _ (.tail _ (.tail _ (.head _))))) | exact .tail _ (.tail _ (.tail _ (.tail _ (.tail _ (.tail _ (.head _)))))) | exact .tail _ (.tail _ (.tail _ (.tail _ (.tail _ (.tail _ (.tail _ (.head _)))))))) rfl (by first | exact Tryd.underlying3 | exact Tryd.underlying4 | exact Tryd.underlying9 | exact Tryd.underlying28 | exact Tryd.underlying35) rfl ?_; simp only [Act.put, List.setIfInBounds_toArray, List.set_cons_zero, List.set_cons_succ]; go_big_quiet_on) | go_big_quiet_step (fail))); refine wpQuiet_nil ?_; intro wq hM; clear HM hne; have HM := hid hM; clear hM)
  by_cases hc : q.top ≤ q.cur.row
  · have HC := hid hc
    go_upto_region 10 with (first | ((with_reducible refine wl_id ?_); refine m_load HM.out rfl rfl rfl (by first | exact .head _ | exact .tail _ (.head _) | exact .tail _ (.tail _ (.head _)) | exact .tail _ (.tail _ (.tail _ (.head _))) | exact .tail _ (.tail _ (.tail _ (.tail _ (.head _)))) | exact .tail _ (.tail _ (.tail _ (.tail _ (.tail _ (.head _))))) | exact .tail _ (.tail _ (.tail _ (.tail _ (.tail _ (.tail _ (.head _)))))) | exact .tail _ (.tail _ (.tail _ (.tail _ (.tail _ (.tail _ (.tail _ (.head _)))))))) rfl (by first | exact Tryd.underlying3 | exact Tryd.underlying4 | exact Tryd.underlying9 | exact Tryd.underlying28 | exact Tryd.underlying35) rfl ?_; simp only [Act.put, List.setIfInBounds_toArray, List.set_cons_zero, List.set_cons_succ]) | ((with_reducible refine wl_id ?_); refine m_store HM.out rfl rfl rfl 4 rfl rfl rfl rfl (Nat.le_of_ble_eq_true rfl) (by kernel_rfl) ?_; intro wx hM; simp only [Act.put, List.setIfInBounds_toArray, List.set_cons_zero, List.set_cons_succ]; simp only [List.set_cons_succ, List.set_cons_zero] at hM; clear HM; have HM := hid hM; clear hM))
    (refine m_quiet HM.out (by kernel_rfl) (by kernel_rfl) (fun hne => ?_); (repeat (first | (go_big_quiet_want; refine mq_load rfl rfl (by first | exact .head _ | exact .tail _ (.head _) | exact .tail _ (.tail _ (.head _)) | exact .tail _ (.tail _ (.tail _ (.head _))) | exact .tail _ (.tail _ (.tail _ (.tail _ (.head _)))) | exact .tail _ (.tail _ (.tail _ (.tail _ (.tail _ (.head _))))) | exact .tail _ (.tail _ (.tail _ (.tail _ (.tail _ (.tail _ (.head _)))))) | exact .tail _ (.tail _ (.tail _ (.tail _ (.tail _ (.tail _ (.tail _ (.head _)))))))) rfl (by first | exact Tryd.underlying3 | exact Tryd.underlying4 | exact Tryd.underlying9 | exact Tryd.underlying28 | exact Tryd.underlying35) rfl ?_; simp only [Act.put, List.setIfInBounds_toArray, List.set_cons_zero, List.set_cons_succ]; go_big_quiet_on) | go_big_quiet_step (fail))); refine wpQuiet_nil ?_; intro wq hM; clear HM hne; have HM := hid hM; clear hM)
    go_upto_region 38 with (first | ((with_reducible refine wl_id ?_); refine m_load HM.out rfl rfl rfl (by first | exact .head _ | exact .tail _ (.head _) | exact .tail _ (.tail _ (.head _)) | exact .tail _ (.tail _ (.tail _ (.head _))) | exact .tail _ (.tail _ (.tail _ (.tail _ (.head _)))) | exact .tail _ (.tail _ (.tail _ (.tail _ (.tail _ (.head _))))) | exact .tail _ (.tail _ (.tail _ (.tail _ (.tail _ (.tail _ (.head _)))))) | exact .tail _ (.tail _ (.tail _ (.tail _ (.tail _ (.tail _ (.tail _ (.head _)))))))) rfl (by first | exact Tryd.underlying3 | exact Tryd.underlying4 | exact Tryd.underlying9 | exact Tryd.underlying28 | exact Tryd.underlying35) rfl ?_; simp only [Act.put, List.setIfInBounds_toArray, List.set_cons_zero, List.set_cons_succ]) | ((with_reducible refine wl_id ?_); refine m_store HM.out rfl rfl rfl 4 rfl rfl rfl rfl (Nat.le_of_ble_eq_true rfl) (by kernel_rfl) ?_; intro wx hM; simp only [Act.put, List.setIfInBounds_toArray, List.set_cons_zero, List.set_cons_succ]; simp only [List.set_cons_succ, List.set_cons_zero] at hM; clear HM; have HM := hid hM; clear hM))
    refine wp_region_lit ?_
    have HE := hid (show atRow q (max q.top (q.cur.row - N)) = toS s 65 N K by rw [HTS.out]; try (exact Scr.row_eq (by unfold upR; rw [if_pos HC.out])))
    ((with_reducible refine wl_id ?_); refine m_loadS HM.out rfl rfl rfl (by first | exact .head _ | exact .tail _ (.head _) | exact .tail _ (.tail _ (.head _)) | exact .tail _ (.tail _ (.tail _ (.head _))) | exact .tail _ (.tail _ (.tail _ (.tail _ (.head _)))) | exact .tail _ (.tail _ (.tail _ (.tail _ (.tail _ (.head _))))) | exact .tail _ (.tail _ (.tail _ (.tail _ (.tail _ (.tail _ (.head _)))))) | exact .tail _ (.tail _ (.tail _ (.tail _ (.tail _ (.tail _ (.tail _ (.head _)))))))) (scrL (atRow q (max q.top (q.cur.row - N))) (sl gm s.ms.length cm) (sl go s.os.length co) (sl gt s.tabs.length ct)) rfl Tryd.underlying37 rfl (by kernel_rfl) ?_; simp only [Act.put, List.setIfInBounds_toArray, List.set_cons_zero, List.set_cons_succ])
    ((with_reducible refine wl_id ?_); refine m_storeA HM.out rfl rfl rfl 3 rfl rfl rfl (by kernel_rfl) rfl ?_; intro wx hM; simp only [Act.put, List.setIfInBounds_toArray, List.set_cons_zero, List.set_cons_succ]; simp only [List.set_cons_succ, List.set_cons_zero] at hM; clear HM; have HM := hid hM; clear hM)
    go_wp2
    have hO' : OwnScr _ w.heap.size (toS s 65 N K) (sl gm s.ms.length cm) (sl go s.os.length co) (sl gt s.tabs.length ct) := (HM.out.scr (s := s)).as (toS_keeps s 65 N K).1 (toS_keeps s 65 N K).2.1 (toS_keeps s 65 N K).2.2.1
    exact bodyPost_ret (m_results1 HM.out Tryd.results40 _ rfl (.tail _ (.tail _ (.tail _ (.head _)))) (scrL (atRow q (max q.top (q.cur.row - N))) (sl gm s.ms.length cm) (sl go s.os.length co) (sl gt s.tabs.length ct)) rfl Tryd.underlying37 rfl (by kernel_rfl)) rfl ⟨_, _, _, by rw [← HE.out], hO', HM.out.below⟩
  · have HC := hid hc
    have hc2 := Int.not_le.1 hc
    go_upto_region 10 with (first | ((with_reducible refine wl_id ?_); refine m_load HM.out rfl rfl rfl (by first | exact .head _ | exact .tail _ (.head _) | exact .tail _ (.tail _ (.head _)) | exact .tail _ (.tail _ (.tail _ (.head _))) | exact .tail _ (.tail _ (.tail _ (.tail _ (.head _)))) | exact .tail _ (.tail _ (.tail _ (.tail _ (.tail _ (.head _))))) | exact .tail _ (.tail _ (.tail _ (.tail _ (.tail _ (.tail _ (.head _)))))) | exact .tail _ (.tail _ (.tail _ (.tail _ (.tail _ (.tail _ (.tail _ (.head _)))))))) rfl (by first | exact Tryd.underlying3 | exact Tryd.underlying4 | exact Tryd.underlying9 | exact Tryd.underlying28 | exact Tryd.underlying35) rfl ?_; simp only [Act.put, List.setIfInBounds_toArray, List.set_cons_zero, List.set_cons_succ]) | ((with_reducible refine wl_id ?_); refine m_store HM.out rfl rfl rfl 4 rfl rfl rfl rfl (Nat.le_of_ble_eq_true rfl) (by kernel_rfl) ?_; intro wx hM; simp only [Act.put, List.setIfInBounds_toArray, List.set_cons_zero, List.set_cons_succ]; simp only [List.set_cons_succ, List.set_cons_zero] at hM; clear HM; have HM := hid hM; clear hM))
    (refine m_quiet HM.out (by kernel_rfl) (by kernel_rfl) (fun hne => ?_); (repeat (first | (go_big_quiet_want; refine mq_load rfl rfl (by first | exact .head _ | exact .tail _ (.head _) | exact .tail _ (.tail _ (.head _)) | exact .tail _ (.tail _ (.tail _ (.head _))) | exact .tail _ (.tail _ (.tail _ (.tail _ (.head _)))) | exact .tail _ (.tail _ (.tail _ (.tail _ (.tail _ (.head _))))) | exact .tail _ (.tail _ (.tail _ (.tail _ (.tail _ (.tail _ (.head _)))))) | exact .tail _ (.tail _ (.tail _ (.tail _ (.tail _ (.tail _ (.tail _ (.head _)))))))) rfl (by first | exact Tryd.underlying3 | exact Tryd.underlying4 | exact Tryd.underlying9 | exact Tryd.underlying28 | exact Tryd.underlying35) rfl ?_; simp only [Act.put, List.setIfInBounds_toArray, List.set_cons_zero, List.set_cons_succ]; go_big_quiet_on) | go_big_quiet_step (fail))); refine wpQuiet_nil ?_; intro wq hM; clear HM hne; have HM := hid hM; clear hM)
    go_upto_region 38 with (first | ((with_reducible refine wl_id ?_); refine m_load HM.out rfl rfl rfl (by first | exact .head _ | exact .tail _ (.head _) | exact .tail _ (.tail _ (.head _)) | exact .tail _ (.tail _ (.tail _ (.head _))) | exact .tail _ (.tail _ (.tail _ (.tail _ (.head _)))) | exact .tail _ (.tail _ (.tail _ (.tail _ (.tail _ (.head _))))) | exact .tail _ (.tail _ (.tail _ (.tail _ (.tail _ (.tail _ (.head _)))))) | exact .tail _ (.tail _ (.tail _ (.tail _ (.tail _ (.tail _ (.tail _ (.head _)))))))) rfl (by first | exact Tryd.underlying3 | exact Tryd.underlying4 | exact Tryd.underlying9 | exact Tryd.underlying28 | exact Tryd.underlying35) rfl ?_; simp only [Act.put, List.setIfInBounds_toArray, List.set_cons_zero, List.set_cons_succ]) | ((with_reducible refine wl_id ?_); refine m_store HM.out rfl rfl rfl 4 rfl rfl rfl rfl (Nat.le_of_ble_eq_true rfl) (by kernel_rfl) ?_; intro wx hM; simp only [Act.put, List.setIfInBounds_toArray, List.set_cons_zero, List.set_cons_succ]; simp only [List.set_cons_succ, List.set_cons_zero] at hM; clear HM; have HM := hid hM; clear hM))
    refine wp_region_lit ?_
    have HE := hid (show atRow q (max 0 (q.cur.row - N)) = toS s 65 N K by rw [HTS.out]; try (exact Scr.row_eq (by unfold upR; rw [if_neg HC.out])))
    ((with_reducible refine wl_id ?_); refine m_loadS HM.out rfl rfl rfl (by first | exact .head _ | exact .tail _ (.head _) | exact .tail _ (.tail _ (.head _)) | exact .tail _ (.tail _ (.tail _ (.head _))) | exact .tail _ (.tail _ (.tail _ (.tail _ (.head _)))) | exact .tail _ (.tail _ (.tail _ (.tail _ (.tail _ (.head _))))) | exact .tail _ (.tail _ (.tail _ (.tail _ (.tail _ (.tail _ (.head _)))))) | exact .tail _ (.tail _ (.tail _ (.tail _ (.tail _ (.tail _ (.tail _ (.head _)))))))) (scrL (atRow q (max 0 (q.cur.row - N))) (sl gm s.ms.length cm) (sl go s.os.length co) (sl gt s.tabs.length ct)) rfl Tryd.underlying37 rfl (by kernel_rfl) ?_; simp only [Act.put, List.setIfInBounds_toArray, List.set_cons_zero, List.set_cons_succ])
    ((with_reducible refine wl_id ?_); refine m_storeA HM.out rfl rfl rfl 3 rfl rfl rfl (by kernel_rfl) rfl ?_; intro wx hM; simp only [Act.put, List.setIfInBounds_toArray, List.set_cons_zero, List.set_cons_succ]; simp only [List.set_cons_succ, List.set_cons_zero] at hM; clear HM; have HM := hid hM; clear hM)
    go_wp2
    have hO' : OwnScr _ w.heap.size (toS s 65 N K) (sl gm s.ms.length cm) (sl go s.os.length co) (sl gt s.tabs.length ct) := (HM.out.scr (s := s)).as (toS_keeps s 65 N K).1 (toS_keeps s 65 N K).2.1 (toS_keeps s 65 N K).2.2.1
    exact bodyPost_ret (m_results1 HM.out Tryd.results40 _ rfl (.tail _ (.tail _ (.tail _ (.head _)))) (scrL (atRow q (max 0 (q.cur.row - N))) (sl gm s.ms.length cm) (sl go s.os.length co) (sl gt s.tabs.length ct)) rfl Tryd.underlying37 rfl (by kernel_rfl)) rfl ⟨_, _, _, by rw [← HE.out], hO', HM.out.below⟩
set_option maxRecDepth 100000 in
set_option maxHeartbeats 4000000 in
theorem rmove_66 {s : Scr} {m o t : Value} {n k : Int} {w : World} (hr : RdScr w s m o t) (hs : scrB s = true) (hnb : -1 ≤ n ∧ n ≤ 9999) (hkb : -1 ≤ k ∧ k ≤ 9999) :
    Calls Tryd.prog 40 #[.agg (scrL s m o t).toArray, .int .i64 66, .int .i64 n, .int .i64 k] w fun e w' => ∃ m' o' t', e = .returned (.agg (scrL (toS s 66 (max 1 n) (max 1 k)) m' o' t').toArray) ∧ OwnScr w' w.heap.size (toS s 66 (max 1 n) (max 1 k)) m' o' t' ∧ Below w.heap.size w w' := by
  have HFA := hid (scrB_facts hs)
  have HO := hid (fun W (hW : Below w.heap.size w W) => copyS_l (hr.below hW))
  have HX := hid (Mem.start w)
  obtain ⟨N, hN⟩ : ∃ N, max 1 n = N := ⟨_, rfl⟩
  obtain ⟨K, hK⟩ : ∃ K, max 1 k = K := ⟨_, rfl⟩
  have hNb : 1 ≤ N ∧ N ≤ 9999 := by omega
  have hKb : 1 ≤ K ∧ K ≤ 9999 := by omega
  rw [hN, hK]
  clear hs hr
  go_enter Tryd.func40, Tryd.ntmps40
  go_upto_region 0 with (fail)
  refine wp_region_lit ?_
  refine m_box HX.out rfl rfl rfl ?_
  intro b w1 hM1
  simp only [Act.put, List.setIfInBounds_toArray, List.set_cons_zero, List.set_cons_succ]
  refine m_alloc hM1 rfl rfl info_zS ?_
  intro b' w2 hM
  simp only [Act.put, List.setIfInBounds_toArray, List.set_cons_zero, List.set_cons_succ]
  clear hM1
  have HM := hid (show Mem w w2 [(b', Row 37 zL), (b, Row 37 (scrL s m o t))] from hM)
  clear hM
  go_wp2_with (first | ((with_reducible refine wl_id ?_); refine m_loadS HM.out rfl rfl rfl (by first | exact .head _ | exact .tail _ (.head _) | exact .tail _ (.tail _ (.head _)) | exact .tail _ (.tail _ (.tail _ (.head _))) | exact .tail _ (.tail _ (.tail _ (.tail _ (.head _)))) | exact .tail _ (.tail _ (.tail _ (.tail _ (.tail _ (.head _))))) | exact .tail _ (.tail _ (.tail _ (.tail _ (.tail _ (.tail _ (.head _)))))) | exact .tail _ (.tail _ (.tail _ (.tail _ (.tail _ (.tail _ (.tail _ (.head _)))))))) (scrL s m o t) rfl Tryd.underlying37 rfl (by kernel_rfl) ?_; simp only [Act.put, List.setIfInBounds_toArray, List.set_cons_zero, List.set_cons_succ]) | (go_at_call 30; fail))
  refine (HO.out _ HM.out.below).mono ?_
  rintro e w3 ⟨m', o', t', rfl, hO, hB⟩
  obtain ⟨gm, cm, go, co, gt, ct, rfl, rfl, rfl, hM⟩ := HM.out.addScr hB hO HFA.out.2.1
  clear HM hO hB HO HX
  have HM := hid hM
  clear hM
  go_upto_region 4 with (first | ((with_reducible refine wl_id ?_); refine m_storeA HM.out rfl rfl rfl 4 rfl rfl rfl (by kernel_rfl) rfl ?_; intro wx hM; simp only [Act.put, List.setIfInBounds_toArray, List.set_cons_zero, List.set_cons_succ]; simp only [List.set_cons_succ, List.set_cons_zero] at hM; clear HM; have HM := hid hM; clear hM))
  go_upto_region 5 with (first | ((with_reducible refine wl_id ?_); refine m_store HM.out rfl rfl rfl 4 rfl rfl rfl rfl (Nat.le_of_ble_eq_true rfl) (by kernel_rfl) ?_; intro wx hM; simp only [Act.put, List.setIfInBounds_toArray, List.set_cons_zero, List.set_cons_succ]; simp only [List.set_cons_succ, List.set_cons_zero] at hM; clear HM; have HM := hid hM; clear hM))
  obtain ⟨q, hq⟩ : ∃ q, noWrap s = q := ⟨_, rfl⟩
  have hbq : Bd q := hq ▸ HFA.out.1.noWrap
  have htq : q.tabs = s.tabs := by rw [← hq]; rfl
  have HTQ := hid htq
  have hlq : (s.tabs.length : Int) = q.mc := by rw [← hq]; exact HFA.out.2.2.1
  have HLQ := hid hlq
  have HTS := hid (show toS s 66 N K = atRow q (downR q N) by rw [← hq]; rfl)
  have hK1 : q.ms = s.ms ∧ q.os = s.os := by rw [← hq]; exact ⟨rfl, rfl⟩
  have HKP := hid hK1
  have h0 : Mem w _ [(gm, entC s.ms cm), (go, entC s.os co), (gt, entB s.tabs ct), (b', Row 37 zL), (b, Row 37 (scrL (noWrap s) (sl gm s.ms.length cm) (sl go s.os.length co) (sl gt s.tabs.length ct)))] := HM.out
  rw [hq] at h0
  have HM2 := hid h0
  clear h0
  clear HM hq htq hlq hK1
  have HM := HM2
  clear HM2
  have hrr := hbq.row
  have hcc := hbq.col
  have ht := hbq.top
  have hqb := hbq.bot
  have hmr := hbq.mr
  have hmc := hbq.mc
  clear hbq
  (refine m_quiet HM.out (by kernel_rfl) (by kernel_rfl) (fun hne => ?_); (repeat (first | (go_big_quiet_want; refine mq_load rfl rfl (by first | exact .head _ | exact .tail _ (.head _) | exact .tail _ (.tail _ (.head _)) | exact .tail _ (.tail _ (.tail _ (.head _))) | exact .tail _ (.tail _ (.tail _ (.tail _ (.head _)))) | exact .tail _ (.tail _ (.tail _ (.tail _ (.tail _ (.head _))))) | exact .tail _ (.tail _ (.tail _ (.tail _ (.tail _ (.tail _ (.head _)))))) | exact .tail _ (.tail _ (.tail _ (.tail _ (.tail _ (.tail _ (.tail _ (.head _)))))))) rfl (by first | exact Tryd.underlying3 | exact Tryd.underlying4 | exact Tryd.underlying9 | exact Tryd.underlying28 | exact Tryd.underlying35) rfl ?_; simp only [Act.put, List.setIfInBounds_toArray, List.set_cons_zero, List.set_cons_succ]; go_big_quiet_on) | go_big_quiet_step (fail))); refine wpQuiet_nil ?_; intro wq hM; clear HM hne; have HM := hid hM; clear hM)
  by_cases hc : q.cur.row ≤ q.bot
  · have HC := hid hc
    go_upto_region 16 with (first | ((with_reducible refine wl_id ?_); refine m_load HM.out rfl rfl rfl (by first | exact .head _ | exact .tail _ (.head _) | exact .tail _ (.tail _ (.head _)) | exact .tail _ (.tail _ (.tail _ (.head _))) | exact .tail _ (.tail _ (.tail _ (.tail _ (.head _)))) | exact .tail _ (.tail _ (.tail _ (.tail _ (.tail _ (.head _))))) | exact .tail _ (.tail _ (.tail _ (.tail _ (.tail _ (.tail _ (.head _)))))) | exact .tail _ (.tail _ (.tail _ (.tail _ (.tail _ (.tail _ (.tail _ (.head _)))))))) rfl (by first | exact Tryd.underlying3 | exact Tryd.underlying4 | exact Tryd.underlying9 | exact Tryd.underlying28 | exact Tryd.underlying35) rfl ?_; simp only [Act.put, List.setIfInBounds_toArray, List.set_cons_zero, List.set_cons_succ]) | ((with_reducible refine wl_id ?_); refine m_store HM.out rfl rfl rfl 4 rfl rfl rfl rfl (Nat.le_of_ble_eq_true rfl) (by kernel_rfl) ?_; intro wx hM; simp only [Act.put, List.setIfInBounds_toArray, List.set_cons_zero, List.set_cons_succ]; simp only [List.set_cons_succ, List.set_cons_zero] at hM; clear HM; have HM := hid hM; clear hM))
    (refine m_quiet HM.out (by kernel_rfl) (by kernel_rfl) (fun hne => ?_); (repeat (first | (go_big_quiet_want; refine mq_load rfl rfl (by first | exact .head _ | exact .tail _ (.head _) | exact .tail _ (.tail _ (.head _)) | exact .tail _ (.tail _ (.tail _ (.head _))) | exact .tail _ (.tail _ (.tail _ (.tail _ (.head _)))) | exact .tail _ (.tail _ (.tail _ (.tail _ (.tail _ (.head _))))) | exact .tail _ (.tail _ (.tail _ (.tail _ (.tail _ (.tail _ (.head _)))))) | exact .tail _ (.tail _ (.tail _ (.tail _ (.tail _ (.tail _ (.tail _ (.head _)))))))) rfl (by first | exact Tryd.underlying3 | exact Tryd.underlying4 | exact Tryd.underlying9 | exact Tryd.underlying28 | exact Tryd.underlying35) rfl ?_; simp only [Act.put, List.setIfInBounds_toArray, List.set_cons_zero, List.set_cons_succ]; go_big_quiet_on) | go_big_quiet_step (fail))); refine wpQuiet_nil ?_; intro wq hM; clear HM hne; have HM := hid hM; clear hM)
    go_upto_region 38 with (first | ((with_reducible refine wl_id ?_); refine m_load HM.out rfl rfl rfl (by first | exact .head _ | exact .tail _ (.head _) | exact .tail _ (.tail _ (.head _)) | exact .tail _ (.tail _ (.tail _ (.head _))) | exact .tail _ (.tail _ (.tail _ (.tail _ (.head _)))) | exact .tail _ (.tail _ (.tail _ (.tail _ (.tail _ (.head _))))) | exact .tail _ (.tail _ (.tail _ (.tail _ (.tail _ (.tail _ (.head _)))))) | exact .tail _ (.tail _ (.tail _ (.tail _ (.tail _ (.tail _ (.tail _ (.head _)))))))) rfl (by first | exact Tryd.underlying3 | exact Tryd.underlying4 | exact Tryd.underlying9 | exact Tryd.underlying28 | exact Tryd.underlying35) rfl ?_; simp only [Act.put, List.setIfInBounds_toArray, List.set_cons_zero, List.set_cons_succ]) | ((with_reducible refine wl_id ?_); refine m_store HM.out rfl rfl rfl 4 rfl rfl rfl rfl (Nat.le_of_ble_eq_true rfl) (by kernel_rfl) ?_; intro wx hM; simp only [Act.put, List.setIfInBounds_toArray, List.set_cons_zero, List.set_cons_succ]; simp only [List.set_cons_succ, List.set_cons_zero] at hM; clear HM; have HM := hid hM; clear hM))
    refine wp_region_lit ?_
    have HE := hid (show atRow q (min q.bot (q.cur.row + N)) = toS s 66 N K by rw [HTS.out]; try (exact Scr.row_eq (by unfold downR; rw [if_pos HC.out])))
    ((with_reducible refine wl_id ?_); refine m_loadS HM.out rfl rfl rfl (by first | exact .head _ | exact .tail _ (.head _) | exact .tail _ (.tail _ (.head _)) | exact .tail _ (.tail _ (.tail _ (.head _))) | exact .tail _ (.tail _ (.tail _ (.tail _ (.head _)))) | exact .tail _ (.tail _ (.tail _ (.tail _ (.tail _ (.head _))))) | exact .tail _ (.tail _ (.tail _ (.tail _ (.tail _ (.tail _ (.head _)))))) | exact .tail _ (.tail _ (.tail _ (.tail _ (.tail _ (.tail _ (.tail _ (.head _)))))))) (scrL (atRow q (min q.bot (q.cur.row + N))) (sl gm s.ms.length cm) (sl go s.os.length co) (sl gt s.tabs.length ct)) rfl Tryd.underlying37 rfl (by kernel_rfl) ?_; simp only [Act.put, List.setIfInBounds_toArray, List.set_cons_zero, List.set_cons_succ])
    ((with_reducible refine wl_id ?_); refine m_storeA HM.out rfl rfl rfl 3 rfl rfl rfl (by kernel_rfl) rfl ?_; intro wx hM; simp only [Act.put, List.setIfInBounds_toArray, List.set_cons_zero, List.set_cons_succ]; simp only [List.set_cons_succ, List.set_cons_zero] at hM; clear HM; have HM := hid hM; clear hM)
    go_wp2
    have hO' : OwnScr _ w.heap.size (toS s 66 N K) (sl gm s.ms.length cm) (sl go s.os.length co) (sl gt s.tabs.length ct) := (HM.out.scr (s := s)).as (toS_keeps s 66 N K).1 (toS_keeps s 66 N K).2.1 (toS_keeps s 66 N K).2.2.1
    exact bodyPost_ret (m_results1 HM.out Tryd.results40 _ rfl (.tail _ (.tail _ (.tail _ (.head _)))) (scrL (atRow q (min q.bot (q.cur.row + N))) (sl gm s.ms.length cm) (sl go s.os.length co) (sl gt s.tabs.length ct)) rfl Tryd.underlying37 rfl (by kernel_rfl)) rfl ⟨_, _, _, by rw [← HE.out], hO', HM.out.below⟩
  · have HC := hid hc
    have hc2 := Int.not_le.1 hc
    go_upto_region 16 with (first | ((with_reducible refine wl_id ?_); refine m_load HM.out rfl rfl rfl (by first | exact .head _ | exact .tail _ (.head _) | exact .tail _ (.tail _ (.head _)) | exact .tail _ (.tail _ (.tail _ (.head _))) | exact .tail _ (.tail _ (.tail _ (.tail _ (.head _)))) | exact .tail _ (.tail _ (.tail _ (.tail _ (.tail _ (.head _))))) | exact .tail _ (.tail _ (.tail _ (.tail _ (.tail _ (.tail _ (.head _)))))) | exact .tail _ (.tail _ (.tail _ (.tail _ (.tail _ (.tail _ (.tail _ (.head _)))))))) rfl (by first | exact Tryd.underlying3 | exact Tryd.underlying4 | exact Tryd.underlying9 | exact Tryd.underlying28 | exact Tryd.underlying35) rfl ?_; simp only [Act.put, List.setIfInBounds_toArray, List.set_cons_zero, List.set_cons_succ]) | ((with_reducible refine wl_id ?_); refine m_store HM.out rfl rfl rfl 4 rfl rfl rfl rfl (Nat.le_of_ble_eq_true rfl) (by kernel_rfl) ?_; intro wx hM; simp only [Act.put, List.setIfInBounds_toArray, List.set_cons_zero, List.set_cons_succ]; simp only [List.set_cons_succ, List.set_cons_zero] at hM; clear HM; have HM := hid hM; clear hM))
    (refine m_quiet HM.out (by kernel_rfl) (by kernel_rfl) (fun hne => ?_); (repeat (first | (go_big_quiet_want; refine mq_load rfl rfl (by first | exact .head _ | exact .tail _ (.head _) | exact .tail _ (.tail _ (.head _)) | exact .tail _ (.tail _ (.tail _ (.head _))) | exact .tail _ (.tail _ (.tail _ (.tail _ (.head _)))) | exact .tail _ (.tail _ (.tail _ (.tail _ (.tail _ (.head _))))) | exact .tail _ (.tail _ (.tail _ (.tail _ (.tail _ (.tail _ (.head _)))))) | exact .tail _ (.tail _ (.tail _ (.tail _ (.tail _ (.tail _ (.tail _ (.head _)))))))) rfl (by first | exact Tryd.underlying3 | exact Tryd.underlying4 | exact Tryd.underlying9 | exact Tryd.underlying28 | exact Tryd.underlying35) rfl ?_; simp only [Act.put, List.setIfInBounds_toArray, List.set_cons_zero, List.set_cons_succ]; go_big_quiet_on) | go_big_quiet_step (fail))); refine wpQuiet_nil ?_; intro wq hM; clear HM hne; have HM := hid hM; clear hM)
    go_upto_region 38 with (first | ((with_reducible refine wl_id ?_); refine m_load HM.out rfl rfl rfl (by first | exact .head _ | exact .tail _ (.head _) | exact .tail _ (.tail _ (.head _)) | exact .tail _ (.tail _ (.tail _ (.head _))) | exact .tail _ (.tail _ (.tail _ (.tail _ (.head _)))) | exact .tail _ (.tail _ (.tail _ (.tail _ (.tail _ (.head _))))) | exact .tail _ (.tail _ (.tail _ (.tail _ (.tail _ (.tail _ (.head _)))))) | exact .tail _ (.tail _ (.tail _ (.tail _ (.tail _ (.tail _ (.tail _ (.head _)))))))) rfl (by first | exact Tryd.underlying3 | exact Tryd.underlying4 | exact Tryd.underlying9 | exact Tryd.underlying28 | exact Tryd.underlying35) rfl ?_; simp only [Act.put, List.setIfInBounds_toArray, List.set_cons_zero, List.set_cons_succ]) | ((with_reducible refine wl_id ?_); refine m_store HM.out rfl rfl rfl 4 rfl rfl rfl rfl (Nat.le_of_ble_eq_true rfl) (by kernel_rfl) ?_; intro wx hM; simp only [Act.put, List.setIfInBounds_toArray, List.set_cons_zero, List.set_cons_succ]; simp only [List.set_cons_succ, List.set_cons_zero] at hM; clear HM; have HM := hid hM; clear hM))
    refine wp_region_lit ?_
    have HE := hid (show atRow q (min (q.mr - 1) (q.cur.row + N)) = toS s 66 N K by rw [HTS.out]; try (exact Scr.row_eq (by unfold downR; rw [if_neg HC.out])))
    ((with_reducible refine wl_id ?_); refine m_loadS HM.out rfl rfl rfl (by first | exact .head _ | exact .tail _ (.head _) | exact .tail _ (.tail _ (.head _)) | exact .tail _ (.tail _ (.tail _ (.head _))) | exact .tail _ (.tail _ (.tail _ (.tail _ (.head _)))) | exact .tail _ (.tail _ (.tail _ (.tail _ (.tail _ (.head _))))) | exact .tail _ (.tail _ (.tail _ (.tail _ (.tail _ (.tail _ (.head _)))))) | exact .tail _ (.tail _ (.tail _ (.tail _ (.tail _ (.tail _ (.tail _ (.head _)))))))) (scrL (atRow q (min (q.mr - 1) (q.cur.row + N))) (sl gm s.ms.length cm) (sl go s.os.length co) (sl gt s.tabs.length ct)) rfl Tryd.underlying37 rfl (by kernel_rfl) ?_; simp only [Act.put, List.setIfInBounds_toArray, List.set_cons_zero, List.set_cons_succ])
    ((with_reducible refine wl_id ?_); refine m_storeA HM.out rfl rfl rfl 3 rfl rfl rfl (by kernel_rfl) rfl ?_; intro wx hM; simp only [Act.put, List.setIfInBounds_toArray, List.set_cons_zero, List.set_cons_succ]; simp only [List.set_cons_succ, List.set_cons_zero] at hM; clear HM; have HM := hid hM; clear hM)
    go_wp2
    have hO' : OwnScr _ w.heap.size (toS s 66 N K) (sl gm s.ms.length cm) (sl go s.os.length co) (sl gt s.tabs.length ct) := (HM.out.scr (s := s)).as (toS_keeps s 66 N K).1 (toS_keeps s 66 N K).2.1 (toS_keeps s 66 N K).2.2.1
    exact bodyPost_ret (m_results1 HM.out Tryd.results40 _ rfl (.tail _ (.tail _ (.tail _ (.head _)))) (scrL (atRow q (min (q.mr - 1) (q.cur.row + N))) (sl gm s.ms.length cm) (sl go s.os.length co) (sl gt s.tabs.length ct)) rfl Tryd.underlying37 rfl (by kernel_rfl)) rfl ⟨_, _, _, by rw [← HE.out], hO', HM.out.below⟩
set_option maxRecDepth 100000 in
set_option maxHeartbeats 4000000 in
theorem rmove_67 {s : Scr} {m o t : Value} {n k : Int} {w : World} (hr : RdScr w s m o t) (hs : scrB s = true) (hnb : -1 ≤ n ∧ n ≤ 9999) (hkb : -1 ≤ k ∧ k ≤ 9999) :
    Calls Tryd.prog 40 #[.agg (scrL s m o t).toArray, .int .i64 67, .int .i64 n, .int .i64 k] w fun e w' => ∃ m' o' t', e = .returned (.agg (scrL (toS s 67 (max 1 n) (max 1 k)) m' o' t').toArray) ∧ OwnScr w' w.heap.size (toS s 67 (max 1 n) (max 1 k)) m' o' t' ∧ Below w.heap.size w w' := by
  have HFA := hid (scrB_facts hs)
  have HO := hid (fun W (hW : Below w.heap.size w W) => copyS_l (hr.below hW))
  have HX := hid (Mem.start w)
  obtain ⟨N, hN⟩ : ∃ N, max 1 n = N := ⟨_, rfl⟩
  obtain ⟨K, hK⟩ : ∃ K, max 1 k = K := ⟨_, rfl⟩
  have hNb : 1 ≤ N ∧ N ≤ 9999 := by omega
  have hKb : 1 ≤ K ∧ K ≤ 9999 := by omega
  rw [hN, hK]
  clear hs hr
  go_enter Tryd.func40, Tryd.ntmps40
  go_upto_region 0 with (fail)
  refine wp_region_lit ?_
  refine m_box HX.out rfl rfl rfl ?_
  intro b w1 hM1
  simp only [Act.put, List.setIfInBounds_toArray, List.set_cons_zero, List.set_cons_succ]
  refine m_alloc hM1 rfl rfl info_zS ?_
  intro b' w2 hM
  simp only [Act.put, List.setIfInBounds_toArray, List.set_cons_zero, List.set_cons_succ]
  clear hM1
  have HM := hid (show Mem w w2 [(b', Row 37 zL), (b, Row 37 (scrL s m o t))] from hM)
  clear hM
  go_wp2_with (first | ((with_reducible refine wl_id ?_); refine m_loadS HM.out rfl rfl rfl (by first | exact .head _ | exact .tail _ (.head _) | exact .tail _ (.tail _ (.head _)) | exact .tail _ (.tail _ (.tail _ (.head _))) | exact .tail _ (.tail _ (.tail _ (.tail _ (.head _)))) | exact .tail _ (.tail _ (.tail _ (.tail _ (.tail _ (.head _))))) | exact .tail _ (.tail _ (.tail _ (.tail _ (.tail _ (.tail _ (.head _)))))) | exact .tail _ (.tail _ (.tail _ (.tail _ (.tail _ (.tail _ (.tail _ (.head _)))))))) (scrL s m o t) rfl Tryd.underlying37 rfl (by kernel_rfl) ?_; simp only [Act.put, List.setIfInBounds_toArray, List.set_cons_zero, List.set_cons_succ]) | (go_at_call 30; fail))
  refine (HO.out _ HM.out.below).mono ?_
  rintro e w3 ⟨m', o', t', rfl, hO, hB⟩
  obtain ⟨gm, cm, go, co, gt, ct, rfl, rfl, rfl, hM⟩ := HM.out.addScr hB hO HFA.out.2.1
  clear HM hO hB HO HX
  have HM := hid hM
  clear hM
  go_upto_region 4 with (first | ((with_reducible refine wl_id ?_); refine m_storeA HM.out rfl rfl rfl 4 rfl rfl rfl (by kernel_rfl) rfl ?_; intro wx hM; simp only [Act.put, List.setIfInBounds_toArray, List.set_cons_zero, List.set_cons_succ]; simp only [List.set_cons_succ, List.set_cons_zero] at hM; clear HM; have HM := hid hM; clear hM))
  go_upto_region 5 with (first | ((with_reducible refine wl_id ?_); refine m_store HM.out rfl rfl rfl 4 rfl rfl rfl rfl (Nat.le_of_ble_eq_true rfl) (by kernel_rfl) ?_; intro wx hM; simp only [Act.put, List.setIfInBounds_toArray, List.set_cons_zero, List.set_cons_succ]; simp only [List.set_cons_succ, List.set_cons_zero] at hM; clear HM; have HM := hid hM; clear hM))
  obtain ⟨q, hq⟩ : ∃ q, noWrap s = q := ⟨_, rfl⟩
  have hbq : Bd q := hq ▸ HFA.out.1.noWrap
  have htq : q.tabs = s.tabs := by rw [← hq]; rfl
  have HTQ := hid htq
  have hlq : (s.tabs.length : Int) = q.mc := by rw [← hq]; exact HFA.out.2.2.1
  have HLQ := hid hlq
  have HTS := hid (show toS s 67 N K = atCol q (min (q.mc - 1) (q.cur.col + N)) by rw [← hq]; rfl)
  have hK1 : q.ms = s.ms ∧ q.os = s.os := by rw [← hq]; exact ⟨rfl, rfl⟩
  have HKP := hid hK1
  have h0 : Mem w _ [(gm, entC s.ms cm), (go, entC s.os co), (gt, entB s.tabs ct), (b', Row 37 zL), (b, Row 37 (scrL (noWrap s) (sl gm s.ms.length cm) (sl go s.os.length co) (sl gt s.tabs.length ct)))] := HM.out
  rw [hq] at h0
  have HM2 := hid h0
  clear h0
  clear HM hq htq hlq hK1
  have HM := HM2
  clear HM2
  have hrr := hbq.row
  have hcc := hbq.col
  have ht := hbq.top
  have hqb := hbq.bot
  have hmr := hbq.mr
  have hmc := hbq.mc
  clear hbq
  (refine m_quiet HM.out (by kernel_rfl) (by kernel_rfl) (fun hne => ?_); (repeat (first | (go_big_quiet_want; refine mq_load rfl rfl (by first | exact .head _ | exact .tail _ (.head _) | exact .tail _ (.tail _ (.head _)) | exact .tail _ (.tail _ (.tail _ (.head _))) | exact .tail _ (.tail _ (.tail _ (.tail _ (.head _)))) | exact .tail _ (.tail _ (.tail _ (.tail _ (.tail _ (.head _))))) | exact .tail _ (.tail _ (.tail _ (.tail _ (.tail _ (.tail _ (.head _)))))) | exact .tail _ (.tail _ (.tail _ (.tail _ (.tail _ (.tail _ (.tail _ (.head _)))))))) rfl (by first | exact Tryd.underlying3 | exact Tryd.underlying4 | exact Tryd.underlying9 | exact Tryd.underlying28 | exact Tryd.underlying35) rfl ?_; simp only [Act.put, List.setIfInBounds_toArray, List.set_cons_zero, List.set_cons_succ]; go_big_quiet_on) | go_big_quiet_step (fail))); refine wpQuiet_nil ?_; intro wq hM; clear HM hne; have HM := hid hM; clear hM)
  go_upto_region 38 with (first | ((with_reducible refine wl_id ?_); refine m_load HM.out rfl rfl rfl (by first | exact .head _ | exact .tail _ (.head _) | exact .tail _ (.tail _ (.head _)) | exact .tail _ (.tail _ (.tail _ (.head _))) | exact .tail _ (.tail _ (.tail _ (.tail _ (.head _)))) | exact .tail _ (.tail _ (.tail _ (.tail _ (.tail _ (.head _))))) | exact .tail _ (.tail _ (.tail _ (.tail _ (.tail _ (.tail _ (.head _)))))) | exact .tail _ (.tail _ (.tail _ (.tail _ (.tail _ (.tail _ (.tail _ (.head _)))))))) rfl (by first | exact Tryd.underlying3 | exact Tryd.underlying4 | exact Tryd.underlying9 | exact Tryd.underlying28 | exact Tryd.underlying35) rfl ?_; simp only [Act.put, List.setIfInBounds_toArray, List.set_cons_zero, List.set_cons_succ]) | ((with_reducible refine wl_id ?_); refine m_store HM.out rfl rfl rfl 4 rfl rfl rfl rfl (Nat.le_of_ble_eq_true rfl) (by kernel_rfl) ?_; intro wx hM; simp only [Act.put, List.setIfInBounds_toArray, List.set_cons_zero, List.set_cons_succ]; simp only [List.set_cons_succ, List.set_cons_zero] at hM; clear HM; have HM := hid hM; clear hM))
  refine wp_region_lit ?_
  have HE := hid (show atCol q (min (q.mc - 1) (q.cur.col + N)) = toS s 67 N K by rw [HTS.out]; try (exact Scr.col_eq (by omega)))
  ((with_reducible refine wl_id ?_); refine m_loadS HM.out rfl rfl rfl (by first | exact .head _ | exact .tail _ (.head _) | exact .tail _ (.tail _ (.head _)) | exact .tail _ (.tail _ (.tail _ (.head _))) | exact .tail _ (.tail _ (.tail _ (.tail _ (.head _)))) | exact .tail _ (.tail _ (.tail _ (.tail _ (.tail _ (.head _))))) | exact .tail _ (.tail _ (.tail _ (.tail _ (.tail _ (.tail _ (.head _)))))) | exact .tail _ (.tail _ (.tail _ (.tail _ (.tail _ (.tail _ (.tail _ (.head _)))))))) (scrL (atCol q (min (q.mc - 1) (q.cur.col + N))) (sl gm s.ms.length cm) (sl go s.os.length co) (sl gt s.tabs.length ct)) rfl Tryd.underlying37 rfl (by kernel_rfl) ?_; simp only [Act.put, List.setIfInBounds_toArray, List.set_cons_zero, List.set_cons_succ])
  ((with_reducible refine wl_id ?_); refine m_storeA HM.out rfl rfl rfl 3 rfl rfl rfl (by kernel_rfl) rfl ?_; intro wx hM; simp only [Act.put, List.setIfInBounds_toArray, List.set_cons_zero, List.set_cons_succ]; simp only [List.set_cons_succ, List.set_cons_zero] at hM; clear HM; have HM := hid hM; clear hM)
  go_wp2
  have hO' : OwnScr _ w.heap.size (toS s 67 N K) (sl gm s.ms.length cm) (sl go s.os.length co) (sl gt s.tabs.length ct) := (HM.out.scr (s := s)).as (toS_keeps s 67 N K).1 (toS_keeps s 67 N K).2.1 (toS_keeps s 67 N K).2.2.1
  exact bodyPost_ret (m_results1 HM.out Tryd.results40 _ rfl (.tail _ (.tail _ (.tail _ (.head _)))) (scrL (atCol q (min (q.mc - 1) (q.cur.col + N))) (sl gm s.ms.length cm) (sl go s.os.length co) (sl gt s.tabs.length ct)) rfl Tryd.underlying37 rfl (by kernel_rfl)) rfl ⟨_, _, _, by rw [← HE.out], hO', HM.out.below⟩
set_option maxRecDepth 100000 in
set_option maxHeartbeats 4000000 in
theorem rmove_68 {s : Scr} {m o t : Value} {n k : Int} {w : World} (hr : RdScr w s m o t) (hs : scrB s = true) (hnb : -1 ≤ n ∧ n ≤ 9999) (hkb : -1 ≤ k ∧ k ≤ 9999) :
    Calls Tryd.prog 40 #[.agg (scrL s m o t).toArray, .int .i64 68, .int .i64 n, .int .i64 k] w fun e w' => ∃ m' o' t', e = .returned (.agg (scrL (toS s 68 (max 1 n) (max 1 k)) m' o' t').toArray) ∧ OwnScr w' w.heap.size (toS s 68 (max 1 n) (max 1 k)) m' o' t' ∧ Below w.heap.size w w' := by
  have HFA := hid (scrB_facts hs)
  have HO := hid (fun W (hW : Below w.heap.size w W) => copyS_l (hr.below hW))
  have HX := hid (Mem.start w)
  obtain ⟨N, hN⟩ : ∃ N, max 1 n = N := ⟨_, rfl⟩
  obtain ⟨K, hK⟩ : ∃ K, max 1 k = K := ⟨_, rfl⟩
  have hNb : 1 ≤ N ∧ N ≤ 9999 := by omega
  have hKb : 1 ≤ K ∧ K ≤ 9999 := by omega
  rw [hN, hK]
  clear hs hr
  go_enter Tryd.func40, Tryd.ntmps40
  go_upto_region 0 with (fail)
  refine wp_region_lit ?_
  refine m_box HX.out rfl rfl rfl ?_
  intro b w1 hM1
  simp only [Act.put, List.setIfInBounds_toArray, List.set_cons_zero, List.set_cons_succ]
  refine m_alloc hM1 rfl rfl info_zS ?_
  intro b' w2 hM
  simp only [Act.put, List.setIfInBounds_toArray, List.set_cons_zero, List.set_cons_succ]
  clear hM1
  have HM := hid (show Mem w w2 [(b', Row 37 zL), (b, Row 37 (scrL s m o t))] from hM)
  clear hM
  go_wp2_with (first | ((with_reducible refine wl_id ?_); refine m_loadS HM.out rfl rfl rfl (by first | exact .head _ | exact .tail _ (.head _) | exact .tail _ (.tail _ (.head _)) | exact .tail _ (.tail _ (.tail _ (.head _))) | exact .tail _ (.tail _ (.tail _ (.tail _ (.head _)))) | exact .tail _ (.tail _ (.tail _ (.tail _ (.tail _ (.head _))))) | exact .tail _ (.tail _ (.tail _ (.tail _ (.tail _ (.tail _ (.head _)))))) | exact .tail _ (.tail _ (.tail _ (.tail _ (.tail _ (.tail _ (.tail _ (.head _)))))))) (scrL s m o t) rfl Tryd.underlying37 rfl (by kernel_rfl) ?_; simp only [Act.put, List.setIfInBounds_toArray, List.set_cons_zero, List.set_cons_succ]) | (go_at_call 30; fail))
  refine (HO.out _ HM.out.below).mono ?_
  rintro e w3 ⟨m', o', t', rfl, hO, hB⟩
  obtain ⟨gm, cm, go, co, gt, ct, rfl, rfl, rfl, hM⟩ := HM.out.addScr hB hO HFA.out.2.1
  clear HM hO hB HO HX
  have HM := hid hM
  clear hM
  go_upto_region 4 with (first | ((with_reducible refine wl_id ?_); refine m_storeA HM.out rfl rfl rfl 4 rfl rfl rfl (by kernel_rfl) rfl ?_; intro wx hM; simp only [Act.put, List.setIfInBounds_toArray, List.set_cons_zero, List.set_cons_succ]; simp only [List.set_cons_succ, List.set_cons_zero] at hM; clear HM; have HM := hid hM; clear hM))
  go_upto_region 5 with (first | ((with_reducible refine wl_id ?_); refine m_store HM.out rfl rfl rfl 4 rfl rfl rfl rfl (Nat.le_of_ble_eq_true rfl) (by kernel_rfl) ?_; intro wx hM; simp only [Act.put, List.setIfInBounds_toArray, List.set_cons_zero, List.set_cons_succ]; simp only [List.set_cons_succ, List.set_cons_zero] at hM; clear HM; have HM := hid hM; clear hM))
  obtain ⟨q, hq⟩ : ∃ q, noWrap s = q := ⟨_, rfl⟩
  have hbq : Bd q := hq ▸ HFA.out.1.noWrap
  have htq : q.tabs = s.tabs := by rw [← hq]; rfl
  have HTQ := hid htq
  have hlq : (s.tabs.length : Int) = q.mc := by rw [← hq]; exact HFA.out.2.2.1
  have HLQ := hid hlq
  have HTS := hid (show toS s 68 N K = atCol q (max 0 (q.cur.col - N)) by rw [← hq]; rfl)
  have hK1 : q.ms = s.ms ∧ q.os = s.os := by rw [← hq]; exact ⟨rfl, rfl⟩
  have HKP := hid hK1
  have h0 : Mem w _ [(gm, entC s.ms cm), (go, entC s.os co), (gt, entB s.tabs ct), (b', Row 37 zL), (b, Row 37 (scrL (noWrap s) (sl gm s.ms.length cm) (sl go s.os.length co) (sl gt s.tabs.length ct)))] := HM.out
  rw [hq] at h0
  have HM2 := hid h0
  clear h0
  clear HM hq htq hlq hK1
  have HM := HM2
  clear HM2
  have hrr := hbq.row
  have hcc := hbq.col
  have ht := hbq.top
  have hqb := hbq.bot
  have hmr := hbq.mr
  have hmc := hbq.mc
  clear hbq
  (refine m_quiet HM.out (by kernel_rfl) (by kernel_rfl) (fun hne => ?_); (repeat (first | (go_big_quiet_want; refine mq_load rfl rfl (by first | exact .head _ | exact .tail _ (.head _) | exact .tail _ (.tail _ (.head _)) | exact .tail _ (.tail _ (.tail _ (.head _))) | exact .tail _ (.tail _ (.tail _ (.tail _ (.head _)))) | exact .tail _ (.tail _ (.tail _ (.tail _ (.tail _ (.head _))))) | exact .tail _ (.tail _ (.tail _ (.tail _ (.tail _ (.tail _ (.head _)))))) | exact .tail _ (.tail _ (.tail _ (.tail _ (.tail _ (.tail _ (.tail _ (.head _)))))))) rfl (by first | exact Tryd.underlying3 | exact Tryd.underlying4 | exact Tryd.underlying9 | exact Tryd.underlying28 | exact Tryd.underlying35) rfl ?_; simp only [Act.put, List.setIfInBounds_toArray, List.set_cons_zero, List.set_cons_succ]; go_big_quiet_on) | go_big_quiet_step (fail))); refine wpQuiet_nil ?_; intro wq hM; clear HM hne; have HM := hid hM; clear hM)
  go_upto_region 38 with (first | ((with_reducible refine wl_id ?_); refine m_load HM.out rfl rfl rfl (by first | exact .head _ | exact .tail _ (.head _) | exact .tail _ (.tail _ (.head _)) | exact .tail _ (.tail _ (.tail _ (.head _))) | exact .tail _ (.tail _ (.tail _ (.tail _ (.head _)))) | exact .tail _ (.tail _ (.tail _ (.tail _ (.tail _ (.head _))))) | exact .tail _ (.tail _ (.tail _ (.tail _ (.tail _ (.tail _ (.head _)))))) | exact .tail _ (.tail _ (.tail _ (.tail _ (.tail _ (.tail _ (.tail _ (.head _)))))))) rfl (by first | exact Tryd.underlying3 | exact Tryd.underlying4 | exact Tryd.underlying9 | exact Tryd.underlying28 | exact Tryd.underlying35) rfl ?_; simp only [Act.put, List.setIfInBounds_toArray, List.set_cons_zero, List.set_cons_succ]) | ((with_reducible refine wl_id ?_); refine m_store HM.out rfl rfl rfl 4 rfl rfl rfl rfl (Nat.le_of_ble_eq_true rfl) (by kernel_rfl) ?_; intro wx hM; simp only [Act.put, List.setIfInBounds_toArray, List.set_cons_zero, List.set_cons_succ]; simp only [List.set_cons_succ, List.set_cons_zero] at hM; clear HM; have HM := hid hM; clear hM))
  refine wp_region_lit ?_
  have HE := hid (show atCol q (max 0 (q.cur.col - N)) = toS s 68 N K by rw [HTS.out]; try (exact Scr.col_eq (by omega)))
  ((with_reducible refine wl_id ?_); refine m_loadS HM.out rfl rfl rfl (by first | exact .head _ | exact .tail _ (.head _) | exact .tail _ (.tail _ (.head _)) | exact .tail _ (.tail _ (.tail _ (.head _))) | exact .tail _ (.tail _ (.tail _ (.tail _ (.head _)))) | exact .tail _ (.tail _ (.tail _ (.tail _ (.tail _ (.head _))))) | exact .tail _ (.tail _ (.tail _ (.tail _ (.tail _ (.tail _ (.head _)))))) | exact .tail _ (.tail _ (.tail _ (.tail _ (.tail _ (.tail _ (.tail _ (.head _)))))))) (scrL (atCol q (max 0 (q.cur.col - N))) (sl gm s.ms.length cm) (sl go s.os.length co) (sl gt s.tabs.length ct)) rfl Tryd.underlying37 rfl (by kernel_rfl) ?_; simp only [Act.put, List.setIfInBounds_toArray, List.set_cons_zero, List.set_cons_succ])
  ((with_reducible refine wl_id ?_); refine m_storeA HM.out rfl rfl rfl 3 rfl rfl rfl (by kernel_rfl) rfl ?_; intro wx hM; simp only [Act.put, List.setIfInBounds_toArray, List.set_cons_zero, List.set_cons_succ]; simp only [List.set_cons_succ, List.set_cons_zero] at hM; clear HM; have HM := hid hM; clear hM)
  go_wp2
  have hO' : OwnScr _ w.heap.size (toS s 68 N K) (sl gm s.ms.length cm) (sl go s.os.length co) (sl gt s.tabs.length ct) := (HM.out.scr (s := s)).as (toS_keeps s 68 N K).1 (toS_keeps s 68 N K).2.1 (toS_keeps s 68 N K).2.2.1
  exact bodyPost_ret (m_results1 HM.out Tryd.results40 _ rfl (.tail _ (.tail _ (.tail _ (.head _)))) (scrL (atCol q (max 0 (q.cur.col - N))) (sl gm s.ms.length cm) (sl go s.os.length co) (sl gt s.tabs.length ct)) rfl Tryd.underlying37 rfl (by kernel_rfl)) rfl ⟨_, _, _, by rw [← HE.out], hO', HM.out.below⟩
set_option maxRecDepth 100000 in
set_option maxHeartbeats 4000000 in
theorem rmove_69 {s : Scr} {m o t : Value} {n k : Int} {w : World} (hr : RdScr w s m o t) (hs : scrB s = true) (hnb : -1 ≤ n ∧ n ≤ 9999) (hkb : -1 ≤ k ∧ k ≤ 9999) :
    Calls Tryd.prog 40 #[.agg (scrL s m o t).toArray, .int .i64 69, .int .i64 n, .int .i64 k] w fun e w' => ∃ m' o' t', e = .returned (.agg (scrL (toS s 69 (max 1 n) (max 1 k)) m' o' t').toArray) ∧ OwnScr w' w.heap.size (toS s 69 (max 1 n) (max 1 k)) m' o' t' ∧ Below w.heap.size w w' := by
  have HFA := hid (scrB_facts hs)
  have HO := hid (fun W (hW : Below w.heap.size w W) => copyS_l (hr.below hW))
  have HX := hid (Mem.start w)
  obtain ⟨N, hN⟩ : ∃ N, max 1 n = N := ⟨_, rfl⟩
  obtain ⟨K, hK⟩ : ∃ K, max 1 k = K := ⟨_, rfl⟩
  have hNb : 1 ≤ N ∧ N ≤ 9999 := by omega
  have hKb : 1 ≤ K ∧ K ≤ 9999 := by omega
  rw [hN, hK]
  clear hs hr
  go_enter Tryd.func40, Tryd.ntmps40
  go_upto_region 0 with (fail)
  refine wp_region_lit ?_
  refine m_box HX.out rfl rfl rfl ?_
  intro b w1 hM1
  simp only [Act.put, List.setIfInBounds_toArray, List.set_cons_zero, List.set_cons_succ]
  refine m_alloc hM1 rfl rfl info_zS ?_
  intro b' w2 hM
  simp only [Act.put, List.setIfInBounds_toArray, List.set_cons_zero, List.set_cons_succ]
  clear hM1
  have HM := hid (show Mem w w2 [(b', Row 37 zL), (b, Row 37 (scrL s m o t))] from hM)
  clear hM
  go_wp2_with (first | ((with_reducible refine wl_id ?_); refine m_loadS HM.out rfl rfl rfl (by first | exact .head _ | exact .tail _ (.head _) | exact .tail _ (.tail _ (.head _)) | exact .tail _ (.tail _ (.tail _ (.head _))) | exact .tail _ (.tail _ (.tail _ (.tail _ (.head _)))) | exact .tail _ (.tail _ (.tail _ (.tail _ (.tail _ (.head _))))) | exact .tail _ (.tail _ (.tail _ (.tail _ (.tail _ (.tail _ (.head _)))))) | exact .tail _ (.tail _ (.tail _ (.tail _ (.tail _ (.tail _ (.tail _ (.head _)))))))) (scrL s m o t) rfl Tryd.underlying37 rfl (by kernel_rfl) ?_; simp only [Act.put, List.setIfInBounds_toArray, List.set_cons_zero, List.set_cons_succ]) | (go_at_call 30; fail))
  refine (HO.out _ HM.out.below).mono ?_
  rintro e w3 ⟨m', o', t', rfl, hO, hB⟩
  obtain ⟨gm, cm, go, co, gt, ct, rfl, rfl, rfl, hM⟩ := HM.out.addScr hB hO HFA.out.2.1
  clear HM hO hB HO HX
  have HM := hid hM
  clear hM
  go_upto_region 4 with (first | ((with_reducible refine wl_id ?_); refine m_storeA HM.out rfl rfl rfl 4 rfl rfl rfl (by kernel_rfl) rfl ?_; intro wx hM; simp only [Act.put, List.setIfInBounds_toArray, List.set_cons_zero, List.set_cons_succ]; simp only [List.set_cons_succ, List.set_cons_zero] at hM; clear HM; have HM := hid hM; clear hM))
  go_upto_region 5 with (first | ((with_reducible refine wl_id ?_); refine m_store HM.out rfl rfl rfl 4 rfl rfl rfl rfl (Nat.le_of_ble_eq_true rfl) (by kernel_rfl) ?_; intro wx hM; simp only [Act.put, List.setIfInBounds_toArray, List.set_cons_zero, List.set_cons_succ]; simp only [List.set_cons_succ, List.set_cons_zero] at hM; clear HM; have HM := hid hM; clear hM))
  obtain ⟨q, hq⟩ : ∃ q, noWrap s = q := ⟨_, rfl⟩
  have hbq : Bd q := hq ▸ HFA.out.1.noWrap
  have htq : q.tabs = s.tabs := by rw [← hq]; rfl
  have HTQ := hid htq
  have hlq : (s.tabs.length : Int) = q.mc := by rw [← hq]; exact HFA.out.2.2.1
  have HLQ := hid hlq
  have HTS := hid (show toS s 69 N K = atCol (atRow q (downR q N)) 0 by rw [← hq]; rfl)
  have hK1 : q.ms = s.ms ∧ q.os = s.os := by rw [← hq]; exact ⟨rfl, rfl⟩
  have HKP := hid hK1
  have h0 : Mem w _ [(gm, entC s.ms cm), (go, entC s.os co), (gt, entB s.tabs ct), (b', Row 37 zL), (b, Row 37 (scrL (noWrap s) (sl gm s.ms.length cm) (sl go s.os.length co) (sl gt s.tabs.length ct)))] := HM.out
  rw [hq] at h0
  have HM2 := hid h0
  clear h0
  clear HM hq htq hlq hK1
  have HM := HM2
  clear HM2
  have hrr := hbq.row
  have hcc := hbq.col
  have ht := hbq.top
  have hqb := hbq.bot
  have hmr := hbq.mr
  have hmc := hbq.mc
  clear hbq
  (refine m_quiet HM.out (by kernel_rfl) (by kernel_rfl) (fun hne => ?_); (repeat (first | (go_big_quiet_want; refine mq_load rfl rfl (by first | exact .head _ | exact .tail _ (.head _) | exact .tail _ (.tail _ (.head _)) | exact .tail _ (.tail _ (.tail _ (.head _))) | exact .tail _ (.tail _ (.tail _ (.tail _ (.head _)))) | exact .tail _ (.tail _ (.tail _ (.tail _ (.tail _ (.head _))))) | exact .tail _ (.tail _ (.tail _ (.tail _ (.tail _ (.tail _ (.head _)))))) | exact .tail _ (.tail _ (.tail _ (.tail _ (.tail _ (.tail _ (.tail _ (.head _)))))))) rfl (by first | exact Tryd.underlying3 | exact Tryd.underlying4 | exact Tryd.underlying9 | exact Tryd.underlying28 | exact Tryd.underlying35) rfl ?_; simp only [Act.put, List.setIfInBounds_toArray, List.set_cons_zero, List.set_cons_succ]; go_big_quiet_on) | go_big_quiet_step (fail))); refine wpQuiet_nil ?_; intro wq hM; clear HM hne; have HM := hid hM; clear hM)
  by_cases hc : q.cur.row ≤ q.bot
  · have HC := hid hc
    go_upto_region 16 with (first | ((with_reducible refine wl_id ?_); refine m_load HM.out rfl rfl rfl (by first | exact .head _ | exact .tail _ (.head _) | exact .tail _ (.tail _ (.head _)) | exact .tail _ (.tail _ (.tail _ (.head _))) | exact .tail _ (.tail _ (.tail _ (.tail _ (.head _)))) | exact .tail _ (.tail _ (.tail _ (.tail _ (.tail _ (.head _))))) | exact .tail _ (.tail _ (.tail _ (.tail _ (.tail _ (.tail _ (.head _)))))) | exact .tail _ (.tail _ (.tail _ (.tail _ (.tail _ (.tail _ (.tail _ (.head _)))))))) rfl (by first | exact Tryd.underlying3 | exact Tryd.underlying4 | exact Tryd.underlying9 | exact Tryd.underlying28 | exact Tryd.underlying35) rfl ?_; simp only [Act.put, List.setIfInBounds_toArray, List.set_cons_zero, List.set_cons_succ]) | ((with_reducible refine wl_id ?_); refine m_store HM.out rfl rfl rfl 4 rfl rfl rfl rfl (Nat.le_of_ble_eq_true rfl) (by kernel_rfl) ?_; intro wx hM; simp only [Act.put, List.setIfInBounds_toArray, List.set_cons_zero, List.set_cons_succ]; simp only [List.set_cons_succ, List.set_cons_zero] at hM; clear HM; have HM := hid hM; clear hM))
    (refine m_quiet HM.out (by kernel_rfl) (by kernel_rfl) (fun hne => ?_); (repeat (first | (go_big_quiet_want; refine mq_load rfl rfl (by first | exact .head _ | exact .tail _ (.head _) | exact .tail _ (.tail _ (.head _)) | exact .tail _ (.tail _ (.tail _ (.head _))) | exact .tail _ (.tail _ (.tail _ (.tail _ (.head _)))) | exact .tail _ (.tail _ (.tail _ (.tail _ (.tail _ (.head _))))) | exact .tail _ (.tail _ (.tail _ (.tail _ (.tail _ (.tail _ (.head _)))))) | exact .tail _ (.tail _ (.tail _ (.tail _ (.tail _ (.tail _ (.tail _ (.head _)))))))) rfl (by first | exact Tryd.underlying3 | exact Tryd.underlying4 | exact Tryd.underlying9 | exact Tryd.underlying28 | exact Tryd.underlying35) rfl ?_; simp only [Act.put, List.setIfInBounds_toArray, List.set_cons_zero, List.set_cons_succ]; go_big_quiet_on) | go_big_quiet_step (fail))); refine wpQuiet_nil ?_; intro wq hM; clear HM hne; have HM := hid hM; clear hM)
    go_upto_region 38 with (first | ((with_reducible refine wl_id ?_); refine m_load HM.out rfl rfl rfl (by first | exact .head _ | exact .tail _ (.head _) | exact .tail _ (.tail _ (.head _)) | exact .tail _ (.tail _ (.tail _ (.head _))) | exact .tail _ (.tail _ (.tail _ (.tail _ (.head _)))) | exact .tail _ (.tail _ (.tail _ (.tail _ (.tail _ (.head _))))) | exact .tail _ (.tail _ (.tail _ (.tail _ (.tail _ (.tail _ (.head _)))))) | exact .tail _ (.tail _ (.tail _ (.tail _ (.tail _ (.tail _ (.tail _ (.head _)))))))) rfl (by first | exact Tryd.underlying3 | exact Tryd.underlying4 | exact Tryd.underlying9 | exact Tryd.underlying28 | exact Tryd.underlying35) rfl ?_; simp only [Act.put, List.setIfInBounds_toArray, List.set_cons_zero, List.set_cons_succ]) | ((with_reducible refine wl_id ?_); refine m_store HM.out rfl rfl rfl 4 rfl rfl rfl rfl (Nat.le_of_ble_eq_true rfl) (by kernel_rfl) ?_; intro wx hM; simp only [Act.put, List.setIfInBounds_toArray, List.set_cons_zero, List.set_cons_succ]; simp only [List.set_cons_succ, List.set_cons_zero] at hM; clear HM; have HM := hid hM; clear hM))
    refine wp_region_lit ?_
    have HE := hid (show atCol (atRow q (min q.bot (q.cur.row + N))) 0 = toS s 69 N K by rw [HTS.out]; try (exact congrArg (fun x => atCol x 0) (Scr.row_eq (by unfold downR; rw [if_pos HC.out]))))
    ((with_reducible refine wl_id ?_); refine m_loadS HM.out rfl rfl rfl (by first | exact .head _ | exact .tail _ (.head _) | exact .tail _ (.tail _ (.head _)) | exact .tail _ (.tail _ (.tail _ (.head _))) | exact .tail _ (.tail _ (.tail _ (.tail _ (.head _)))) | exact .tail _ (.tail _ (.tail _ (.tail _ (.tail _ (.head _))))) | exact .tail _ (.tail _ (.tail _ (.tail _ (.tail _ (.tail _ (.head _)))))) | exact .tail _ (.tail _ (.tail _ (.tail _ (.tail _ (.tail _ (.tail _ (.head _)))))))) (scrL (atCol (atRow q (min q.bot (q.cur.row + N))) 0) (sl gm s.ms.length cm) (sl go s.os.length co) (sl gt s.tabs.length ct)) rfl Tryd.underlying37 rfl (by kernel_rfl) ?_; simp only [Act.put, List.setIfInBounds_toArray, List.set_cons_zero, List.set_cons_succ])
    ((with_reducible refine wl_id ?_); refine m_storeA HM.out rfl rfl rfl 3 rfl rfl rfl (by kernel_rfl) rfl ?_; intro wx hM; simp only [Act.put, List.setIfInBounds_toArray, List.set_cons_zero, List.set_cons_succ]; simp only [List.set_cons_succ, List.set_cons_zero] at hM; clear HM; have HM := hid hM; clear hM)
    go_wp2
    have hO' : OwnScr _ w.heap.size (toS s 69 N K) (sl gm s.ms.length cm) (sl go s.os.length co) (sl gt s.tabs.length ct) := (HM.out.scr (s := s)).as (toS_keeps s 69 N K).1 (toS_keeps s 69 N K).2.1 (toS_keeps s 69 N K).2.2.1
    exact bodyPost_ret (m_results1 HM.out Tryd.results40 _ rfl (.tail _ (.tail _ (.tail _ (.head _)))) (scrL (atCol (atRow q (min q.bot (q.cur.row + N))) 0) (sl gm s.ms.length cm) (sl go s.os.length co) (sl gt s.tabs.length ct)) rfl Tryd.underlying37 rfl (by kernel_rfl)) rfl ⟨_, _, _, by rw [← HE.out], hO', HM.out.below⟩
  · have HC := hid hc
    have hc2 := Int.not_le.1 hc
    go_upto_region 16 with (first | ((with_reducible refine wl_id ?_); refine m_load HM.out rfl rfl rfl (by first | exact .head _ | exact .tail _ (.head _) | exact .tail _ (.tail _ (.head _)) | exact .tail _ (.tail _ (.tail _ (.head _))) | exact .tail _ (.tail _ (.tail _ (.tail _ (.head _)))) | exact .tail _ (.tail _ (.tail _ (.tail _ (.tail _ (.head _))))) | exact .tail _ (.tail _ (.tail _ (.tail _ (.tail _ (.tail _ (.head _)))))) | exact .tail _ (.tail _ (.tail _ (.tail _ (.tail _ (.tail _ (.tail _ (.head _)))))))) rfl (by first | exact Tryd.underlying3 | exact Tryd.underlying4 | exact Tryd.underlying9 | exact Tryd.underlying28 | exact Tryd.underlying35) rfl ?_; simp only [Act.put, List.setIfInBounds_toArray, List.set_cons_zero, List.set_cons_succ]) | ((with_reducible refine wl_id ?_); refine m_store HM.out rfl rfl rfl 4 rfl rfl rfl rfl (Nat.le_of_ble_eq_true rfl) (by kernel_rfl) ?_; intro wx hM; simp only [Act.put, List.setIfInBounds_toArray, List.set_cons_zero, List.set_cons_succ]; simp only [List.set_cons_succ, List.set_cons_zero] at hM; clear HM; have HM := hid hM; clear hM))
    (refine m_quiet HM.out (by kernel_rfl) (by kernel_rfl) (fun hne => ?_); (repeat (first | (go_big_quiet_want; refine mq_load rfl rfl (by first | exact .head _ | exact .tail _ (.head _) | exact .tail _ (.tail _ (.head _)) | exact .tail _ (.tail _ (.tail _ (.head _))) | exact .tail _ (.tail _ (.tail _ (.tail _ (.head _)))) | exact .tail _ (.tail _ (.tail _ (.tail _ (.tail _ (.head _))))) | exact .tail _ (.tail _ (.tail _ (.tail _ (.tail _ (.tail _ (.head _)))))) | exact .tail _ (.tail _ (.tail _ (.tail _ (.tail _ (.tail _ (.tail _ (.head _)))))))) rfl (by first | exact Tryd.underlying3 | exact Tryd.underlying4 | exact Tryd.underlying9 | exact Tryd.underlying28 | exact Tryd.underlying35) rfl ?_; simp only [Act.put, List.setIfInBounds_toArray, List.set_cons_zero, List.set_cons_succ]; go_big_quiet_on) | go_big_quiet_step (fail))); refine wpQuiet_nil ?_; intro wq hM; clear HM hne; have HM := hid hM; clear hM)
    go_upto_region 38 with (first | ((with_reducible refine wl_id ?_); refine m_load HM.out rfl rfl rfl (by first | exact .head _ | exact .tail _ (.head _) | exact .tail _ (.tail _ (.head _)) | exact .tail _ (.tail _ (.tail _ (.head _))) | exact .tail _ (.tail _ (.tail _ (.tail _ (.head _)))) | exact .tail _ (.tail _ (.tail _ (.tail _ (.tail _ (.head _))))) | exact .tail _ (.tail _ (.tail _ (.tail _ (.tail _ (.tail _ (.head _)))))) | exact .tail _ (.tail _ (.tail _ (.tail _ (.tail _ (.tail _ (.tail _ (.head _)))))))) rfl (by first | exact Tryd.underlying3 | exact Tryd.underlying4 | exact Tryd.underlying9 | exact Tryd.underlying28 | exact Tryd.underlying35) rfl ?_; simp only [Act.put, List.setIfInBounds_toArray, List.set_cons_zero, List.set_cons_succ]) | ((with_reducible refine wl_id ?_); refine m_store HM.out rfl rfl rfl 4 rfl rfl rfl rfl (Nat.le_of_ble_eq_true rfl) (by kernel_rfl) ?_; intro wx hM; simp only [Act.put, List.setIfInBounds_toArray, List.set_cons_zero, List.set_cons_succ]; simp only [List.set_cons_succ, List.set_cons_zero] at hM; clear HM; have HM := hid hM; clear hM))
    refine wp_region_lit ?_
    have HE := hid (show atCol (atRow q (min (q.mr - 1) (q.cur.row + N))) 0 = toS s 69 N K by rw [HTS.out]; try (exact congrArg (fun x => atCol x 0) (Scr.row_eq (by unfold downR; rw [if_neg HC.out]))))
    ((with_reducible refine wl_id ?_); refine m_loadS HM.out rfl rfl rfl (by first | exact .head _ | exact .tail _ (.head _) | exact .tail _ (.tail _ (.head _)) | exact .tail _ (.tail _ (.tail _ (.head _))) | exact .tail _ (.tail _ (.tail _ (.tail _ (.head _)))) | exact .tail _ (.tail _ (.tail _ (.tail _ (.tail _ (.head _))))) | exact .tail _ (.tail _ (.tail _ (.tail _ (.tail _ (.tail _ (.head _)))))) | exact .tail _ (.tail _ (.tail _ (.tail _ (.tail _ (.tail _ (.tail _ (.head _)))))))) (scrL (atCol (atRow q (min (q.mr - 1) (q.cur.row + N))) 0) (sl gm s.ms.length cm) (sl go s.os.length co) (sl gt s.tabs.length ct)) rfl Tryd.underlying37 rfl (by kernel_rfl) ?_; simp only [Act.put, List.setIfInBounds_toArray, List.set_cons_zero, List.set_cons_succ])
    ((with_reducible refine wl_id ?_); refine m_storeA HM.out rfl rfl rfl 3 rfl rfl rfl (by kernel_rfl) rfl ?_; intro wx hM; simp only [Act.put, List.setIfInBounds_toArray, List.set_cons_zero, List.set_cons_succ]; simp only [List.set_cons_succ, List.set_cons_zero] at hM; clear HM; have HM := hid hM; clear hM)
    go_wp2
    have hO' : OwnScr _ w.heap.size (toS s 69 N K) (sl gm s.ms.length cm) (sl go s.os.length co) (sl gt s.tabs.length ct) := (HM.out.scr (s := s)).as (toS_keeps s 69 N K).1 (toS_keeps s 69 N K).2.1 (toS_keeps s 69 N K).2.2.1
    exact bodyPost_ret (m_results1 HM.out Tryd.results40 _ rfl (.tail _ (.tail _ (.tail _ (.head _)))) (scrL (atCol (atRow q (min (q.mr - 1) (q.cur.row + N))) 0) (sl gm s.ms.length cm) (sl go s.os.length co) (sl gt s.tabs.length ct)) rfl Tryd.underlying37 rfl (by kernel_rfl)) rfl ⟨_, _, _, by rw [← HE.out], hO', HM.out.below⟩
set_option maxRecDepth 100000 in
set_option maxHeartbeats 4000000 in
theorem rmove_70 {s : Scr} {m o t : Value} {n k : Int} {w : World} (hr : RdScr w s m o t) (hs : scrB s = true) (hnb : -1 ≤ n ∧ n ≤ 9999) (hkb : -1 ≤ k ∧ k ≤ 9999) :
    Calls Tryd.prog 40 #[.agg (scrL s m o t).toArray, .int .i64 70, .int .i64 n, .int .i64 k] w fun e w' => ∃ m' o' t', e = .returned (.agg (scrL (toS s 70 (max 1 n) (max 1 k)) m' o' t').toArray) ∧ OwnScr w' w.heap.size (toS s 70 (max 1 n) (max 1 k)) m' o' t' ∧ Below w.heap.size w w' := by
  have HFA := hid (scrB_facts hs)
  have HO := hid (fun W (hW : Below w.heap.size w W) => copyS_l (hr.below hW))
  have HX := hid (Mem.start w)
  obtain ⟨N, hN⟩ : ∃ N, max 1 n = N := ⟨_, rfl⟩
  obtain ⟨K, hK⟩ : ∃ K, max 1 k = K := ⟨_, rfl⟩
  have hNb : 1 ≤ N ∧ N ≤ 9999 := by omega
  have hKb : 1 ≤ K ∧ K ≤ 9999 := by omega
  rw [hN, hK]
  clear hs hr
  go_enter Tryd.func40, Tryd.ntmps40
  go_upto_region 0 with (fail)
  refine wp_region_lit ?_
  refine m_box HX.out rfl rfl rfl ?_
  intro b w1 hM1
  simp only [Act.put, List.setIfInBounds_toArray, List.set_cons_zero, List.set_cons_succ]
  refine m_alloc hM1 rfl rfl info_zS ?_
  intro b' w2 hM
  simp only [Act.put, List.setIfInBounds_toArray, List.set_cons_zero, List.set_cons_succ]
  clear hM1
  have HM := hid (show Mem w w2 [(b', Row 37 zL), (b, Row 37 (scrL s m o t))] from hM)
  clear hM
  go_wp2_with (first | ((with_reducible refine wl_id ?_); refine m_loadS HM.out rfl rfl rfl (by first | exact .head _ | exact .tail _ (.head _) | exact .tail _ (.tail _ (.head _)) | exact .tail _ (.tail _ (.tail _ (.head _))) | exact .tail _ (.tail _ (.tail _ (.tail _ (.head _)))) | exact .tail _ (.tail _ (.tail _ (.tail _ (.tail _ (.head _))))) | exact .tail _ (.tail _ (.tail _ (.tail _ (.tail _ (.tail _ (.head _)))))) | exact .tail _ (.tail _ (.tail _ (.tail _ (.tail _ (.tail _ (.tail _ (.head _)))))))) (scrL s m o t) rfl Tryd.underlying37 rfl (by kernel_rfl) ?_; simp only [Act.put, List.setIfInBounds_toArray, List.set_cons_zero, List.set_cons_succ]) | (go_at_call 30; fail))
  refine (HO.out _ HM.out.below).mono ?_
  rintro e w3 ⟨m', o', t', rfl, hO, hB⟩
  obtain ⟨gm, cm, go, co, gt, ct, rfl, rfl, rfl, hM⟩ := HM.out.addScr hB hO HFA.out.2.1
  clear HM hO hB HO HX
  have HM := hid hM
  clear hM
  go_upto_region 4 with (first | ((with_reducible refine wl_id ?_); refine m_storeA HM.out rfl rfl rfl 4 rfl rfl rfl (by kernel_rfl) rfl ?_; intro wx hM; simp only [Act.put, List.setIfInBounds_toArray, List.set_cons_zero, List.set_cons_succ]; simp only [List.set_cons_succ, List.set_cons_zero] at hM; clear HM; have HM := hid hM; clear hM))
  go_upto_region 5 with (first | ((with_reducible refine wl_id ?_); refine m_store HM.out rfl rfl rfl 4 rfl rfl rfl rfl (Nat.le_of_ble_eq_true rfl) (by kernel_rfl) ?_; intro wx hM; simp only [Act.put, List.setIfInBounds_toArray, List.set_cons_zero, List.set_cons_succ]; simp only [List.set_cons_succ, List.set_cons_zero] at hM; clear HM; have HM := hid hM; clear hM))
  obtain ⟨q, hq⟩ : ∃ q, noWrap s = q := ⟨_, rfl⟩
  have hbq : Bd q := hq ▸ HFA.out.1.noWrap
  have htq : q.tabs = s.tabs := by rw [← hq]; rfl
  have HTQ := hid htq
  have hlq : (s.tabs.length : Int) = q.mc := by rw [← hq]; exact HFA.out.2.2.1
  have HLQ := hid hlq
  have HTS := hid (show toS s 70 N K = atCol (atRow q (upR q N)) 0 by rw [← hq]; rfl)
  have hK1 : q.ms = s.ms ∧ q.os = s.os := by rw [← hq]; exact ⟨rfl, rfl⟩
  have HKP := hid hK1
  have h0 : Mem w _ [(gm, entC s.ms cm), (go, entC s.os co), (gt, entB s.tabs ct), (b', Row 37 zL), (b, Row 37 (scrL (noWrap s) (sl gm s.ms.length cm) (sl go s.os.length co) (sl gt s.tabs.length ct)))] := HM.out
  rw [hq] at h0
  have HM2 := hid h0
  clear h0
  clear HM hq htq hlq hK1
  have HM := HM2
  clear HM2
  have hrr := hbq.row
  have hcc := hbq.col
  have ht := hbq.top
  have hqb := hbq.bot
  have hmr := hbq.mr
  have hmc := hbq.mc
  clear hbq
  (refine m_quiet HM.out (by kernel_rfl) (by kernel_rfl) (fun hne => ?_); (repeat (first | (go_big_quiet_want; refine mq_load rfl rfl (by first | exact .head _ | exact .tail _ (.head _) | exact .tail _ (.tail _ (.head _)) | exact .tail _ (.tail _ (.tail _ (.head _))) | exact .tail _ (.tail _ (.tail _ (.tail _ (.head _)))) | exact .tail _ (.tail _ (.tail _ (.tail _ (.tail _ (.head _))))) | exact .tail _ (.tail _ (.tail _ (.tail _ (.tail _ (.tail _ (.head _)))))) | exact .tail _ (.tail _ (.tail _ (.tail _ (.tail _ (.tail _ (.tail _ (.head _)))))))) rfl (by first | exact Tryd.underlying3 | exact Tryd.underlying4 | exact Tryd.underlying9 | exact Tryd.underlying28 | exact Tryd.underlying35) rfl ?_; simp only [Act.put, List.setIfInBounds_toArray, List.set_cons_zero, List.set_cons_succ]; go_big_quiet_on) | go_big_quiet_step (fail))); refine wpQuiet_nil ?_; intro wq hM; clear HM hne; have HM := hid hM; clear hM)
  by_cases hc : q.top ≤ q.cur.row
  · have HC := hid hc
    go_upto_region 10 with (first | ((with_reducible refine wl_id ?_); refine m_load HM.out rfl rfl rfl (by first | exact .head _ | exact .tail _ (.head _) | exact .tail _ (.tail _ (.head _)) | exact .tail _ (.tail _ (.tail _ (.head _))) | exact .tail _ (.tail _ (.tail _ (.tail _ (.head _)))) | exact .tail _ (.tail _ (.tail _ (.tail _ (.tail _ (.head _))))) | exact .tail _ (.tail _ (.tail _ (.tail _ (.tail _ (.tail _ (.head _)))))) | exact .tail _ (.tail _ (.tail _ (.tail _ (.tail _ (.tail _ (.tail _ (.head _)))))))) rfl (by first | exact Tryd.underlying3 | exact Tryd.underlying4 | exact Tryd.underlying9 | exact Tryd.underlying28 | exact Tryd.underlying35) rfl ?_; simp only [Act.put, List.setIfInBounds_toArray, List.set_cons_zero, List.set_cons_succ]) | ((with_reducible refine wl_id ?_); refine m_store HM.out rfl rfl rfl 4 rfl rfl rfl rfl (Nat.le_of_ble_eq_true rfl) (by kernel_rfl) ?_; intro wx hM; simp only [Act.put, List.setIfInBounds_toArray, List.set_cons_zero, List.set_cons_succ]; simp only [List.set_cons_succ, List.set_cons_zero] at hM; clear HM; have HM := hid hM; clear hM))
    (refine m_quiet HM.out (by kernel_rfl) (by kernel_rfl) (fun hne => ?_); (repeat (first | (go_big_quiet_want; refine mq_load rfl rfl (by first | exact .head _ | exact .tail _ (.head _) | exact .tail _ (.tail _ (.head _)) | exact .tail _ (.tail _ (.tail _ (.head _))) | exact .tail _ (.tail _ (.tail _ (.tail _ (.head _)))) | exact .tail _ (.tail _ (.tail _ (.tail _ (.tail _ (.head _))))) | exact .tail _ (.tail _ (.tail _ (.tail _ (.tail _ (.tail _ (.head _)))))) | exact .tail _ (.tail _ (.tail _ (.tail _ (.tail _ (.tail _ (.tail _ (.head _)))))))) rfl (by first | exact Tryd.underlying3 | exact Tryd.underlying4 | exact Tryd.underlying9 | exact Tryd.underlying28 | exact Tryd.underlying35) rfl ?_; simp only [Act.put, List.setIfInBounds_toArray, List.set_cons_zero, List.set_cons_succ]; go_big_quiet_on) | go_big_quiet_step (fail))); refine wpQuiet_nil ?_; intro wq hM; clear HM hne; have HM := hid hM; clear hM)
    go_upto_region 38 with (first | ((with_reducible refine wl_id ?_); refine m_load HM.out rfl rfl rfl (by first | exact .head _ | exact .tail _ (.head _) | exact .tail _ (.tail _ (.head _)) | exact .tail _ (.tail _ (.tail _ (.head _))) | exact .tail _ (.tail _ (.tail _ (.tail _ (.head _)))) | exact .tail _ (.tail _ (.tail _ (.tail _ (.tail _ (.head _))))) | exact .tail _ (.tail _ (.tail _ (.tail _ (.tail _ (.tail _ (.head _)))))) | exact .tail _ (.tail _ (.tail _ (.tail _ (.tail _ (.tail _ (.tail _ (.head _)))))))) rfl (by first | exact Tryd.underlying3 | exact Tryd.underlying4 | exact Tryd.underlying9 | exact Tryd.underlying28 | exact Tryd.underlying35) rfl ?_; simp only [Act.put, List.setIfInBounds_toArray, List.set_cons_zero, List.set_cons_succ]) | ((with_reducible refine wl_id ?_); refine m_store HM.out rfl rfl rfl 4 rfl rfl rfl rfl (Nat.le_of_ble_eq_true rfl) (by kernel_rfl) ?_; intro wx hM; simp only [Act.put, List.setIfInBounds_toArray, List.set_cons_zero, List.set_cons_succ]; simp only [List.set_cons_succ, List.set_cons_zero] at hM; clear HM; have HM := hid hM; clear hM))
    refine wp_region_lit ?_
    have HE := hid (show atCol (atRow q (max q.top (q.cur.row - N))) 0 = toS s 70 N K by rw [HTS.out]; try (exact congrArg (fun x => atCol x 0) (Scr.row_eq (by unfold upR; rw [if_pos HC.out]))))
    ((with_reducible refine wl_id ?_); refine m_loadS HM.out rfl rfl rfl (by first | exact .head _ | exact .tail _ (.head _) | exact .tail _ (.tail _ (.head _)) | exact .tail _ (.tail _ (.tail _ (.head _))) | exact .tail _ (.tail _ (.tail _ (.tail _ (.head _)))) | exact .tail _ (.tail _ (.tail _ (.tail _ (.tail _ (.head _))))) | exact .tail _ (.tail _ (.tail _ (.tail _ (.tail _ (.tail _ (.head _)))))) | exact .tail _ (.tail _ (.tail _ (.tail _ (.tail _ (.tail _ (.tail _ (.head _)))))))) (scrL (atCol (atRow q (max q.top (q.cur.row - N))) 0) (sl gm s.ms.length cm) (sl go s.os.length co) (sl gt s.tabs.length ct)) rfl Tryd.underlying37 rfl (by kernel_rfl) ?_; simp only [Act.put, List.setIfInBounds_toArray, List.set_cons_zero, List.set_cons_succ])
    ((with_reducible refine wl_id ?_); refine m_storeA HM.out rfl rfl rfl 3 rfl rfl rfl (by kernel_rfl) rfl ?_; intro wx hM; simp only [Act.put, List.setIfInBounds_toArray, List.set_cons_zero, List.set_cons_succ]; simp only [List.set_cons_succ, List.set_cons_zero] at hM; clear HM; have HM := hid hM; clear hM)
    go_wp2
    have hO' : OwnScr _ w.heap.size (toS s 70 N K) (sl gm s.ms.length cm) (sl go s.os.length co) (sl gt s.tabs.length ct) := (HM.out.scr (s := s)).as (toS_keeps s 70 N K).1 (toS_keeps s 70 N K).2.1 (toS_keeps s 70 N K).2.2.1
    exact bodyPost_ret (m_results1 HM.out Tryd.results40 _ rfl (.tail _ (.tail _ (.tail _ (.head _)))) (scrL (atCol (atRow q (max q.top (q.cur.row - N))) 0) (sl gm s.ms.length cm) (sl go s.os.length co) (sl gt s.tabs.length ct)) rfl Tryd.underlying37 rfl (by kernel_rfl)) rfl ⟨_, _, _, by rw [← HE.out], hO', HM.out.below⟩
  · have HC := hid hc
    have hc2 := Int.not_le.1 hc
    go_upto_region 10 with (first | ((with_reducible refine wl_id ?_); refine m_load HM.out rfl rfl rfl (by first | exact .head _ | exact .tail _ (.head _) | exact .tail _ (.tail _ (.head _)) | exact .tail _ (.tail _ (.tail _ (.head _))) | exact .tail _ (.tail _ (.tail _ (.tail _ (.head _)))) | exact .tail _ (.tail _ (.tail _ (.tail _ (.tail _ (.head _))))) | exact .tail _ (.tail _ (.tail _ (.tail _ (.tail _ (.tail _ (.head _)))))) | exact .tail _ (.tail _ (.tail _ (.tail _ (.tail _ (.tail _ (.tail _ (.head _)))))))) rfl (by first | exact Tryd.underlying3 | exact Tryd.underlying4 | exact Tryd.underlying9 | exact Tryd.underlying28 | exact Tryd.underlying35) rfl ?_; simp only [Act.put, List.setIfInBounds_toArray, List.set_cons_zero, List.set_cons_succ]) | ((with_reducible refine wl_id ?_); refine m_store HM.out rfl rfl rfl 4 rfl rfl rfl rfl (Nat.le_of_ble_eq_true rfl) (by kernel_rfl) ?_; intro wx hM; simp only [Act.put, List.setIfInBounds_toArray, List.set_cons_zero, List.set_cons_succ]; simp only [List.set_cons_succ, List.set_cons_zero] at hM; clear HM; have HM := hid hM; clear hM))
    (refine m_quiet HM.out (by kernel_rfl) (by kernel_rfl) (fun hne => ?_); (repeat (first | (go_big_quiet_want; refine mq_load rfl rfl (by first | exact .head _ | exact .tail _ (.head _) | exact .tail _ (.tail _ (.head _)) | exact .tail _ (.tail _ (.tail _ (.head _))) | exact .tail _ (.tail _ (.tail _ (.tail _ (.head _)))) | exact .tail _ (.tail _ (.tail _ (.tail _ (.tail _ (.head _))))) | exact .tail _ (.tail _ (.tail _ (.tail _ (.tail _ (.tail _ (.head _)))))) | exact .tail _ (.tail _ (.tail _ (.tail _ (.tail _ (.tail _ (.tail _ (.head _)))))))) rfl (by first | exact Tryd.underlying3 | exact Tryd.underlying4 | exact Tryd.underlying9 | exact Tryd.underlying28 | exact Tryd.underlying35) rfl ?_; simp only [Act.put, List.setIfInBounds_toArray, List.set_cons_zero, List.set_cons_succ]; go_big_quiet_on) | go_big_quiet_step (fail))); refine wpQuiet_nil ?_; intro wq hM; clear HM hne; have HM := hid hM; clear hM)
    go_upto_region 38 with (first | ((with_reducible refine wl_id ?_); refine m_load HM.out rfl rfl rfl (by first | exact .head _ | exact .tail _ (.head _) | exact .tail _ (.tail _ (.head _)) | exact .tail _ (.tail _ (.tail _ (.head _))) | exact .tail _ (.tail _ (.tail _ (.tail _ (.head _)))) | exact .tail _ (.tail _ (.tail _ (.tail _ (.tail _ (.head _))))) | exact .tail _ (.tail _ (.tail _ (.tail _ (.tail _ (.tail _ (.head _)))))) | exact .tail _ (.tail _ (.tail _ (.tail _ (.tail _ (.tail _ (.tail _ (.head _)))))))) rfl (by first | exact Tryd.underlying3 | exact Tryd.underlying4 | exact Tryd.underlying9 | exact Tryd.underlying28 | exact Tryd.underlying35) rfl ?_; simp only [Act.put, List.setIfInBounds_toArray, List.set_cons_zero, List.set_cons_succ]) | ((with_reducible refine wl_id ?_); refine m_store HM.out rfl rfl rfl 4 rfl rfl rfl rfl (Nat.le_of_ble_eq_true rfl) (by kernel_rfl) ?_; intro wx hM; simp only [Act.put, List.setIfInBounds_toArray, List.set_cons_zero, List.set_cons_succ]; simp only [List.set_cons_succ, List.set_cons_zero] at hM; clear HM; have HM := hid hM; clear hM))
    refine wp_region_lit ?_
    have HE := hid (show atCol (atRow q (max 0 (q.cur.row - N))) 0 = toS s 70 N K by rw [HTS.out]; try (exact congrArg (fun x => atCol x 0) (Scr.row_eq (by unfold upR; rw [if_neg HC.out]))))
    ((with_reducible refine wl_id ?_); refine m_loadS HM.out rfl rfl rfl (by first | exact .head _ | exact .tail _ (.head _) | exact .tail _ (.tail _ (.head _)) | exact .tail _ (.tail _ (.tail _ (.head _))) | exact .tail _ (.tail _ (.tail _ (.tail _ (.head _)))) | exact .tail _ (.tail _ (.tail _ (.tail _ (.tail _ (.head _))))) | exact .tail _ (.tail _ (.tail _ (.tail _ (.tail _ (.tail _ (.head _)))))) | exact .tail _ (.tail _ (.tail _ (.tail _ (.tail _ (.tail _ (.tail _ (.head _)))))))) (scrL (atCol (atRow q (max 0 (q.cur.row - N))) 0) (sl gm s.ms.length cm) (sl go s.os.length co) (sl gt s.tabs.length ct)) rfl Tryd.underlying37 rfl (by kernel_rfl) ?_; simp only [Act.put, List.setIfInBounds_toArray, List.set_cons_zero, List.set_cons_succ])
    ((with_reducible refine wl_id ?_); refine m_storeA HM.out rfl rfl rfl 3 rfl rfl rfl (by kernel_rfl) rfl ?_; intro wx hM; simp only [Act.put, List.setIfInBounds_toArray, List.set_cons_zero, List.set_cons_succ]; simp only [List.set_cons_succ, List.set_cons_zero] at hM; clear HM; have HM := hid hM; clear hM)
    go_wp2
    have hO' : OwnScr _ w.heap.size (toS s 70 N K) (sl gm s.ms.length cm) (sl go s.os.length co) (sl gt s.tabs.length ct) := (HM.out.scr (s := s)).as (toS_keeps s 70 N K).1 (toS_keeps s 70 N K).2.1 (toS_keeps s 70 N K).2.2.1
    exact bodyPost_ret (m_results1 HM.out Tryd.results40 _ rfl (.tail _ (.tail _ (.tail _ (.head _)))) (scrL (atCol (atRow q (max 0 (q.cur.row - N))) 0) (sl gm s.ms.length cm) (sl go s.os.length co) (sl gt s.tabs.length ct)) rfl Tryd.underlying37 rfl (by kernel_rfl)) rfl ⟨_, _, _, by rw [← HE.out], hO', HM.out.below⟩
set_option maxRecDepth 100000 in
set_option maxHeartbeats 4000000 in
theorem rmove_71 {s : Scr} {m o t : Value} {n k : Int} {w : World} (hr : RdScr w s m o t) (hs : scrB s = true) (hnb : -1 ≤ n ∧ n ≤ 9999) (hkb : -1 ≤ k ∧ k ≤ 9999) :
    Calls Tryd.prog 40 #[.agg (scrL s m o t).toArray, .int .i64 71, .int .i64 n, .int .i64 k] w fun e w' => ∃ m' o' t', e = .returned (.agg (scrL (toS s 71 (max 1 n) (max 1 k)) m' o' t').toArray) ∧ OwnScr w' w.heap.size (toS s 71 (max 1 n) (max 1 k)) m' o' t' ∧ Below w.heap.size w w' := by
  have HFA := hid (scrB_facts hs)
  have HO := hid (fun W (hW : Below w.heap.size w W) => copyS_l (hr.below hW))
  have HX := hid (Mem.start w)
  obtain ⟨N, hN⟩ : ∃ N, max 1 n = N := ⟨_, rfl⟩
  obtain ⟨K, hK⟩ : ∃ K, max 1 k = K := ⟨_, rfl⟩
  have hNb : 1 ≤ N ∧ N ≤ 9999 := by omega
  have hKb : 1 ≤ K ∧ K ≤ 9999 := by omega
  rw [hN, hK]
  clear hs hr
  go_enter Tryd.func40, Tryd.ntmps40
  go_upto_region 0 with (fail)
  refine wp_region_lit ?_
  refine m_box HX.out rfl rfl rfl ?_
  intro b w1 hM1
  simp only [Act.put, List.setIfInBounds_toArray, List.set_cons_zero, List.set_cons_succ]
  refine m_alloc hM1 rfl rfl info_zS ?_
  intro b' w2 hM
  simp only [Act.put, List.setIfInBounds_toArray, List.set_cons_zero, List.set_cons_succ]
  clear hM1
  have HM := hid (show Mem w w2 [(b', Row 37 zL), (b, Row 37 (scrL s m o t))] from hM)
  clear hM
  go_wp2_with (first | ((with_reducible refine wl_id ?_); refine m_loadS HM.out rfl rfl rfl (by first | exact .head _ | exact .tail _ (.head _) | exact .tail _ (.tail _ (.head _)) | exact .tail _ (.tail _ (.tail _ (.head _))) | exact .tail _ (.tail _ (.tail _ (.tail _ (.head _)))) | exact .tail _ (.tail _ (.tail _ (.tail _ (.tail _ (.head _))))) | exact .tail _ (.tail _ (.tail _ (.tail _ (.tail _ (.tail _ (.head _)))))) | exact .tail _ (.tail _ (.tail _ (.tail _ (.tail _ (.tail _ (.tail _ (.head _)))))))) (scrL s m o t) rfl Tryd.underlying37 rfl (by kernel_rfl) ?_; simp only [Act.put, List.setIfInBounds_toArray, List.set_cons_zero, List.set_cons_succ]) | (go_at_call 30; fail))
  refine (HO.out _ HM.out.below).mono ?_
  rintro e w3 ⟨m', o', t', rfl, hO, hB⟩
  obtain ⟨gm, cm, go, co, gt, ct, rfl, rfl, rfl, hM⟩ := HM.out.addScr hB hO HFA.out.2.1
  clear HM hO hB HO HX
  have HM := hid hM
  clear hM
  go_upto_region 4 with (first | ((with_reducible refine wl_id ?_); refine m_storeA HM.out rfl rfl rfl 4 rfl rfl rfl (by kernel_rfl) rfl ?_; intro wx hM; simp only [Act.put, List.setIfInBounds_toArray, List.set_cons_zero, List.set_cons_succ]; simp only [List.set_cons_succ, List.set_cons_zero] at hM; clear HM; have HM := hid hM; clear hM))
  go_upto_region 5 with (first | ((with_reducible refine wl_id ?_); refine m_store HM.out rfl rfl rfl 4 rfl rfl rfl rfl (Nat.le_of_ble_eq_true rfl) (by kernel_rfl) ?_; intro wx hM; simp only [Act.put, List.setIfInBounds_toArray, List.set_cons_zero, List.set_cons_succ]; simp only [List.set_cons_succ, List.set_cons_zero] at hM; clear HM; have HM := hid hM; clear hM))
  obtain ⟨q, hq⟩ : ∃ q, noWrap s = q := ⟨_, rfl⟩
  have hbq : Bd q := hq ▸ HFA.out.1.noWrap
  have htq : q.tabs = s.tabs := by rw [← hq]; rfl
  have HTQ := hid htq
  have hlq : (s.tabs.length : Int) = q.mc := by rw [← hq]; exact HFA.out.2.2.1
  have HLQ := hid hlq
  have HTS := hid (show toS s 71 N K = atCol q (min q.mc N - 1) by rw [← hq]; rfl)
  have hK1 : q.ms = s.ms ∧ q.os = s.os := by rw [← hq]; exact ⟨rfl, rfl⟩
  have HKP := hid hK1
  have h0 : Mem w _ [(gm, entC s.ms cm), (go, entC s.os co), (gt, entB s.tabs ct), (b', Row 37 zL), (b, Row 37 (scrL (noWrap s) (sl gm s.ms.length cm) (sl go s.os.length co) (sl gt s.tabs.length ct)))] := HM.out
  rw [hq] at h0
  have HM2 := hid h0
  clear h0
  clear HM hq htq hlq hK1
  have HM := HM2
  clear HM2
  have hrr := hbq.row
  have hcc := hbq.col
  have ht := hbq.top
  have hqb := hbq.bot
  have hmr := hbq.mr
  have hmc := hbq.mc
  clear hbq
  (refine m_quiet HM.out (by kernel_rfl) (by kernel_rfl) (fun hne => ?_); (repeat (first | (go_big_quiet_want; refine mq_load rfl rfl (by first | exact .head _ | exact .tail _ (.head _) | exact .tail _ (.tail _ (.head _)) | exact .tail _ (.tail _ (.tail _ (.head _))) | exact .tail _ (.tail _ (.tail _ (.tail _ (.head _)))) | exact .tail _ (.tail _ (.tail _ (.tail _ (.tail _ (.head _))))) | exact .tail _ (.tail _ (.tail _ (.tail _ (.tail _ (.tail _ (.head _)))))) | exact .tail _ (.tail _ (.tail _ (.tail _ (.tail _ (.tail _ (.tail _ (.head _)))))))) rfl (by first | exact Tryd.underlying3 | exact Tryd.underlying4 | exact Tryd.underlying9 | exact Tryd.underlying28 | exact Tryd.underlying35) rfl ?_; simp only [Act.put, List.setIfInBounds_toArray, List.set_cons_zero, List.set_cons_succ]; go_big_quiet_on) | go_big_quiet_step (fail))); refine wpQuiet_nil ?_; intro wq hM; clear HM hne; have HM := hid hM; clear hM)
  go_upto_region 38 with (first | ((with_reducible refine wl_id ?_); refine m_load HM.out rfl rfl rfl (by first | exact .head _ | exact .tail _ (.head _) | exact .tail _ (.tail _ (.head _)) | exact .tail _ (.tail _ (.tail _ (.head _))) | exact .tail _ (.tail _ (.tail _ (.tail _ (.head _)))) | exact .tail _ (.tail _ (.tail _ (.tail _ (.tail _ (.head _))))) | exact .tail _ (.tail _ (.tail _ (.tail _ (.tail _ (.tail _ (.head _)))))) | exact .tail _ (.tail _ (.tail _ (.tail _ (.tail _ (.tail _ (.tail _ (.head _)))))))) rfl (by first | exact Tryd.underlying3 | exact Tryd.underlying4 | exact Tryd.underlying9 | exact Tryd.underlying28 | exact Tryd.underlying35) rfl ?_; simp only [Act.put, List.setIfInBounds_toArray, List.set_cons_zero, List.set_cons_succ]) | ((with_reducible refine wl_id ?_); refine m_store HM.out rfl rfl rfl 4 rfl rfl rfl rfl (Nat.le_of_ble_eq_true rfl) (by kernel_rfl) ?_; intro wx hM; simp only [Act.put, List.setIfInBounds_toArray, List.set_cons_zero, List.set_cons_succ]; simp only [List.set_cons_succ, List.set_cons_zero] at hM; clear HM; have HM := hid hM; clear hM))
  refine wp_region_lit ?_
  have HE := hid (show atCol q (min (q.mc - 1) (N - 1)) = toS s 71 N K by rw [HTS.out]; try (exact Scr.col_eq (by omega)))
  ((with_reducible refine wl_id ?_); refine m_loadS HM.out rfl rfl rfl (by first | exact .head _ | exact .tail _ (.head _) | exact .tail _ (.tail _ (.head _)) | exact .tail _ (.tail _ (.tail _ (.head _))) | exact .tail _ (.tail _ (.tail _ (.tail _ (.head _)))) | exact .tail _ (.tail _ (.tail _ (.tail _ (.tail _ (.head _))))) | exact .tail _ (.tail _ (.tail _ (.tail _ (.tail _ (.tail _ (.head _)))))) | exact .tail _ (.tail _ (.tail _ (.tail _ (.tail _ (.tail _ (.tail _ (.head _)))))))) (scrL (atCol q (min (q.mc - 1) (N - 1))) (sl gm s.ms.length cm) (sl go s.os.length co) (sl gt s.tabs.length ct)) rfl Tryd.underlying37 rfl (by kernel_rfl) ?_; simp only [Act.put, List.setIfInBounds_toArray, List.set_cons_zero, List.set_cons_succ])
  ((with_reducible refine wl_id ?_); refine m_storeA HM.out rfl rfl rfl 3 rfl rfl rfl (by kernel_rfl) rfl ?_; intro wx hM; simp only [Act.put, List.setIfInBounds_toArray, List.set_cons_zero, List.set_cons_succ]; simp only [List.set_cons_succ, List.set_cons_zero] at hM; clear HM; have HM := hid hM; clear hM)
  go_wp2
  have hO' : OwnScr _ w.heap.size (toS s 71 N K) (sl gm s.ms.length cm) (sl go s.os.length co) (sl gt s.tabs.length ct) := (HM.out.scr (s := s)).as (toS_keeps s 71 N K).1 (toS_keeps s 71 N K).2.1 (toS_keeps s 71 N K).2.2.1
  exact bodyPost_ret (m_results1 HM.out Tryd.results40 _ rfl (.tail _ (.tail _ (.tail _ (.head _)))) (scrL (atCol q (min (q.mc - 1) (N - 1))) (sl gm s.ms.length cm) (sl go s.os.length co) (sl gt s.tabs.length ct)) rfl Tryd.underlying37 rfl (by kernel_rfl)) rfl ⟨_, _, _, by rw [← HE.out], hO', HM.out.below⟩
set_option maxRecDepth 100000 in
set_option maxHeartbeats 4000000 in
theorem rmove_100 {s : Scr} {m o t : Value} {n k : Int} {w : World} (hr : RdScr w s m o t) (hs : scrB s = true) (hnb : -1 ≤ n ∧ n ≤ 9999) (hkb : -1 ≤ k ∧ k ≤ 9999) :
    Calls Tryd.prog 40 #[.agg (scrL s m o t).toArray, .int .i64 100, .int .i64 n, .int .i64 k] w fun e w' => ∃ m' o' t', e = .returned (.agg (scrL (toS s 100 (max 1 n) (max 1 k)) m' o' t').toArray) ∧ OwnScr w' w.heap.size (toS s 100 (max 1 n) (max 1 k)) m' o' t' ∧ Below w.heap.size w w' := by
  have HFA := hid (scrB_facts hs)
  have HO := hid (fun W (hW : Below w.heap.size w W) => copyS_l (hr.below hW))
  have HX := hid (Mem.start w)
  obtain ⟨N, hN⟩ : ∃ N, max 1 n = N := ⟨_, rfl⟩
  obtain ⟨K, hK⟩ : ∃ K, max 1 k = K := ⟨_, rfl⟩
  have hNb : 1 ≤ N ∧ N ≤ 9999 := by omega
  have hKb : 1 ≤ K ∧ K ≤ 9999 := by omega
  rw [hN, hK]
  clear hs hr
  go_enter Tryd.func40, Tryd.ntmps40
  go_upto_region 0 with (fail)
  refine wp_region_lit ?_
  refine m_box HX.out rfl rfl rfl ?_
  intro b w1 hM1
  simp only [Act.put, List.setIfInBounds_toArray, List.set_cons_zero, List.set_cons_succ]
  refine m_alloc hM1 rfl rfl info_zS ?_
  intro b' w2 hM
  simp only [Act.put, List.setIfInBounds_toArray, List.set_cons_zero, List.set_cons_succ]
  clear hM1
  have HM := hid (show Mem w w2 [(b', Row 37 zL), (b, Row 37 (scrL s m o t))] from hM)
  clear hM
  go_wp2_with (first | ((with_reducible refine wl_id ?_); refine m_loadS HM.out rfl rfl rfl (by first | exact .head _ | exact .tail _ (.head _) | exact .tail _ (.tail _ (.head _)) | exact .tail _ (.tail _ (.tail _ (.head _))) | exact .tail _ (.tail _ (.tail _ (.tail _ (.head _)))) | exact .tail _ (.tail _ (.tail _ (.tail _ (.tail _ (.head _))))) | exact .tail _ (.tail _ (.tail _ (.tail _ (.tail _ (.tail _ (.head _)))))) | exact .tail _ (.tail _ (.tail _ (.tail _ (.tail _ (.tail _ (.tail _ (.head _)))))))) (scrL s m o t) rfl Tryd.underlying37 rfl (by kernel_rfl) ?_; simp only [Act.put, List.setIfInBounds_toArray, List.set_cons_zero, List.set_cons_succ]) | (go_at_call 30; fail))
  refine (HO.out _ HM.out.below).mono ?_
  rintro e w3 ⟨m', o', t', rfl, hO, hB⟩
  obtain ⟨gm, cm, go, co, gt, ct, rfl, rfl, rfl, hM⟩ := HM.out.addScr hB hO HFA.out.2.1
  clear HM hO hB HO HX
  have HM := hid hM
  clear hM
  go_upto_region 4 with (first | ((with_reducible refine wl_id ?_); refine m_storeA HM.out rfl rfl rfl 4 rfl rfl rfl (by kernel_rfl) rfl ?_; intro wx hM; simp only [Act.put, List.setIfInBounds_toArray, List.set_cons_zero, List.set_cons_succ]; simp only [List.set_cons_succ, List.set_cons_zero] at hM; clear HM; have HM := hid hM; clear hM))
  go_upto_region 5 with (first | ((with_reducible refine wl_id ?_); refine m_store HM.out rfl rfl rfl 4 rfl rfl rfl rfl (Nat.le_of_ble_eq_true rfl) (by kernel_rfl) ?_; intro wx hM; simp only [Act.put, List.setIfInBounds_toArray, List.set_cons_zero, List.set_cons_succ]; simp only [List.set_cons_succ, List.set_cons_zero] at hM; clear HM; have HM := hid hM; clear hM))
  obtain ⟨q, hq⟩ : ∃ q, noWrap s = q := ⟨_, rfl⟩
  have hbq : Bd q := hq ▸ HFA.out.1.noWrap
  have htq : q.tabs = s.tabs := by rw [← hq]; rfl
  have HTQ := hid htq
  have hlq : (s.tabs.length : Int) = q.mc := by rw [← hq]; exact HFA.out.2.2.1
  have HLQ := hid hlq
  have HTS := hid (show toS s 100 N K = atRow q (lineR q N) by rw [← hq]; rfl)
  have hK1 : q.ms = s.ms ∧ q.os = s.os := by rw [← hq]; exact ⟨rfl, rfl⟩
  have HKP := hid hK1
  have h0 : Mem w _ [(gm, entC s.ms cm), (go, entC s.os co), (gt, entB s.tabs ct), (b', Row 37 zL), (b, Row 37 (scrL (noWrap s) (sl gm s.ms.length cm) (sl go s.os.length co) (sl gt s.tabs.length ct)))] := HM.out
  rw [hq] at h0
  have HM2 := hid h0
  clear h0
  clear HM hq htq hlq hK1
  have HM := HM2
  clear HM2
  have hrr := hbq.row
  have hcc := hbq.col
  have ht := hbq.top
  have hqb := hbq.bot
  have hmr := hbq.mr
  have hmc := hbq.mc
  clear hbq
  (refine m_quiet HM.out (by kernel_rfl) (by kernel_rfl) (fun hne => ?_); (repeat (first | (go_big_quiet_want; refine mq_load rfl rfl (by first | exact .head _ | exact .tail _ (.head _) | exact .tail _ (.tail _ (.head _)) | exact .tail _ (.tail _ (.tail _ (.head _))) | exact .tail _ (.tail _ (.tail _ (.tail _ (.head _)))) | exact .tail _ (.tail _ (.tail _ (.tail _ (.tail _ (.head _))))) | exact .tail _ (.tail _ (.tail _ (.tail _ (.tail _ (.tail _ (.head _)))))) | exact .tail _ (.tail _ (.tail _ (.tail _ (.tail _ (.tail _ (.tail _ (.head _)))))))) rfl (by first | exact Tryd.underlying3 | exact Tryd.underlying4 | exact Tryd.underlying9 | exact Tryd.underlying28 | exact Tryd.underlying35) rfl ?_; simp only [Act.put, List.setIfInBounds_toArray, List.set_cons_zero, List.set_cons_succ]; go_big_quiet_on) | go_big_quiet_step (fail))); refine wpQuiet_nil ?_; intro wq hM; clear HM hne; have HM := hid hM; clear hM)
  by_cases hc : q.cur.org = true
  · have HC := hid hc
    have hog : q.cur.org = true := by exact hc
    have HOG : Hid ((scrL q (sl gm s.ms.length cm) (sl go s.os.length co) (sl gt s.tabs.length ct))[16]? = some (.bool true)) := hid (congrArg (fun x => some (Value.bool x)) hog)
    clear hog
    clear hc
    have e1 : IntKind.i64.wrap (q.top + N) = q.top + N := IntWalk.i64_in _ (by omega)
    go_upto_region 32 with (first | ((with_reducible refine wl_id ?_); refine m_load HM.out rfl rfl rfl (by first | exact .head _ | exact .tail _ (.head _) | exact .tail _ (.tail _ (.head _)) | exact .tail _ (.tail _ (.tail _ (.head _))) | exact .tail _ (.tail _ (.tail _ (.tail _ (.head _)))) | exact .tail _ (.tail _ (.tail _ (.tail _ (.tail _ (.head _))))) | exact .tail _ (.tail _ (.tail _ (.tail _ (.tail _ (.tail _ (.head _)))))) | exact .tail _ (.tail _ (.tail _ (.tail _ (.tail _ (.tail _ (.tail _ (.head _)))))))) HOG.out (by first | exact Tryd.underlying3 | exact Tryd.underlying4 | exact Tryd.underlying9 | exact Tryd.underlying28 | exact Tryd.underlying35) rfl ?_; simp only [Act.put, List.setIfInBounds_toArray, List.set_cons_zero, List.set_cons_succ]) | ((with_reducible refine wl_id ?_); refine m_load HM.out rfl rfl rfl (by first | exact .head _ | exact .tail _ (.head _) | exact .tail _ (.tail _ (.head _)) | exact .tail _ (.tail _ (.tail _ (.head _))) | exact .tail _ (.tail _ (.tail _ (.tail _ (.head _)))) | exact .tail _ (.tail _ (.tail _ (.tail _ (.tail _ (.head _))))) | exact .tail _ (.tail _ (.tail _ (.tail _ (.tail _ (.tail _ (.head _)))))) | exact .tail _ (.tail _ (.tail _ (.tail _ (.tail _ (.tail _ (.tail _ (.head _)))))))) rfl (by first | exact Tryd.underlying3 | exact Tryd.underlying4 | exact Tryd.underlying9 | exact Tryd.underlying28 | exact Tryd.underlying35) rfl ?_; simp only [Act.put, List.setIfInBounds_toArray, List.set_cons_zero, List.set_cons_succ]) | ((with_reducible refine wl_id ?_); refine m_store HM.out rfl rfl rfl 4 rfl rfl rfl rfl (Nat.le_of_ble_eq_true rfl) (by kernel_rfl) ?_; intro wx hM; simp only [Act.put, List.setIfInBounds_toArray, List.set_cons_zero, List.set_cons_succ]; simp only [List.set_cons_succ, List.set_cons_zero] at hM; clear HM; have HM := hid hM; clear hM))
    (refine m_quiet HM.out (by kernel_rfl) (by kernel_rfl) (fun hne => ?_); (repeat (first | (go_big_quiet_want; refine mq_load rfl rfl (by first | exact .head _ | exact .tail _ (.head _) | exact .tail _ (.tail _ (.head _)) | exact .tail _ (.tail _ (.tail _ (.head _))) | exact .tail _ (.tail _ (.tail _ (.tail _ (.head _)))) | exact .tail _ (.tail _ (.tail _ (.tail _ (.tail _ (.head _))))) | exact .tail _ (.tail _ (.tail _ (.tail _ (.tail _ (.tail _ (.head _)))))) | exact .tail _ (.tail _ (.tail _ (.tail _ (.tail _ (.tail _ (.tail _ (.head _)))))))) rfl (by first | exact Tryd.underlying3 | exact Tryd.underlying4 | exact Tryd.underlying9 | exact Tryd.underlying28 | exact Tryd.underlying35) rfl ?_; simp only [Act.put, List.setIfInBounds_toArray, List.set_cons_zero, List.set_cons_succ]; go_big_quiet_on) | go_big_quiet_step (fail))); refine wpQuiet_nil ?_; intro wq hM; clear HM hne; have HM := hid hM; clear hM)
    go_upto_region 38 with (first | ((with_reducible refine wl_id ?_); refine m_load HM.out rfl rfl rfl (by first | exact .head _ | exact .tail _ (.head _) | exact .tail _ (.tail _ (.head _)) | exact .tail _ (.tail _ (.tail _ (.head _))) | exact .tail _ (.tail _ (.tail _ (.tail _ (.head _)))) | exact .tail _ (.tail _ (.tail _ (.tail _ (.tail _ (.head _))))) | exact .tail _ (.tail _ (.tail _ (.tail _ (.tail _ (.tail _ (.head _)))))) | exact .tail _ (.tail _ (.tail _ (.tail _ (.tail _ (.tail _ (.tail _ (.head _)))))))) rfl (by first | exact Tryd.underlying3 | exact Tryd.underlying4 | exact Tryd.underlying9 | exact Tryd.underlying28 | exact Tryd.underlying35) rfl ?_; simp only [Act.put, List.setIfInBounds_toArray, List.set_cons_zero, List.set_cons_succ]) | ((with_reducible refine wl_id ?_); refine m_store HM.out rfl rfl rfl 4 rfl rfl rfl rfl (Nat.le_of_ble_eq_true rfl) (by kernel_rfl) ?_; intro wx hM; simp only [Act.put, List.setIfInBounds_toArray, List.set_cons_zero, List.set_cons_succ]; simp only [List.set_cons_succ, List.set_cons_zero] at hM; clear HM; have HM := hid hM; clear hM))
    refine wp_region_lit ?_
    have HE := hid (show atRow q (min q.bot (q.top + N - 1)) = toS s 100 N K by rw [HTS.out]; try (exact Scr.row_eq (by unfold lineR; rw [if_pos HC.out])))
    ((with_reducible refine wl_id ?_); refine m_loadS HM.out rfl rfl rfl (by first | exact .head _ | exact .tail _ (.head _) | exact .tail _ (.tail _ (.head _)) | exact .tail _ (.tail _ (.tail _ (.head _))) | exact .tail _ (.tail _ (.tail _ (.tail _ (.head _)))) | exact .tail _ (.tail _ (.tail _ (.tail _ (.tail _ (.head _))))) | exact .tail _ (.tail _ (.tail _ (.tail _ (.tail _ (.tail _ (.head _)))))) | exact .tail _ (.tail _ (.tail _ (.tail _ (.tail _ (.tail _ (.tail _ (.head _)))))))) (scrL (atRow q (min q.bot (q.top + N - 1))) (sl gm s.ms.length cm) (sl go s.os.length co) (sl gt s.tabs.length ct)) rfl Tryd.underlying37 rfl (by kernel_rfl) ?_; simp only [Act.put, List.setIfInBounds_toArray, List.set_cons_zero, List.set_cons_succ])
    ((with_reducible refine wl_id ?_); refine m_storeA HM.out rfl rfl rfl 3 rfl rfl rfl (by kernel_rfl) rfl ?_; intro wx hM; simp only [Act.put, List.setIfInBounds_toArray, List.set_cons_zero, List.set_cons_succ]; simp only [List.set_cons_succ, List.set_cons_zero] at hM; clear HM; have HM := hid hM; clear hM)
    go_wp2
    have hO' : OwnScr _ w.heap.size (toS s 100 N K) (sl gm s.ms.length cm) (sl go s.os.length co) (sl gt s.tabs.length ct) := (HM.out.scr (s := s)).as (toS_keeps s 100 N K).1 (toS_keeps s 100 N K).2.1 (toS_keeps s 100 N K).2.2.1
    exact bodyPost_ret (m_results1 HM.out Tryd.results40 _ rfl (.tail _ (.tail _ (.tail _ (.head _)))) (scrL (atRow q (min q.bot (q.top + N - 1))) (sl gm s.ms.length cm) (sl go s.os.length co) (sl gt s.tabs.length ct)) rfl Tryd.underlying37 rfl (by kernel_rfl)) rfl ⟨_, _, _, by rw [← HE.out], hO', HM.out.below⟩
  · have HC := hid hc
    have hog : q.cur.org = false := by simpa using hc
    have HOG : Hid ((scrL q (sl gm s.ms.length cm) (sl go s.os.length co) (sl gt s.tabs.length ct))[16]? = some (.bool false)) := hid (congrArg (fun x => some (Value.bool x)) hog)
    clear hog
    clear hc
    go_upto_region 33 with (first | ((with_reducible refine wl_id ?_); refine m_load HM.out rfl rfl rfl (by first | exact .head _ | exact .tail _ (.head _) | exact .tail _ (.tail _ (.head _)) | exact .tail _ (.tail _ (.tail _ (.head _))) | exact .tail _ (.tail _ (.tail _ (.tail _ (.head _)))) | exact .tail _ (.tail _ (.tail _ (.tail _ (.tail _ (.head _))))) | exact .tail _ (.tail _ (.tail _ (.tail _ (.tail _ (.tail _ (.head _)))))) | exact .tail _ (.tail _ (.tail _ (.tail _ (.tail _ (.tail _ (.tail _ (.head _)))))))) HOG.out (by first | exact Tryd.underlying3 | exact Tryd.underlying4 | exact Tryd.underlying9 | exact Tryd.underlying28 | exact Tryd.underlying35) rfl ?_; simp only [Act.put, List.setIfInBounds_toArray, List.set_cons_zero, List.set_cons_succ]) | ((with_reducible refine wl_id ?_); refine m_load HM.out rfl rfl rfl (by first | exact .head _ | exact .tail _ (.head _) | exact .tail _ (.tail _ (.head _)) | exact .tail _ (.tail _ (.tail _ (.head _))) | exact .tail _ (.tail _ (.tail _ (.tail _ (.head _)))) | exact .tail _ (.tail _ (.tail _ (.tail _ (.tail _ (.head _))))) | exact .tail _ (.tail _ (.tail _ (.tail _ (.tail _ (.tail _ (.head _)))))) | exact .tail _ (.tail _ (.tail _ (.tail _ (.tail _ (.tail _ (.tail _ (.head _)))))))) rfl (by first | exact Tryd.underlying3 | exact Tryd.underlying4 | exact Tryd.underlying9 | exact Tryd.underlying28 | exact Tryd.underlying35) rfl ?_; simp only [Act.put, List.setIfInBounds_toArray, List.set_cons_zero, List.set_cons_succ]) | ((with_reducible refine wl_id ?_); refine m_store HM.out rfl rfl rfl 4 rfl rfl rfl rfl (Nat.le_of_ble_eq_true rfl) (by kernel_rfl) ?_; intro wx hM; simp only [Act.put, List.setIfInBounds_toArray, List.set_cons_zero, List.set_cons_succ]; simp only [List.set_cons_succ, List.set_cons_zero] at hM; clear HM; have HM := hid hM; clear hM))
    go_upto_region 38 with (first | ((with_reducible refine wl_id ?_); refine m_load HM.out rfl rfl rfl (by first | exact .head _ | exact .tail _ (.head _) | exact .tail _ (.tail _ (.head _)) | exact .tail _ (.tail _ (.tail _ (.head _))) | exact .tail _ (.tail _ (.tail _ (.tail _ (.head _)))) | exact .tail _ (.tail _ (.tail _ (.tail _ (.tail _ (.head _))))) | exact .tail _ (.tail _ (.tail _ (.tail _ (.tail _ (.tail _ (.head _)))))) | exact .tail _ (.tail _ (.tail _ (.tail _ (.tail _ (.tail _ (.tail _ (.head _)))))))) rfl (by first | exact Tryd.underlying3 | exact Tryd.underlying4 | exact Tryd.underlying9 | exact Tryd.underlying28 | exact Tryd.underlying35) rfl ?_; simp only [Act.put, List.setIfInBounds_toArray, List.set_cons_zero, List.set_cons_succ]) | ((with_reducible refine wl_id ?_); refine m_store HM.out rfl rfl rfl 4 rfl rfl rfl rfl (Nat.le_of_ble_eq_true rfl) (by kernel_rfl) ?_; intro wx hM; simp only [Act.put, List.setIfInBounds_toArray, List.set_cons_zero, List.set_cons_succ]; simp only [List.set_cons_succ, List.set_cons_zero] at hM; clear HM; have HM := hid hM; clear hM))
    refine wp_region_lit ?_
    have HE := hid (show atRow q (min (q.mr - 1) (N - 1)) = toS s 100 N K by rw [HTS.out]; try (exact Scr.row_eq (by unfold lineR; rw [if_neg HC.out]; omega)))
    ((with_reducible refine wl_id ?_); refine m_loadS HM.out rfl rfl rfl (by first | exact .head _ | exact .tail _ (.head _) | exact .tail _ (.tail _ (.head _)) | exact .tail _ (.tail _ (.tail _ (.head _))) | exact .tail _ (.tail _ (.tail _ (.tail _ (.head _)))) | exact .tail _ (.tail _ (.tail _ (.tail _ (.tail _ (.head _))))) | exact .tail _ (.tail _ (.tail _ (.tail _ (.tail _ (.tail _ (.head _)))))) | exact .tail _ (.tail _ (.tail _ (.tail _ (.tail _ (.tail _ (.tail _ (.head _)))))))) (scrL (atRow q (min (q.mr - 1) (N - 1))) (sl gm s.ms.length cm) (sl go s.os.length co) (sl gt s.tabs.length ct)) rfl Tryd.underlying37 rfl (by kernel_rfl) ?_; simp only [Act.put, List.setIfInBounds_toArray, List.set_cons_zero, List.set_cons_succ])
    ((with_reducible refine wl_id ?_); refine m_storeA HM.out rfl rfl rfl 3 rfl rfl rfl (by kernel_rfl) rfl ?_; intro wx hM; simp only [Act.put, List.setIfInBounds_toArray, List.set_cons_zero, List.set_cons_succ]; simp only [List.set_cons_succ, List.set_cons_zero] at hM; clear HM; have HM := hid hM; clear hM)
    go_wp2
    have hO' : OwnScr _ w.heap.size (toS s 100 N K) (sl gm s.ms.length cm) (sl go s.os.length co) (sl gt s.tabs.length ct) := (HM.out.scr (s := s)).as (toS_keeps s 100 N K).1 (toS_keeps s 100 N K).2.1 (toS_keeps s 100 N K).2.2.1
    exact bodyPost_ret (m_results1 HM.out Tryd.results40 _ rfl (.tail _ (.tail _ (.tail _ (.head _)))) (scrL (atRow q (min (q.mr - 1) (N - 1))) (sl gm s.ms.length cm) (sl go s.os.length co) (sl gt s.tabs.length ct)) rfl Tryd.underlying37 rfl (by kernel_rfl)) rfl ⟨_, _, _, by rw [← HE.out], hO', HM.out.below⟩
set_option maxRecDepth 100000 in
set_option maxHeartbeats 4000000 in
theorem rmove_72 {s : Scr} {m o t : Value} {n k : Int} {w : World} (hr : RdScr w s m o t) (hs : scrB s = true) (hnb : -1 ≤ n ∧ n ≤ 9999) (hkb : -1 ≤ k ∧ k ≤ 9999) :
    Calls Tryd.prog 40 #[.agg (scrL s m o t).toArray, .int .i64 72, .int .i64 n, .int .i64 k] w fun e w' => ∃ m' o' t', e = .returned (.agg (scrL (toS s 72 (max 1 n) (max 1 k)) m' o' t').toArray) ∧ OwnScr w' w.heap.size (toS s 72 (max 1 n) (max 1 k)) m' o' t' ∧ Below w.heap.size w w' := by
  have HFA := hid (scrB_facts hs)
  have HO := hid (fun W (hW : Below w.heap.size w W) => copyS_l (hr.below hW))
  have HX := hid (Mem.start w)
  obtain ⟨N, hN⟩ : ∃ N, max 1 n = N := ⟨_, rfl⟩
  obtain ⟨K, hK⟩ : ∃ K, max 1 k = K := ⟨_, rfl⟩
  have hNb : 1 ≤ N ∧ N ≤ 9999 := by omega
  have hKb : 1 ≤ K ∧ K ≤ 9999 := by omega
  rw [hN, hK]
  clear hs hr
  go_enter Tryd.func40, Tryd.ntmps40
  go_upto_region 0 with (fail)
  refine wp_region_lit ?_
  refine m_box HX.out rfl rfl rfl ?_
  intro b w1 hM1
  simp only [Act.put, List.setIfInBounds_toArray, List.set_cons_zero, List.set_cons_succ]
  refine m_alloc hM1 rfl rfl info_zS ?_
  intro b' w2 hM
  simp only [Act.put, List.setIfInBounds_toArray, List.set_cons_zero, List.set_cons_succ]
  clear hM1
  have HM := hid (show Mem w w2 [(b', Row 37 zL), (b, Row 37 (scrL s m o t))] from hM)
  clear hM
  go_wp2_with (first | ((with_reducible refine wl_id ?_); refine m_loadS HM.out rfl rfl rfl (by first | exact .head _ | exact .tail _ (.head _) | exact .tail _ (.tail _ (.head _)) | exact .tail _ (.tail _ (.tail _ (.head _))) | exact .tail _ (.tail _ (.tail _ (.tail _ (.head _)))) | exact .tail _ (.tail _ (.tail _ (.tail _ (.tail _ (.head _))))) | exact .tail _ (.tail _ (.tail _ (.tail _ (.tail _ (.tail _ (.head _)))))) | exact .tail _ (.tail _ (.tail _ (.tail _ (.tail _ (.tail _ (.tail _ (.head _)))))))) (scrL s m o t) rfl Tryd.underlying37 rfl (by kernel_rfl) ?_; simp only [Act.put, List.setIfInBounds_toArray, List.set_cons_zero, List.set_cons_succ]) | (go_at_call 30; fail))
  refine (HO.out _ HM.out.below).mono ?_
  rintro e w3 ⟨m', o', t', rfl, hO, hB⟩
  obtain ⟨gm, cm, go, co, gt, ct, rfl, rfl, rfl, hM⟩ := HM.out.addScr hB hO HFA.out.2.1
  clear HM hO hB HO HX
  have HM := hid hM
  clear hM
  go_upto_region 4 with (first | ((with_reducible refine wl_id ?_); refine m_storeA HM.out rfl rfl rfl 4 rfl rfl rfl (by kernel_rfl) rfl ?_; intro wx hM; simp only [Act.put, List.setIfInBounds_toArray, List.set_cons_zero, List.set_cons_succ]; simp only [List.set_cons_succ, List.set_cons_zero] at hM; clear HM; have HM := hid hM; clear hM))
  go_upto_region 5 with (first | ((with_reducible refine wl_id ?_); refine m_store HM.out rfl rfl rfl 4 rfl rfl rfl rfl (Nat.le_of_ble_eq_true rfl) (by kernel_rfl) ?_; intro wx hM; simp only [Act.put, List.setIfInBounds_toArray, List.set_cons_zero, List.set_cons_succ]; simp only [List.set_cons_succ, List.set_cons_zero] at hM; clear HM; have HM := hid hM; clear hM))
  obtain ⟨q, hq⟩ : ∃ q, noWrap s = q := ⟨_, rfl⟩
  have hbq : Bd q := hq ▸ HFA.out.1.noWrap
  have htq : q.tabs = s.tabs := by rw [← hq]; rfl
  have HTQ := hid htq
  have hlq : (s.tabs.length : Int) = q.mc := by rw [← hq]; exact HFA.out.2.2.1
  have HLQ := hid hlq
  have HTS := hid (show toS s 72 N K = atCol (atRow q (lineR q N)) (min q.mc K - 1) by rw [← hq]; rfl)
  have hK1 : q.ms = s.ms ∧ q.os = s.os := by rw [← hq]; exact ⟨rfl, rfl⟩
  have HKP := hid hK1
  have h0 : Mem w _ [(gm, entC s.ms cm), (go, entC s.os co), (gt, entB s.tabs ct), (b', Row 37 zL), (b, Row 37 (scrL (noWrap s) (sl gm s.ms.length cm) (sl go s.os.length co) (sl gt s.tabs.length ct)))] := HM.out
  rw [hq] at h0
  have HM2 := hid h0
  clear h0
  clear HM hq htq hlq hK1
  have HM := HM2
  clear HM2
  have hrr := hbq.row
  have hcc := hbq.col
  have ht := hbq.top
  have hqb := hbq.bot
  have hmr := hbq.mr
  have hmc := hbq.mc
  clear hbq
  (refine m_quiet HM.out (by kernel_rfl) (by kernel_rfl) (fun hne => ?_); (repeat (first | (go_big_quiet_want; refine mq_load rfl rfl (by first | exact .head _ | exact .tail _ (.head _) | exact .tail _ (.tail _ (.head _)) | exact .tail _ (.tail _ (.tail _ (.head _))) | exact .tail _ (.tail _ (.tail _ (.tail _ (.head _)))) | exact .tail _ (.tail _ (.tail _ (.tail _ (.tail _ (.head _))))) | exact .tail _ (.tail _ (.tail _ (.tail _ (.tail _ (.tail _ (.head _)))))) | exact .tail _ (.tail _ (.tail _ (.tail _ (.tail _ (.tail _ (.tail _ (.head _)))))))) rfl (by first | exact Tryd.underlying3 | exact Tryd.underlying4 | exact Tryd.underlying9 | exact Tryd.underlying28 | exact Tryd.underlying35) rfl ?_; simp only [Act.put, List.setIfInBounds_toArray, List.set_cons_zero, List.set_cons_succ]; go_big_quiet_on) | go_big_quiet_step (fail))); refine wpQuiet_nil ?_; intro wq hM; clear HM hne; have HM := hid hM; clear hM)
  by_cases hc : q.cur.org = true
  · have HC := hid hc
    have hog : q.cur.org = true := by exact hc
    have HOG : Hid ((scrL q (sl gm s.ms.length cm) (sl go s.os.length co) (sl gt s.tabs.length ct))[16]? = some (.bool true)) := hid (congrArg (fun x => some (Value.bool x)) hog)
    clear hog
    clear hc
    have e1 : IntKind.i64.wrap (q.top + N) = q.top + N := IntWalk.i64_in _ (by omega)
    go_upto_region 32 with (first | ((with_reducible refine wl_id ?_); refine m_load HM.out rfl rfl rfl (by first | exact .head _ | exact .tail _ (.head _) | exact .tail _ (.tail _ (.head _)) | exact .tail _ (.tail _ (.tail _ (.head _))) | exact .tail _ (.tail _ (.tail _ (.tail _ (.head _)))) | exact .tail _ (.tail _ (.tail _ (.tail _ (.tail _ (.head _))))) | exact .tail _ (.tail _ (.tail _ (.tail _ (.tail _ (.tail _ (.head _)))))) | exact .tail _ (.tail _ (.tail _ (.tail _ (.tail _ (.tail _ (.tail _ (.head _)))))))) HOG.out (by first | exact Tryd.underlying3 | exact Tryd.underlying4 | exact Tryd.underlying9 | exact Tryd.underlying28 | exact Tryd.underlying35) rfl ?_; simp only [Act.put, List.setIfInBounds_toArray, List.set_cons_zero, List.set_cons_succ]) | ((with_reducible refine wl_id ?_); refine m_load HM.out rfl rfl rfl (by first | exact .head _ | exact .tail _ (.head _) | exact .tail _ (.tail _ (.head _)) | exact .tail _ (.tail _ (.tail _ (.head _))) | exact .tail _ (.tail _ (.tail _ (.tail _ (.head _)))) | exact .tail _ (.tail _ (.tail _ (.tail _ (.tail _ (.head _))))) | exact .tail _ (.tail _ (.tail _ (.tail _ (.tail _ (.tail _ (.head _)))))) | exact .tail _ (.tail _ (.tail _ (.tail _ (.tail _ (.tail _ (.tail _ (.head _)))))))) rfl (by first | exact Tryd.underlying3 | exact Tryd.underlying4 | exact Tryd.underlying9 | exact Tryd.underlying28 | exact Tryd.underlying35) rfl ?_; simp only [Act.put, List.setIfInBounds_toArray, List.set_cons_zero, List.set_cons_succ]) | ((with_reducible refine wl_id ?_); refine m_store HM.out rfl rfl rfl 4 rfl rfl rfl rfl (Nat.le_of_ble_eq_true rfl) (by kernel_rfl) ?_; intro wx hM; simp only [Act.put, List.setIfInBounds_toArray, List.set_cons_zero, List.set_cons_succ]; simp only [List.set_cons_succ, List.set_cons_zero] at hM; clear HM; have HM := hid hM; clear hM))
    (refine m_quiet HM.out (by kernel_rfl) (by kernel_rfl) (fun hne => ?_); (repeat (first | (go_big_quiet_want; refine mq_load rfl rfl (by first | exact .head _ | exact .tail _ (.head _) | exact .tail _ (.tail _ (.head _)) | exact .tail _ (.tail _ (.tail _ (.head _))) | exact .tail _ (.tail _ (.tail _ (.tail _ (.head _)))) | exact .tail _ (.tail _ (.tail _ (.tail _ (.tail _ (.head _))))) | exact .tail _ (.tail _ (.tail _ (.tail _ (.tail _ (.tail _ (.head _)))))) | exact .tail _ (.tail _ (.tail _ (.tail _ (.tail _ (.tail _ (.tail _ (.head _)))))))) rfl (by first | exact Tryd.underlying3 | exact Tryd.underlying4 | exact Tryd.underlying9 | exact Tryd.underlying28 | exact Tryd.underlying35) rfl ?_; simp only [Act.put, List.setIfInBounds_toArray, List.set_cons_zero, List.set_cons_succ]; go_big_quiet_on) | go_big_quiet_step (fail))); refine wpQuiet_nil ?_; intro wq hM; clear HM hne; have HM := hid hM; clear hM)
    go_upto_region 38 with (first | ((with_reducible refine wl_id ?_); refine m_load HM.out rfl rfl rfl (by first | exact .head _ | exact .tail _ (.head _) | exact .tail _ (.tail _ (.head _)) | exact .tail _ (.tail _ (.tail _ (.head _))) | exact .tail _ (.tail _ (.tail _ (.tail _ (.head _)))) | exact .tail _ (.tail _ (.tail _ (.tail _ (.tail _ (.head _))))) | exact .tail _ (.tail _ (.tail _ (.tail _ (.tail _ (.tail _ (.head _)))))) | exact .tail _ (.tail _ (.tail _ (.tail _ (.tail _ (.tail _ (.tail _ (.head _)))))))) rfl (by first | exact Tryd.underlying3 | exact Tryd.underlying4 | exact Tryd.underlying9 | exact Tryd.underlying28 | exact Tryd.underlying35) rfl ?_; simp only [Act.put, List.setIfInBounds_toArray, List.set_cons_zero, List.set_cons_succ]) | ((with_reducible refine wl_id ?_); refine m_store HM.out rfl rfl rfl 4 rfl rfl rfl rfl (Nat.le_of_ble_eq_true rfl) (by kernel_rfl) ?_; intro wx hM; simp only [Act.put, List.setIfInBounds_toArray, List.set_cons_zero, List.set_cons_succ]; simp only [List.set_cons_succ, List.set_cons_zero] at hM; clear HM; have HM := hid hM; clear hM))
    refine wp_region_lit ?_
    have HE := hid (show atCol (atRow q (min q.bot (q.top + N - 1))) (min (q.mc - 1) (K - 1)) = toS s 72 N K by rw [HTS.out]; try (rw [Scr.row_eq (s := q) (a := min q.bot (q.top + N - 1)) (b := lineR q N) (by unfold lineR; rw [if_pos HC.out])]; exact Scr.col_eq (by omega)))
    ((with_reducible refine wl_id ?_); refine m_loadS HM.out rfl rfl rfl (by first | exact .head _ | exact .tail _ (.head _) | exact .tail _ (.tail _ (.head _)) | exact .tail _ (.tail _ (.tail _ (.head _))) | exact .tail _ (.tail _ (.tail _ (.tail _ (.head _)))) | exact .tail _ (.tail _ (.tail _ (.tail _ (.tail _ (.head _))))) | exact .tail _ (.tail _ (.tail _ (.tail _ (.tail _ (.tail _ (.head _)))))) | exact .tail _ (.tail _ (.tail _ (.tail _ (.tail _ (.tail _ (.tail _ (.head _)))))))) (scrL (atCol (atRow q (min q.bot (q.top + N - 1))) (min (q.mc - 1) (K - 1))) (sl gm s.ms.length cm) (sl go s.os.length co) (sl gt s.tabs.length ct)) rfl Tryd.underlying37 rfl (by kernel_rfl) ?_; simp only [Act.put, List.setIfInBounds_toArray, List.set_cons_zero, List.set_cons_succ])
    ((with_reducible refine wl_id ?_); refine m_storeA HM.out rfl rfl rfl 3 rfl rfl rfl (by kernel_rfl) rfl ?_; intro wx hM; simp only [Act.put, List.setIfInBounds_toArray, List.set_cons_zero, List.set_cons_succ]; simp only [List.set_cons_succ, List.set_cons_zero] at hM; clear HM; have HM := hid hM; clear hM)
    go_wp2
    have hO' : OwnScr _ w.heap.size (toS s 72 N K) (sl gm s.ms.length cm) (sl go s.os.length co) (sl gt s.tabs.length ct) := (HM.out.scr (s := s)).as (toS_keeps s 72 N K).1 (toS_keeps s 72 N K).2.1 (toS_keeps s 72 N K).2.2.1
    exact bodyPost_ret (m_results1 HM.out Tryd.results40 _ rfl (.tail _ (.tail _ (.tail _ (.head _)))) (scrL (atCol (atRow q (min q.bot (q.top + N - 1))) (min (q.mc - 1) (K - 1))) (sl gm s.ms.length cm) (sl go s.os.length co) (sl gt s.tabs.length ct)) rfl Tryd.underlying37 rfl (by kernel_rfl)) rfl ⟨_, _, _, by rw [← HE.out], hO', HM.out.below⟩
  · have HC := hid hc
    have hog : q.cur.org = false := by simpa using hc
    have HOG : Hid ((scrL q (sl gm s.ms.length cm) (sl go s.os.length co) (sl gt s.tabs.length ct))[16]? = some (.bool false)) := hid (congrArg (fun x => some (Value.bool x)) hog)
    clear hog
    clear hc
    go_upto_region 33 with (first | ((with_reducible refine wl_id ?_); refine m_load HM.out rfl rfl rfl (by first | exact .head _ | exact .tail _ (.head _) | exact .tail _ (.tail _ (.head _)) | exact .tail _ (.tail _ (.tail _ (.head _))) | exact .tail _ (.tail _ (.tail _ (.tail _ (.head _)))) | exact .tail _ (.tail _ (.tail _ (.tail _ (.tail _ (.head _))))) | exact .tail _ (.tail _ (.tail _ (.tail _ (.tail _ (.tail _ (.head _)))))) | exact .tail _ (.tail _ (.tail _ (.tail _ (.tail _ (.tail _ (.tail _ (.head _)))))))) HOG.out (by first | exact Tryd.underlying3 | exact Tryd.underlying4 | exact Tryd.underlying9 | exact Tryd.underlying28 | exact Tryd.underlying35) rfl ?_; simp only [Act.put, List.setIfInBounds_toArray, List.set_cons_zero, List.set_cons_succ]) | ((with_reducible refine wl_id ?_); refine m_load HM.out rfl rfl rfl (by first | exact .head _ | exact .tail _ (.head _) | exact .tail _ (.tail _ (.head _)) | exact .tail _ (.tail _ (.tail _ (.head _))) | exact .tail _ (.tail _ (.tail _ (.tail _ (.head _)))) | exact .tail _ (.tail _ (.tail _ (.tail _ (.tail _ (.head _))))) | exact .tail _ (.tail _ (.tail _ (.tail _ (.tail _ (.tail _ (.head _)))))) | exact .tail _ (.tail _ (.tail _ (.tail _ (.tail _ (.tail _ (.tail _ (.head _)))))))) rfl (by first | exact Tryd.underlying3 | exact Tryd.underlying4 | exact Tryd.underlying9 | exact Tryd.underlying28 | exact Tryd.underlying35) rfl ?_; simp only [Act.put, List.setIfInBounds_toArray, List.set_cons_zero, List.set_cons_succ]) | ((with_reducible refine wl_id ?_); refine m_store HM.out rfl rfl rfl 4 rfl rfl rfl rfl (Nat.le_of_ble_eq_true rfl) (by kernel_rfl) ?_; intro wx hM; simp only [Act.put, List.setIfInBounds_toArray, List.set_cons_zero, List.set_cons_succ]; simp only [List.set_cons_succ, List.set_cons_zero] at hM; clear HM; have HM := hid hM; clear hM))
    go_upto_region 38 with (first | ((with_reducible refine wl_id ?_); refine m_load HM.out rfl rfl rfl (by first | exact .head _ | exact .tail _ (.head _) | exact .tail _ (.tail _ (.head _)) | exact .tail _ (.tail _ (.tail _ (.head _))) | exact .tail _ (.tail _ (.tail _ (.tail _ (.head _)))) | exact .tail _ (.tail _ (.tail _ (.tail _ (.tail _ (.head _))))) | exact .tail _ (.tail _ (.tail _ (.tail _ (.tail _ (.tail _ (.head _)))))) | exact .tail _ (.tail _ (.tail _ (.tail _ (.tail _ (.tail _ (.tail _ (.head _)))))))) rfl (by first | exact Tryd.underlying3 | exact Tryd.underlying4 | exact Tryd.underlying9 | exact Tryd.underlying28 | exact Tryd.underlying35) rfl ?_; simp only [Act.put, List.setIfInBounds_toArray, List.set_cons_zero, List.set_cons_succ]) | ((with_reducible refine wl_id ?_); refine m_store HM.out rfl rfl rfl 4 rfl rfl rfl rfl (Nat.le_of_ble_eq_true rfl) (by kernel_rfl) ?_; intro wx hM; simp only [Act.put, List.setIfInBounds_toArray, List.set_cons_zero, List.set_cons_succ]; simp only [List.set_cons_succ, List.set_cons_zero] at hM; clear HM; have HM := hid hM; clear hM))
    refine wp_region_lit ?_
    have HE := hid (show atCol (atRow q (min (q.mr - 1) (N - 1))) (min (q.mc - 1) (K - 1)) = toS s 72 N K by rw [HTS.out]; try (rw [Scr.row_eq (s := q) (a := min (q.mr - 1) (N - 1)) (b := lineR q N) (by unfold lineR; rw [if_neg HC.out]; omega)]; exact Scr.col_eq (by omega)))
    ((with_reducible refine wl_id ?_); refine m_loadS HM.out rfl rfl rfl (by first | exact .head _ | exact .tail _ (.head _) | exact .tail _ (.tail _ (.head _)) | exact .tail _ (.tail _ (.tail _ (.head _))) | exact .tail _ (.tail _ (.tail _ (.tail _ (.head _)))) | exact .tail _ (.tail _ (.tail _ (.tail _ (.tail _ (.head _))))) | exact .tail _ (.tail _ (.tail _ (.tail _ (.tail _ (.tail _ (.head _)))))) | exact .tail _ (.tail _ (.tail _ (.tail _ (.tail _ (.tail _ (.tail _ (.head _)))))))) (scrL (atCol (atRow q (min (q.mr - 1) (N - 1))) (min (q.mc - 1) (K - 1))) (sl gm s.ms.length cm) (sl go s.os.length co) (sl gt s.tabs.length ct)) rfl Tryd.underlying37 rfl (by kernel_rfl) ?_; simp only [Act.put, List.setIfInBounds_toArray, List.set_cons_zero, List.set_cons_succ])
    ((with_reducible refine wl_id ?_); refine m_storeA HM.out rfl rfl rfl 3 rfl rfl rfl (by kernel_rfl) rfl ?_; intro wx hM; simp only [Act.put, List.setIfInBounds_toArray, List.set_cons_zero, List.set_cons_succ]; simp only [List.set_cons_succ, List.set_cons_zero] at hM; clear HM; have HM := hid hM; clear hM)
    go_wp2
    have hO' : OwnScr _ w.heap.size (toS s 72 N K) (sl gm s.ms.length cm) (sl go s.os.length co) (sl gt s.tabs.length ct) := (HM.out.scr (s := s)).as (toS_keeps s 72 N K).1 (toS_keeps s 72 N K).2.1 (toS_keeps s 72 N K).2.2.1
    exact bodyPost_ret (m_results1 HM.out Tryd.results40 _ rfl (.tail _ (.tail _ (.tail _ (.head _)))) (scrL (atCol (atRow q (min (q.mr - 1) (N - 1))) (min (q.mc - 1) (K - 1))) (sl gm s.ms.length cm) (sl go s.os.length co) (sl gt s.tabs.length ct)) rfl Tryd.underlying37 rfl (by kernel_rfl)) rfl ⟨_, _, _, by rw [← HE.out], hO', HM.out.below⟩
set_option maxRecDepth 100000 in
set_option maxHeartbeats 4000000 in
theorem rmove_73 {s : Scr} {m o t : Value} {n k : Int} {w : World} (hr : RdScr w s m o t) (hs : scrB s = true) (hnb : -1 ≤ n ∧ n ≤ 9999) (hkb : -1 ≤ k ∧ k ≤ 9999) :
    Calls Tryd.prog 40 #[.agg (scrL s m o t).toArray, .int .i64 73, .int .i64 n, .int .i64 k] w fun e w' => ∃ m' o' t', e = .returned (.agg (scrL (toS s 73 (max 1 n) (max 1 k)) m' o' t').toArray) ∧ OwnScr w' w.heap.size (toS s 73 (max 1 n) (max 1 k)) m' o' t' ∧ Below w.heap.size w w' := by
  have HFA := hid (scrB_facts hs)
  have HO := hid (fun W (hW : Below w.heap.size w W) => copyS_l (hr.below hW))
  have HX := hid (Mem.start w)
  obtain ⟨N, hN⟩ : ∃ N, max 1 n = N := ⟨_, rfl⟩
  obtain ⟨K, hK⟩ : ∃ K, max 1 k = K := ⟨_, rfl⟩
  have hNb : 1 ≤ N ∧ N ≤ 9999 := by omega
  have hKb : 1 ≤ K ∧ K ≤ 9999 := by omega
  rw [hN, hK]
  clear hs hr
  go_enter Tryd.func40, Tryd.ntmps40
  go_upto_region 0 with (fail)
  refine wp_region_lit ?_
  refine m_box HX.out rfl rfl rfl ?_
  intro b w1 hM1
  simp only [Act.put, List.setIfInBounds_toArray, List.set_cons_zero, List.set_cons_succ]
  refine m_alloc hM1 rfl rfl info_zS ?_
  intro b' w2 hM
  simp only [Act.put, List.setIfInBounds_toArray, List.set_cons_zero, List.set_cons_succ]
  clear hM1
  have HM := hid (show Mem w w2 [(b', Row 37 zL), (b, Row 37 (scrL s m o t))] from hM)
  clear hM
  go_wp2_with (first | ((with_reducible refine wl_id ?_); refine m_loadS HM.out rfl rfl rfl (by first | exact .head _ | exact .tail _ (.head _) | exact .tail _ (.tail _ (.head _)) | exact .tail _ (.tail _ (.tail _ (.head _))) | exact .tail _ (.tail _ (.tail _ (.tail _ (.head _)))) | exact .tail _ (.tail _ (.tail _ (.tail _ (.tail _ (.head _))))) | exact .tail _ (.tail _ (.tail _ (.tail _ (.tail _ (.tail _ (.head _)))))) | exact .tail _ (.tail _ (.tail _ (.tail _ (.tail _ (.tail _ (.tail _ (.head _)))))))) (scrL s m o t) rfl Tryd.underlying37 rfl (by kernel_rfl) ?_; simp only [Act.put, List.setIfInBounds_toArray, List.set_cons_zero, List.set_cons_succ]) | (go_at_call 30; fail))
  refine (HO.out _ HM.out.below).mono ?_
  rintro e w3 ⟨m', o', t', rfl, hO, hB⟩
  obtain ⟨gm, cm, go, co, gt, ct, rfl, rfl, rfl, hM⟩ := HM.out.addScr hB hO HFA.out.2.1
  clear HM hO hB HO HX
  have HM := hid hM
  clear hM
  go_upto_region 4 with (first | ((with_reducible refine wl_id ?_); refine m_storeA HM.out rfl rfl rfl 4 rfl rfl rfl (by kernel_rfl) rfl ?_; intro wx hM; simp only [Act.put, List.setIfInBounds_toArray, List.set_cons_zero, List.set_cons_succ]; simp only [List.set_cons_succ, List.set_cons_zero] at hM; clear HM; have HM := hid hM; clear hM))
  go_upto_region 5 with (first | ((with_reducible refine wl_id ?_); refine m_store HM.out rfl rfl rfl 4 rfl rfl rfl rfl (Nat.le_of_ble_eq_true rfl) (by kernel_rfl) ?_; intro wx hM; simp only [Act.put, List.setIfInBounds_toArray, List.set_cons_zero, List.set_cons_succ]; simp only [List.set_cons_succ, List.set_cons_zero] at hM; clear HM; have HM := hid hM; clear hM))
  obtain ⟨q, hq⟩ : ∃ q, noWrap s = q := ⟨_, rfl⟩
  have hbq : Bd q := hq ▸ HFA.out.1.noWrap
  have htq : q.tabs = s.tabs := by rw [← hq]; rfl
  have HTQ := hid htq
  have hlq : (s.tabs.length : Int) = q.mc := by rw [← hq]; exact HFA.out.2.2.1
  have HLQ := hid hlq
  have HTS := hid (show toS s 73 N K = atCol q (nextT q.tabs q.cur.col N) by rw [← hq]; rfl)
  have hK1 : q.ms = s.ms ∧ q.os = s.os := by rw [← hq]; exact ⟨rfl, rfl⟩
  have HKP := hid hK1
  have h0 : Mem w _ [(gm, entC s.ms cm), (go, entC s.os co), (gt, entB s.tabs ct), (b', Row 37 zL), (b, Row 37 (scrL (noWrap s) (sl gm s.ms.length cm) (sl go s.os.length co) (sl gt s.tabs.length ct)))] := HM.out
  rw [hq] at h0
  have HM2 := hid h0
  clear h0
  clear HM hq htq hlq hK1
  have HM := HM2
  clear HM2
  have hrr := hbq.row
  have hcc := hbq.col
  have ht := hbq.top
  have hqb := hbq.bot
  have hmr := hbq.mr
  have hmc := hbq.mc
  clear hbq
  (refine m_quiet HM.out (by kernel_rfl) (by kernel_rfl) (fun hne => ?_); (repeat (first | (go_big_quiet_want; refine mq_load rfl rfl (by first | exact .head _ | exact .tail _ (.head _) | exact .tail _ (.tail _ (.head _)) | exact .tail _ (.tail _ (.tail _ (.head _))) | exact .tail _ (.tail _ (.tail _ (.tail _ (.head _)))) | exact .tail _ (.tail _ (.tail _ (.tail _ (.tail _ (.head _))))) | exact .tail _ (.tail _ (.tail _ (.tail _ (.tail _ (.tail _ (.head _)))))) | exact .tail _ (.tail _ (.tail _ (.tail _ (.tail _ (.tail _ (.tail _ (.head _)))))))) rfl (by first | exact Tryd.underlying3 | exact Tryd.underlying4 | exact Tryd.underlying9 | exact Tryd.underlying28 | exact Tryd.underlying35) rfl ?_; simp only [Act.put, List.setIfInBounds_toArray, List.set_cons_zero, List.set_cons_succ]; go_big_quiet_on) | go_big_quiet_step (fail))); refine wpQuiet_nil ?_; intro wq hM; clear HM hne; have HM := hid hM; clear hM)
  go_upto_region 24 with (first | ((with_reducible refine wl_id ?_); refine m_load HM.out rfl rfl rfl (by first | exact .head _ | exact .tail _ (.head _) | exact .tail _ (.tail _ (.head _)) | exact .tail _ (.tail _ (.tail _ (.head _))) | exact .tail _ (.tail _ (.tail _ (.tail _ (.head _)))) | exact .tail _ (.tail _ (.tail _ (.tail _ (.tail _ (.head _))))) | exact .tail _ (.tail _ (.tail _ (.tail _ (.tail _ (.tail _ (.head _)))))) | exact .tail _ (.tail _ (.tail _ (.tail _ (.tail _ (.tail _ (.tail _ (.head _)))))))) rfl (by first | exact Tryd.underlying3 | exact Tryd.underlying4 | exact Tryd.underlying9 | exact Tryd.underlying28 | exact Tryd.underlying35) rfl ?_; simp only [Act.put, List.setIfInBounds_toArray, List.set_cons_zero, List.set_cons_succ]) | ((with_reducible refine wl_id ?_); refine m_store HM.out rfl rfl rfl 4 rfl rfl rfl rfl (Nat.le_of_ble_eq_true rfl) (by kernel_rfl) ?_; intro wx hM; simp only [Act.put, List.setIfInBounds_toArray, List.set_cons_zero, List.set_cons_succ]; simp only [List.set_cons_succ, List.set_cons_zero] at hM; clear HM; have HM := hid hM; clear hM))
  (refine m_tail 11 HM.out (by kernel_rfl) (by kernel_rfl) ?_; intro wd hM; clear HM; have HM := hid hM; clear hM; simp only [List.take_succ_cons, List.take_zero, List.drop_succ_cons, List.drop_zero])
  have HTD := hid (show RdB wd (sl gt s.tabs.length ct) q.tabs by rw [HTQ.out]; exact OwnB.rd (base := w.heap.size) (HM.out.own (.tail _ (.tail _ (.head _)))))
  have HL2 := hid (show q.tabs.length ≤ 1000 ∧ q.cur.col < (q.tabs.length : Int) by have := HLQ.out; rw [HTQ.out]; omega)
  repeat (first | (refine ws_want rfl (fun K hK => ?_); refine ms_load HM.out rfl rfl (by first | exact .head _ | exact .tail _ (.head _) | exact .tail _ (.tail _ (.head _)) | exact .tail _ (.tail _ (.tail _ (.head _))) | exact .tail _ (.tail _ (.tail _ (.tail _ (.head _)))) | exact .tail _ (.tail _ (.tail _ (.tail _ (.tail _ (.head _))))) | exact .tail _ (.tail _ (.tail _ (.tail _ (.tail _ (.tail _ (.head _)))))) | exact .tail _ (.tail _ (.tail _ (.tail _ (.tail _ (.tail _ (.tail _ (.head _)))))))) rfl (by first | exact Tryd.underlying3 | exact Tryd.underlying4 | exact Tryd.underlying9 | exact Tryd.underlying28 | exact Tryd.underlying35) rfl ?_; simp only [Act.put, List.setIfInBounds_toArray, List.set_cons_zero, List.set_cons_succ]; refine hK _ ?_; clear hK K) | still_step | still_call (stillR (refNext_is (R := nextT q.tabs q.cur.col N) rfl _ wd HTD.out HL2.out.1 hcc.1 HL2.out.2 (by omega) hNb.2)))
  refine wpStill_nil ?_
  go_upto_region 38 with (first | ((with_reducible refine wl_id ?_); refine m_load HM.out rfl rfl rfl (by first | exact .head _ | exact .tail _ (.head _) | exact .tail _ (.tail _ (.head _)) | exact .tail _ (.tail _ (.tail _ (.head _))) | exact .tail _ (.tail _ (.tail _ (.tail _ (.head _)))) | exact .tail _ (.tail _ (.tail _ (.tail _ (.tail _ (.head _))))) | exact .tail _ (.tail _ (.tail _ (.tail _ (.tail _ (.tail _ (.head _)))))) | exact .tail _ (.tail _ (.tail _ (.tail _ (.tail _ (.tail _ (.tail _ (.head _)))))))) rfl (by first | exact Tryd.underlying3 | exact Tryd.underlying4 | exact Tryd.underlying9 | exact Tryd.underlying28 | exact Tryd.underlying35) rfl ?_; simp only [Act.put, List.setIfInBounds_toArray, List.set_cons_zero, List.set_cons_succ]) | ((with_reducible refine wl_id ?_); refine m_store HM.out rfl rfl rfl 4 rfl rfl rfl rfl (Nat.le_of_ble_eq_true rfl) (by kernel_rfl) ?_; intro wx hM; simp only [Act.put, List.setIfInBounds_toArray, List.set_cons_zero, List.set_cons_succ]; simp only [List.set_cons_succ, List.set_cons_zero] at hM; clear HM; have HM := hid hM; clear hM))
  refine wp_region_lit ?_
  have HE := hid (show atCol q (nextT q.tabs q.cur.col N) = toS s 73 N K by rw [HTS.out]; try (rfl))
  ((with_reducible refine wl_id ?_); refine m_loadS HM.out rfl rfl rfl (by first | exact .head _ | exact .tail _ (.head _) | exact .tail _ (.tail _ (.head _)) | exact .tail _ (.tail _ (.tail _ (.head _))) | exact .tail _ (.tail _ (.tail _ (.tail _ (.head _)))) | exact .tail _ (.tail _ (.tail _ (.tail _ (.tail _ (.head _))))) | exact .tail _ (.tail _ (.tail _ (.tail _ (.tail _ (.tail _ (.head _)))))) | exact .tail _ (.tail _ (.tail _ (.tail _ (.tail _ (.tail _ (.tail _ (.head _)))))))) (scrL (atCol q (nextT q.tabs q.cur.col N)) (sl gm s.ms.length cm) (sl go s.os.length co) (sl gt s.tabs.length ct)) rfl Tryd.underlying37 rfl (by kernel_rfl) ?_; simp only [Act.put, List.setIfInBounds_toArray, List.set_cons_zero, List.set_cons_succ])
  ((with_reducible refine wl_id ?_); refine m_storeA HM.out rfl rfl rfl 3 rfl rfl rfl (by kernel_rfl) rfl ?_; intro wx hM; simp only [Act.put, List.setIfInBounds_toArray, List.set_cons_zero, List.set_cons_succ]; simp only [List.set_cons_succ, List.set_cons_zero] at hM; clear HM; have HM := hid hM; clear hM)
  go_wp2
  have hO' : OwnScr _ w.heap.size (toS s 73 N K) (sl gm s.ms.length cm) (sl go s.os.length co) (sl gt s.tabs.length ct) := (HM.out.scr (s := s)).as (toS_keeps s 73 N K).1 (toS_keeps s 73 N K).2.1 (toS_keeps s 73 N K).2.2.1
  exact bodyPost_ret (m_results1 HM.out Tryd.results40 _ rfl (.tail _ (.tail _ (.tail _ (.head _)))) (scrL (atCol q (nextT q.tabs q.cur.col N)) (sl gm s.ms.length cm) (sl go s.os.length co) (sl gt s.tabs.length ct)) rfl Tryd.underlying37 rfl (by kernel_rfl)) rfl ⟨_, _, _, by rw [← HE.out], hO', HM.out.below⟩
set_option maxRecDepth 100000 in
set_option maxHeartbeats 4000000 in
theorem rmove_90 {s : Scr} {m o t : Value} {n k : Int} {w : World} (hr : RdScr w s m o t) (hs : scrB s = true) (hnb : -1 ≤ n ∧ n ≤ 9999) (hkb : -1 ≤ k ∧ k ≤ 9999) :
    Calls Tryd.prog 40 #[.agg (scrL s m o t).toArray, .int .i64 90, .int .i64 n, .int .i64 k] w fun e w' => ∃ m' o' t', e = .returned (.agg (scrL (toS s 90 (max 1 n) (max 1 k)) m' o' t').toArray) ∧ OwnScr w' w.heap.size (toS s 90 (max 1 n) (max 1 k)) m' o' t' ∧ Below w.heap.size w w' := by
  have HFA := hid (scrB_facts hs)
  have HO := hid (fun W (hW : Below w.heap.size w W) => copyS_l (hr.below hW))
  have HX := hid (Mem.start w)
  obtain ⟨N, hN⟩ : ∃ N, max 1 n = N := ⟨_, rfl⟩
  obtain ⟨K, hK⟩ : ∃ K, max 1 k = K := ⟨_, rfl⟩
  have hNb : 1 ≤ N ∧ N ≤ 9999 := by omega
  have hKb : 1 ≤ K ∧ K ≤ 9999 := by omega
  rw [hN, hK]
  clear hs hr
  go_enter Tryd.func40, Tryd.ntmps40
  go_upto_region 0 with (fail)
  refine wp_region_lit ?_
  refine m_box HX.out rfl rfl rfl ?_
  intro b w1 hM1
  simp only [Act.put, List.setIfInBounds_toArray, List.set_cons_zero, List.set_cons_succ]
  refine m_alloc hM1 rfl rfl info_zS ?_
  intro b' w2 hM
  simp only [Act.put, List.setIfInBounds_toArray, List.set_cons_zero, List.set_cons_succ]
  clear hM1
  have HM := hid (show Mem w w2 [(b', Row 37 zL), (b, Row 37 (scrL s m o t))] from hM)
  clear hM
  go_wp2_with (first | ((with_reducible refine wl_id ?_); refine m_loadS HM.out rfl rfl rfl (by first | exact .head _ | exact .tail _ (.head _) | exact .tail _ (.tail _ (.head _)) | exact .tail _ (.tail _ (.tail _ (.head _))) | exact .tail _ (.tail _ (.tail _ (.tail _ (.head _)))) | exact .tail _ (.tail _ (.tail _ (.tail _ (.tail _ (.head _))))) | exact .tail _ (.tail _ (.tail _ (.tail _ (.tail _ (.tail _ (.head _)))))) | exact .tail _ (.tail _ (.tail _ (.tail _ (.tail _ (.tail _ (.tail _ (.head _)))))))) (scrL s m o t) rfl Tryd.underlying37 rfl (by kernel_rfl) ?_; simp only [Act.put, List.setIfInBounds_toArray, List.set_cons_zero, List.set_cons_succ]) | (go_at_call 30; fail))
  refine (HO.out _ HM.out.below).mono ?_
  rintro e w3 ⟨m', o', t', rfl, hO, hB⟩
  obtain ⟨gm, cm, go, co, gt, ct, rfl, rfl, rfl, hM⟩ := HM.out.addScr hB hO HFA.out.2.1
  clear HM hO hB HO HX
  have HM := hid hM
  clear hM
  go_upto_region 4 with (first | ((with_reducible refine wl_id ?_); refine m_storeA HM.out rfl rfl rfl 4 rfl rfl rfl (by kernel_rfl) rfl ?_; intro wx hM; simp only [Act.put, List.setIfInBounds_toArray, List.set_cons_zero, List.set_cons_succ]; simp only [List.set_cons_succ, List.set_cons_zero] at hM; clear HM; have HM := hid hM; clear hM))
  go_upto_region 5 with (first | ((with_reducible refine wl_id ?_); refine m_store HM.out rfl rfl rfl 4 rfl rfl rfl rfl (Nat.le_of_ble_eq_true rfl) (by kernel_rfl) ?_; intro wx hM; simp only [Act.put, List.setIfInBounds_toArray, List.set_cons_zero, List.set_cons_succ]; simp only [List.set_cons_succ, List.set_cons_zero] at hM; clear HM; have HM := hid hM; clear hM))
  obtain ⟨q, hq⟩ : ∃ q, noWrap s = q := ⟨_, rfl⟩
  have hbq : Bd q := hq ▸ HFA.out.1.noWrap
  have htq : q.tabs = s.tabs := by rw [← hq]; rfl
  have HTQ := hid htq
  have hlq : (s.tabs.length : Int) = q.mc := by rw [← hq]; exact HFA.out.2.2.1
  have HLQ := hid hlq
  have HTS := hid (show toS s 90 N K = atCol q (backT q.tabs q.cur.col N) by rw [← hq]; rfl)
  have hK1 : q.ms = s.ms ∧ q.os = s.os := by rw [← hq]; exact ⟨rfl, rfl⟩
  have HKP := hid hK1
  have h0 : Mem w _ [(gm, entC s.ms cm), (go, entC s.os co), (gt, entB s.tabs ct), (b', Row 37 zL), (b, Row 37 (scrL (noWrap s) (sl gm s.ms.length cm) (sl go s.os.length co) (sl gt s.tabs.length ct)))] := HM.out
  rw [hq] at h0
  have HM2 := hid h0
  clear h0
  clear HM hq htq hlq hK1
  have HM := HM2
  clear HM2
  have hrr := hbq.row
  have hcc := hbq.col
  have ht := hbq.top
  have hqb := hbq.bot
  have hmr := hbq.mr
  have hmc := hbq.mc
  clear hbq
  (refine m_quiet HM.out (by kernel_rfl) (by kernel_rfl) (fun hne => ?_); (repeat (first | (go_big_quiet_want; refine mq_load rfl rfl (by first | exact .head _ | exact .tail _ (.head _) | exact .tail _ (.tail _ (.head _)) | exact .tail _ (.tail _ (.tail _ (.head _))) | exact .tail _ (.tail _ (.tail _ (.tail _ (.head _)))) | exact .tail _ (.tail _ (.tail _ (.tail _ (.tail _ (.head _))))) | exact .tail _ (.tail _ (.tail _ (.tail _ (.tail _ (.tail _ (.head _)))))) | exact .tail _ (.tail _ (.tail _ (.tail _ (.tail _ (.tail _ (.tail _ (.head _)))))))) rfl (by first | exact Tryd.underlying3 | exact Tryd.underlying4 | exact Tryd.underlying9 | exact Tryd.underlying28 | exact Tryd.underlying35) rfl ?_; simp only [Act.put, List.setIfInBounds_toArray, List.set_cons_zero, List.set_cons_succ]; go_big_quiet_on) | go_big_quiet_step (fail))); refine wpQuiet_nil ?_; intro wq hM; clear HM hne; have HM := hid hM; clear hM)
  go_upto_region 26 with (first | ((with_reducible refine wl_id ?_); refine m_load HM.out rfl rfl rfl (by first | exact .head _ | exact .tail _ (.head _) | exact .tail _ (.tail _ (.head _)) | exact .tail _ (.tail _ (.tail _ (.head _))) | exact .tail _ (.tail _ (.tail _ (.tail _ (.head _)))) | exact .tail _ (.tail _ (.tail _ (.tail _ (.tail _ (.head _))))) | exact .tail _ (.tail _ (.tail _ (.tail _ (.tail _ (.tail _ (.head _)))))) | exact .tail _ (.tail _ (.tail _ (.tail _ (.tail _ (.tail _ (.tail _ (.head _)))))))) rfl (by first | exact Tryd.underlying3 | exact Tryd.underlying4 | exact Tryd.underlying9 | exact Tryd.underlying28 | exact Tryd.underlying35) rfl ?_; simp only [Act.put, List.setIfInBounds_toArray, List.set_cons_zero, List.set_cons_succ]) | ((with_reducible refine wl_id ?_); refine m_store HM.out rfl rfl rfl 4 rfl rfl rfl rfl (Nat.le_of_ble_eq_true rfl) (by kernel_rfl) ?_; intro wx hM; simp only [Act.put, List.setIfInBounds_toArray, List.set_cons_zero, List.set_cons_succ]; simp only [List.set_cons_succ, List.set_cons_zero] at hM; clear HM; have HM := hid hM; clear hM))
  (refine m_tail 11 HM.out (by kernel_rfl) (by kernel_rfl) ?_; intro wd hM; clear HM; have HM := hid hM; clear hM; simp only [List.take_succ_cons, List.take_zero, List.drop_succ_cons, List.drop_zero])
  have HTD := hid (show RdB wd (sl gt s.tabs.length ct) q.tabs by rw [HTQ.out]; exact OwnB.rd (base := w.heap.size) (HM.out.own (.tail _ (.tail _ (.head _)))))
  have HL2 := hid (show q.tabs.length ≤ 1000 ∧ q.cur.col < (q.tabs.length : Int) by have := HLQ.out; rw [HTQ.out]; omega)
  repeat (first | (refine ws_want rfl (fun K hK => ?_); refine ms_load HM.out rfl rfl (by first | exact .head _ | exact .tail _ (.head _) | exact .tail _ (.tail _ (.head _)) | exact .tail _ (.tail _ (.tail _ (.head _))) | exact .tail _ (.tail _ (.tail _ (.tail _ (.head _)))) | exact .tail _ (.tail _ (.tail _ (.tail _ (.tail _ (.head _))))) | exact .tail _ (.tail _ (.tail _ (.tail _ (.tail _ (.tail _ (.head _)))))) | exact .tail _ (.tail _ (.tail _ (.tail _ (.tail _ (.tail _ (.tail _ (.head _)))))))) rfl (by first | exact Tryd.underlying3 | exact Tryd.underlying4 | exact Tryd.underlying9 | exact Tryd.underlying28 | exact Tryd.underlying35) rfl ?_; simp only [Act.put, List.setIfInBounds_toArray, List.set_cons_zero, List.set_cons_succ]; refine hK _ ?_; clear hK K) | still_step | still_call (stillR (refBack_is (R := backT q.tabs q.cur.col N) rfl _ wd HTD.out HL2.out.1 hcc.1 HL2.out.2 (by omega) hNb.2)))
  refine wpStill_nil ?_
  go_upto_region 38 with (first | ((with_reducible refine wl_id ?_); refine m_load HM.out rfl rfl rfl (by first | exact .head _ | exact .tail _ (.head _) | exact .tail _ (.tail _ (.head _)) | exact .tail _ (.tail _ (.tail _ (.head _))) | exact .tail _ (.tail _ (.tail _ (.tail _ (.head _)))) | exact .tail _ (.tail _ (.tail _ (.tail _ (.tail _ (.head _))))) | exact .tail _ (.tail _ (.tail _ (.tail _ (.tail _ (.tail _ (.head _)))))) | exact .tail _ (.tail _ (.tail _ (.tail _ (.tail _ (.tail _ (.tail _ (.head _)))))))) rfl (by first | exact Tryd.underlying3 | exact Tryd.underlying4 | exact Tryd.underlying9 | exact Tryd.underlying28 | exact Tryd.underlying35) rfl ?_; simp only [Act.put, List.setIfInBounds_toArray, List.set_cons_zero, List.set_cons_succ]) | ((with_reducible refine wl_id ?_); refine m_store HM.out rfl rfl rfl 4 rfl rfl rfl rfl (Nat.le_of_ble_eq_true rfl) (by kernel_rfl) ?_; intro wx hM; simp only [Act.put, List.setIfInBounds_toArray, List.set_cons_zero, List.set_cons_succ]; simp only [List.set_cons_succ, List.set_cons_zero] at hM; clear HM; have HM := hid hM; clear hM))
  refine wp_region_lit ?_
  have HE := hid (show atCol q (backT q.tabs q.cur.col N) = toS s 90 N K by rw [HTS.out]; try (rfl))
  ((with_reducible refine wl_id ?_); refine m_loadS HM.out rfl rfl rfl (by first | exact .head _ | exact .tail _ (.head _) | exact .tail _ (.tail _ (.head _)) | exact .tail _ (.tail _ (.tail _ (.head _))) | exact .tail _ (.tail _ (.tail _ (.tail _ (.head _)))) | exact .tail _ (.tail _ (.tail _ (.tail _ (.tail _ (.head _))))) | exact .tail _ (.tail _ (.tail _ (.tail _ (.tail _ (.tail _ (.head _)))))) | exact .tail _ (.tail _ (.tail _ (.tail _ (.tail _ (.tail _ (.tail _ (.head _)))))))) (scrL (atCol q (backT q.tabs q.cur.col N)) (sl gm s.ms.length cm) (sl go s.os.length co) (sl gt s.tabs.length ct)) rfl Tryd.underlying37 rfl (by kernel_rfl) ?_; simp only [Act.put, List.setIfInBounds_toArray, List.set_cons_zero, List.set_cons_succ])
  ((with_reducible refine wl_id ?_); refine m_storeA HM.out rfl rfl rfl 3 rfl rfl rfl (by kernel_rfl) rfl ?_; intro wx hM; simp only [Act.put, List.setIfInBounds_toArray, List.set_cons_zero, List.set_cons_succ]; simp only [List.set_cons_succ, List.set_cons_zero] at hM; clear HM; have HM := hid hM; clear hM)
  go_wp2
  have hO' : OwnScr _ w.heap.size (toS s 90 N K) (sl gm s.ms.length cm) (sl go s.os.length co) (sl gt s.tabs.length ct) := (HM.out.scr (s := s)).as (toS_keeps s 90 N K).1 (toS_keeps s 90 N K).2.1 (toS_keeps s 90 N K).2.2.1
  exact bodyPost_ret (m_results1 HM.out Tryd.results40 _ rfl (.tail _ (.tail _ (.tail _ (.head _)))) (scrL (atCol q (backT q.tabs q.cur.col N)) (sl gm s.ms.length cm) (sl go s.os.length co) (sl gt s.tabs.length ct)) rfl Tryd.underlying37 rfl (by kernel_rfl)) rfl ⟨_, _, _, by rw [← HE.out], hO', HM.out.below⟩
end Go.Proofs.YtbjckahaalbpaaaDoor
