/- cursor.To, key by key (printed by gento.py). -/
import Derived.Test.YtbjckahaalbpaaaDoorCurs
set_option linter.unusedVariables false
set_option linter.unusedSimpArgs false

namespace Go.Proofs.YtbjckahaalbpaaaDoor
open Go Go.RowKit

def toS (s0 : Scr) (key n k : Int) : Scr :=
  let s := noWrap s0
  if key = 65 then atRow s (upR s n) else if key = 66 then atRow s (downR s n) else if key = 67 then atCol s (min (s.mc - 1) (s.cur.col + n)) else if key = 68 then atCol s (max 0 (s.cur.col - n)) else
  if key = 69 then atCol (atRow s (downR s n)) 0 else if key = 70 then atCol (atRow s (upR s n)) 0 else if key = 71 then atCol s (min s.mc n - 1) else if key = 100 then atRow s (lineR s n) else
  if key = 72 then atCol (atRow s (lineR s n)) (min s.mc k - 1) else if key = 73 then atCol s (nextT s.tabs s.cur.col n) else if key = 90 then atCol s (backT s.tabs s.cur.col n) else s
theorem Bd.noWrap {s : Scr} (h : Bd s) : Bd (noWrap s) := ⟨h.mr, h.mc, h.row, h.col, h.top, h.bot⟩
theorem stillR {P : Program} {f : Nat} {args : Array Value} {w : World} {v : Value} (h : Calls P f args w fun e w' => e = .returned v ∧ w = w') : Calls P f args w fun e w' => e = .returned v ∧ w' = w := h.mono fun _ _ ⟨a, b⟩ => ⟨a, b.symm⟩
set_option maxRecDepth 100000 in
set_option maxHeartbeats 1000000 in
theorem to_65 {s : Scr} {m o t : Value} {p i : Nat} {n k : Int} {w0 w : World} {F : List Ent} (hM : Mem w0 w F) (hF : F[i]? = some (p, Row 37 (scrL s m o t))) (hb : Bd s) (hn : -1 ≤ n ∧ n ≤ 9999) (hk : -1 ≤ k ∧ k ≤ 9999) (hT : ∀ w' l, Mem w0 w' (F.set i (p, Row 37 l)) → RdB w' t s.tabs) (hl : (s.tabs.length : Int) = s.mc) :
    Calls Tryd.prog 50 #[.pointer (some ⟨p, 0, none⟩), .int .i64 65, .int .i64 n, .int .i64 k] w fun e w' => e = .returned (.tuple #[]) ∧ Mem w0 w' (F.set i (p, Row 37 (scrL (toS s 65 (max 1 n) (max 1 k)) m o t))) := by
  have HM := hid hM
  have HF := hid hF
  have HBd := hid hb.noWrap
  have hcn : 0 ≤ (noWrap s).cur.col ∧ (noWrap s).cur.col < s.mc := hb.col
  have hr := hb.row
  have hcc := hb.col
  have ht := hb.top
  have hq := hb.bot
  have hmr := hb.mr
  have hmc := hb.mc
  obtain ⟨N, hN⟩ : ∃ N, max 1 n = N := ⟨_, rfl⟩
  obtain ⟨K, hK⟩ : ∃ K, max 1 k = K := ⟨_, rfl⟩
  have hNb : 1 ≤ N ∧ N ≤ 9999 := by omega
  have hKb : 1 ≤ K ∧ K ≤ 9999 := by omega
  rw [hN, hK]
  have hX : toS s 65 N K = atRow (noWrap s) (upR (noWrap s) N) := rfl
  rw [hX]
  clear hX hM hF hb hT hl
  go_enter Tryd.func50, Tryd.ntmps50
  go_upto_region 1 with (fail)
  (refine m_quiet HM.out (by kernel_rfl) (by kernel_rfl) (fun hne => ?_); (repeat (first | (go_big_quiet_want; refine mq_load rfl rfl (List.mem_of_getElem? HF.out) rfl (by first | exact Tryd.underlying3 | exact Tryd.underlying4 | exact Tryd.underlying9 | exact Tryd.underlying28 | exact Tryd.underlying35) rfl ?_; simp only [Act.put, List.setIfInBounds_toArray, List.set_cons_zero, List.set_cons_succ]; go_big_quiet_on) | go_big_quiet_step (fail))); refine wpQuiet_nil ?_; intro wq hM; clear HM hne; have HM := hid hM; clear hM)
  go_upto_region 3 with (first | ((with_reducible refine wl_id ?_); refine m_store HM.out rfl rfl rfl i HF.out rfl rfl rfl (Nat.le_of_ble_eq_true rfl) (by kernel_rfl) ?_; intro w1 hM; simp only [Act.put, List.setIfInBounds_toArray, List.set_cons_zero, List.set_cons_succ]; have HN := hid hM; clear hM))
  obtain ⟨G, hG⟩ : ∃ G, F.set i (p, Row 37 (scrL (noWrap s) m o t)) = G := ⟨_, rfl⟩
  have HG := hid hG
  have HF2 := hid (show G[i]? = some (p, Row 37 (scrL (noWrap s) m o t)) by rw [← hG]; exact set_at HF.out)
  have HM2 := hid (show Mem w0 w1 G by rw [← hG]; exact HN.out)
  clear HM HF HN hG
  have HM := HM2
  have HF := HF2
  clear HM2 HF2
  go_wp2_with (first | (go_at_call 80; fail))
  refine (up_any HM.out HF.out HBd.out hNb).mono ?_
  rintro e w2 ⟨rfl, hM⟩
  have HN := hid hM
  clear hM HM
  go_wp2
  first | go_end0 | (refine bodyPost_ret (results_none rfl _ _ _) rfl ?_)
  exact ⟨rfl, by have h := HN.out; rw [← HG.out, List.set_set] at h; exact h⟩
set_option maxRecDepth 100000 in
set_option maxHeartbeats 1000000 in
theorem to_66 {s : Scr} {m o t : Value} {p i : Nat} {n k : Int} {w0 w : World} {F : List Ent} (hM : Mem w0 w F) (hF : F[i]? = some (p, Row 37 (scrL s m o t))) (hb : Bd s) (hn : -1 ≤ n ∧ n ≤ 9999) (hk : -1 ≤ k ∧ k ≤ 9999) (hT : ∀ w' l, Mem w0 w' (F.set i (p, Row 37 l)) → RdB w' t s.tabs) (hl : (s.tabs.length : Int) = s.mc) :
    Calls Tryd.prog 50 #[.pointer (some ⟨p, 0, none⟩), .int .i64 66, .int .i64 n, .int .i64 k] w fun e w' => e = .returned (.tuple #[]) ∧ Mem w0 w' (F.set i (p, Row 37 (scrL (toS s 66 (max 1 n) (max 1 k)) m o t))) := by
  have HM := hid hM
  have HF := hid hF
  have HBd := hid hb.noWrap
  have hcn : 0 ≤ (noWrap s).cur.col ∧ (noWrap s).cur.col < s.mc := hb.col
  have hr := hb.row
  have hcc := hb.col
  have ht := hb.top
  have hq := hb.bot
  have hmr := hb.mr
  have hmc := hb.mc
  obtain ⟨N, hN⟩ : ∃ N, max 1 n = N := ⟨_, rfl⟩
  obtain ⟨K, hK⟩ : ∃ K, max 1 k = K := ⟨_, rfl⟩
  have hNb : 1 ≤ N ∧ N ≤ 9999 := by omega
  have hKb : 1 ≤ K ∧ K ≤ 9999 := by omega
  rw [hN, hK]
  have hX : toS s 66 N K = atRow (noWrap s) (downR (noWrap s) N) := rfl
  rw [hX]
  clear hX hM hF hb hT hl
  go_enter Tryd.func50, Tryd.ntmps50
  go_upto_region 1 with (fail)
  (refine m_quiet HM.out (by kernel_rfl) (by kernel_rfl) (fun hne => ?_); (repeat (first | (go_big_quiet_want; refine mq_load rfl rfl (List.mem_of_getElem? HF.out) rfl (by first | exact Tryd.underlying3 | exact Tryd.underlying4 | exact Tryd.underlying9 | exact Tryd.underlying28 | exact Tryd.underlying35) rfl ?_; simp only [Act.put, List.setIfInBounds_toArray, List.set_cons_zero, List.set_cons_succ]; go_big_quiet_on) | go_big_quiet_step (fail))); refine wpQuiet_nil ?_; intro wq hM; clear HM hne; have HM := hid hM; clear hM)
  go_upto_region 3 with (first | ((with_reducible refine wl_id ?_); refine m_store HM.out rfl rfl rfl i HF.out rfl rfl rfl (Nat.le_of_ble_eq_true rfl) (by kernel_rfl) ?_; intro w1 hM; simp only [Act.put, List.setIfInBounds_toArray, List.set_cons_zero, List.set_cons_succ]; have HN := hid hM; clear hM))
  obtain ⟨G, hG⟩ : ∃ G, F.set i (p, Row 37 (scrL (noWrap s) m o t)) = G := ⟨_, rfl⟩
  have HG := hid hG
  have HF2 := hid (show G[i]? = some (p, Row 37 (scrL (noWrap s) m o t)) by rw [← hG]; exact set_at HF.out)
  have HM2 := hid (show Mem w0 w1 G by rw [← hG]; exact HN.out)
  clear HM HF HN hG
  have HM := HM2
  have HF := HF2
  clear HM2 HF2
  go_wp2_with (first | (go_at_call 81; fail))
  refine (down_any HM.out HF.out HBd.out hNb).mono ?_
  rintro e w2 ⟨rfl, hM⟩
  have HN := hid hM
  clear hM HM
  go_wp2
  first | go_end0 | (refine bodyPost_ret (results_none rfl _ _ _) rfl ?_)
  exact ⟨rfl, by have h := HN.out; rw [← HG.out, List.set_set] at h; exact h⟩
set_option maxRecDepth 100000 in
set_option maxHeartbeats 1000000 in
theorem to_67 {s : Scr} {m o t : Value} {p i : Nat} {n k : Int} {w0 w : World} {F : List Ent} (hM : Mem w0 w F) (hF : F[i]? = some (p, Row 37 (scrL s m o t))) (hb : Bd s) (hn : -1 ≤ n ∧ n ≤ 9999) (hk : -1 ≤ k ∧ k ≤ 9999) (hT : ∀ w' l, Mem w0 w' (F.set i (p, Row 37 l)) → RdB w' t s.tabs) (hl : (s.tabs.length : Int) = s.mc) :
    Calls Tryd.prog 50 #[.pointer (some ⟨p, 0, none⟩), .int .i64 67, .int .i64 n, .int .i64 k] w fun e w' => e = .returned (.tuple #[]) ∧ Mem w0 w' (F.set i (p, Row 37 (scrL (toS s 67 (max 1 n) (max 1 k)) m o t))) := by
  have HM := hid hM
  have HF := hid hF
  have HBd := hid hb.noWrap
  have hcn : 0 ≤ (noWrap s).cur.col ∧ (noWrap s).cur.col < s.mc := hb.col
  have hr := hb.row
  have hcc := hb.col
  have ht := hb.top
  have hq := hb.bot
  have hmr := hb.mr
  have hmc := hb.mc
  obtain ⟨N, hN⟩ : ∃ N, max 1 n = N := ⟨_, rfl⟩
  obtain ⟨K, hK⟩ : ∃ K, max 1 k = K := ⟨_, rfl⟩
  have hNb : 1 ≤ N ∧ N ≤ 9999 := by omega
  have hKb : 1 ≤ K ∧ K ≤ 9999 := by omega
  rw [hN, hK]
  have hX : toS s 67 N K = atCol (noWrap s) (min (s.mc - 1) (s.cur.col + N)) := rfl
  rw [hX]
  clear hX hM hF hb hT hl
  go_enter Tryd.func50, Tryd.ntmps50
  go_upto_region 1 with (fail)
  (refine m_quiet HM.out (by kernel_rfl) (by kernel_rfl) (fun hne => ?_); (repeat (first | (go_big_quiet_want; refine mq_load rfl rfl (List.mem_of_getElem? HF.out) rfl (by first | exact Tryd.underlying3 | exact Tryd.underlying4 | exact Tryd.underlying9 | exact Tryd.underlying28 | exact Tryd.underlying35) rfl ?_; simp only [Act.put, List.setIfInBounds_toArray, List.set_cons_zero, List.set_cons_succ]; go_big_quiet_on) | go_big_quiet_step (fail))); refine wpQuiet_nil ?_; intro wq hM; clear HM hne; have HM := hid hM; clear hM)
  go_upto_region 3 with (first | ((with_reducible refine wl_id ?_); refine m_store HM.out rfl rfl rfl i HF.out rfl rfl rfl (Nat.le_of_ble_eq_true rfl) (by kernel_rfl) ?_; intro w1 hM; simp only [Act.put, List.setIfInBounds_toArray, List.set_cons_zero, List.set_cons_succ]; have HN := hid hM; clear hM))
  obtain ⟨G, hG⟩ : ∃ G, F.set i (p, Row 37 (scrL (noWrap s) m o t)) = G := ⟨_, rfl⟩
  have HG := hid hG
  have HF2 := hid (show G[i]? = some (p, Row 37 (scrL (noWrap s) m o t)) by rw [← hG]; exact set_at HF.out)
  have HM2 := hid (show Mem w0 w1 G by rw [← hG]; exact HN.out)
  clear HM HF HN hG
  have HM := HM2
  have HF := HF2
  clear HM2 HF2
  go_wp2_with (first | ((with_reducible refine wl_id ?_); refine m_load HM.out rfl rfl rfl (List.mem_of_getElem? HF.out) rfl (by first | exact Tryd.underlying3 | exact Tryd.underlying4 | exact Tryd.underlying9 | exact Tryd.underlying28 | exact Tryd.underlying35) rfl ?_; simp only [Act.put, List.setIfInBounds_toArray, List.set_cons_zero, List.set_cons_succ]) | ((with_reducible refine wl_id ?_); refine m_store HM.out rfl rfl rfl i HF.out rfl rfl rfl (Nat.le_of_ble_eq_true rfl) (by kernel_rfl) ?_; intro w1 hM; simp only [Act.put, List.setIfInBounds_toArray, List.set_cons_zero, List.set_cons_succ]; have HN := hid hM; clear hM))
  first | go_end0 | (refine bodyPost_ret (results_none rfl _ _ _) rfl ?_)
  exact ⟨rfl, by have h := HN.out; rw [← HG.out, List.set_set] at h; exact h⟩
set_option maxRecDepth 100000 in
set_option maxHeartbeats 1000000 in
theorem to_68 {s : Scr} {m o t : Value} {p i : Nat} {n k : Int} {w0 w : World} {F : List Ent} (hM : Mem w0 w F) (hF : F[i]? = some (p, Row 37 (scrL s m o t))) (hb : Bd s) (hn : -1 ≤ n ∧ n ≤ 9999) (hk : -1 ≤ k ∧ k ≤ 9999) (hT : ∀ w' l, Mem w0 w' (F.set i (p, Row 37 l)) → RdB w' t s.tabs) (hl : (s.tabs.length : Int) = s.mc) :
    Calls Tryd.prog 50 #[.pointer (some ⟨p, 0, none⟩), .int .i64 68, .int .i64 n, .int .i64 k] w fun e w' => e = .returned (.tuple #[]) ∧ Mem w0 w' (F.set i (p, Row 37 (scrL (toS s 68 (max 1 n) (max 1 k)) m o t))) := by
  have HM := hid hM
  have HF := hid hF
  have HBd := hid hb.noWrap
  have hcn : 0 ≤ (noWrap s).cur.col ∧ (noWrap s).cur.col < s.mc := hb.col
  have hr := hb.row
  have hcc := hb.col
  have ht := hb.top
  have hq := hb.bot
  have hmr := hb.mr
  have hmc := hb.mc
  obtain ⟨N, hN⟩ : ∃ N, max 1 n = N := ⟨_, rfl⟩
  obtain ⟨K, hK⟩ : ∃ K, max 1 k = K := ⟨_, rfl⟩
  have hNb : 1 ≤ N ∧ N ≤ 9999 := by omega
  have hKb : 1 ≤ K ∧ K ≤ 9999 := by omega
  rw [hN, hK]
  have hX : toS s 68 N K = atCol (noWrap s) (max 0 (s.cur.col - N)) := rfl
  rw [hX]
  clear hX hM hF hb hT hl
  go_enter Tryd.func50, Tryd.ntmps50
  go_upto_region 1 with (fail)
  (refine m_quiet HM.out (by kernel_rfl) (by kernel_rfl) (fun hne => ?_); (repeat (first | (go_big_quiet_want; refine mq_load rfl rfl (List.mem_of_getElem? HF.out) rfl (by first | exact Tryd.underlying3 | exact Tryd.underlying4 | exact Tryd.underlying9 | exact Tryd.underlying28 | exact Tryd.underlying35) rfl ?_; simp only [Act.put, List.setIfInBounds_toArray, List.set_cons_zero, List.set_cons_succ]; go_big_quiet_on) | go_big_quiet_step (fail))); refine wpQuiet_nil ?_; intro wq hM; clear HM hne; have HM := hid hM; clear hM)
  go_upto_region 3 with (first | ((with_reducible refine wl_id ?_); refine m_store HM.out rfl rfl rfl i HF.out rfl rfl rfl (Nat.le_of_ble_eq_true rfl) (by kernel_rfl) ?_; intro w1 hM; simp only [Act.put, List.setIfInBounds_toArray, List.set_cons_zero, List.set_cons_succ]; have HN := hid hM; clear hM))
  obtain ⟨G, hG⟩ : ∃ G, F.set i (p, Row 37 (scrL (noWrap s) m o t)) = G := ⟨_, rfl⟩
  have HG := hid hG
  have HF2 := hid (show G[i]? = some (p, Row 37 (scrL (noWrap s) m o t)) by rw [← hG]; exact set_at HF.out)
  have HM2 := hid (show Mem w0 w1 G by rw [← hG]; exact HN.out)
  clear HM HF HN hG
  have HM := HM2
  have HF := HF2
  clear HM2 HF2
  go_wp2_with (first | ((with_reducible refine wl_id ?_); refine m_load HM.out rfl rfl rfl (List.mem_of_getElem? HF.out) rfl (by first | exact Tryd.underlying3 | exact Tryd.underlying4 | exact Tryd.underlying9 | exact Tryd.underlying28 | exact Tryd.underlying35) rfl ?_; simp only [Act.put, List.setIfInBounds_toArray, List.set_cons_zero, List.set_cons_succ]) | ((with_reducible refine wl_id ?_); refine m_store HM.out rfl rfl rfl i HF.out rfl rfl rfl (Nat.le_of_ble_eq_true rfl) (by kernel_rfl) ?_; intro w1 hM; simp only [Act.put, List.setIfInBounds_toArray, List.set_cons_zero, List.set_cons_succ]; have HN := hid hM; clear hM))
  first | go_end0 | (refine bodyPost_ret (results_none rfl _ _ _) rfl ?_)
  exact ⟨rfl, by have h := HN.out; rw [← HG.out, List.set_set] at h; exact h⟩
set_option maxRecDepth 100000 in
set_option maxHeartbeats 1000000 in
theorem to_69 {s : Scr} {m o t : Value} {p i : Nat} {n k : Int} {w0 w : World} {F : List Ent} (hM : Mem w0 w F) (hF : F[i]? = some (p, Row 37 (scrL s m o t))) (hb : Bd s) (hn : -1 ≤ n ∧ n ≤ 9999) (hk : -1 ≤ k ∧ k ≤ 9999) (hT : ∀ w' l, Mem w0 w' (F.set i (p, Row 37 l)) → RdB w' t s.tabs) (hl : (s.tabs.length : Int) = s.mc) :
    Calls Tryd.prog 50 #[.pointer (some ⟨p, 0, none⟩), .int .i64 69, .int .i64 n, .int .i64 k] w fun e w' => e = .returned (.tuple #[]) ∧ Mem w0 w' (F.set i (p, Row 37 (scrL (toS s 69 (max 1 n) (max 1 k)) m o t))) := by
  have HM := hid hM
  have HF := hid hF
  have HBd := hid hb.noWrap
  have hcn : 0 ≤ (noWrap s).cur.col ∧ (noWrap s).cur.col < s.mc := hb.col
  have hr := hb.row
  have hcc := hb.col
  have ht := hb.top
  have hq := hb.bot
  have hmr := hb.mr
  have hmc := hb.mc
  obtain ⟨N, hN⟩ : ∃ N, max 1 n = N := ⟨_, rfl⟩
  obtain ⟨K, hK⟩ : ∃ K, max 1 k = K := ⟨_, rfl⟩
  have hNb : 1 ≤ N ∧ N ≤ 9999 := by omega
  have hKb : 1 ≤ K ∧ K ≤ 9999 := by omega
  rw [hN, hK]
  have hX : toS s 69 N K = atCol (atRow (noWrap s) (downR (noWrap s) N)) 0 := rfl
  rw [hX]
  clear hX hM hF hb hT hl
  go_enter Tryd.func50, Tryd.ntmps50
  go_upto_region 1 with (fail)
  (refine m_quiet HM.out (by kernel_rfl) (by kernel_rfl) (fun hne => ?_); (repeat (first | (go_big_quiet_want; refine mq_load rfl rfl (List.mem_of_getElem? HF.out) rfl (by first | exact Tryd.underlying3 | exact Tryd.underlying4 | exact Tryd.underlying9 | exact Tryd.underlying28 | exact Tryd.underlying35) rfl ?_; simp only [Act.put, List.setIfInBounds_toArray, List.set_cons_zero, List.set_cons_succ]; go_big_quiet_on) | go_big_quiet_step (fail))); refine wpQuiet_nil ?_; intro wq hM; clear HM hne; have HM := hid hM; clear hM)
  go_upto_region 3 with (first | ((with_reducible refine wl_id ?_); refine m_store HM.out rfl rfl rfl i HF.out rfl rfl rfl (Nat.le_of_ble_eq_true rfl) (by kernel_rfl) ?_; intro w1 hM; simp only [Act.put, List.setIfInBounds_toArray, List.set_cons_zero, List.set_cons_succ]; have HN := hid hM; clear hM))
  obtain ⟨G, hG⟩ : ∃ G, F.set i (p, Row 37 (scrL (noWrap s) m o t)) = G := ⟨_, rfl⟩
  have HG := hid hG
  have HF2 := hid (show G[i]? = some (p, Row 37 (scrL (noWrap s) m o t)) by rw [← hG]; exact set_at HF.out)
  have HM2 := hid (show Mem w0 w1 G by rw [← hG]; exact HN.out)
  clear HM HF HN hG
  have HM := HM2
  have HF := HF2
  clear HM2 HF2
  go_wp2_with (first | (go_at_call 81; fail))
  refine (down_any HM.out HF.out HBd.out hNb).mono ?_
  rintro e w2 ⟨rfl, hM⟩
  obtain ⟨G2, hG2⟩ : ∃ G2, G.set i (p, Row 37 (scrL (atRow (noWrap s) (downR (noWrap s) N)) m o t)) = G2 := ⟨_, rfl⟩
  rw [hG2] at hM
  have HG2 := hid hG2
  have HF2 := hid (show G2[i]? = some (p, Row 37 (scrL (atRow (noWrap s) (downR (noWrap s) N)) m o t)) by rw [← hG2]; exact set_at HF.out)
  clear HM HF hG2
  have HM := hid hM
  have HF := HF2
  clear hM HF2
  go_wp2_with (first | ((with_reducible refine wl_id ?_); refine m_load HM.out rfl rfl rfl (List.mem_of_getElem? HF.out) rfl (by first | exact Tryd.underlying3 | exact Tryd.underlying4 | exact Tryd.underlying9 | exact Tryd.underlying28 | exact Tryd.underlying35) rfl ?_; simp only [Act.put, List.setIfInBounds_toArray, List.set_cons_zero, List.set_cons_succ]) | ((with_reducible refine wl_id ?_); refine m_store HM.out rfl rfl rfl i HF.out rfl rfl rfl (Nat.le_of_ble_eq_true rfl) (by kernel_rfl) ?_; intro w1 hM; simp only [Act.put, List.setIfInBounds_toArray, List.set_cons_zero, List.set_cons_succ]; have HN := hid hM; clear hM))
  first | go_end0 | (refine bodyPost_ret (results_none rfl _ _ _) rfl ?_)
  exact ⟨rfl, by have h := HN.out; rw [← HG2.out, ← HG.out, List.set_set, List.set_set] at h; exact h⟩
set_option maxRecDepth 100000 in
set_option maxHeartbeats 1000000 in
theorem to_70 {s : Scr} {m o t : Value} {p i : Nat} {n k : Int} {w0 w : World} {F : List Ent} (hM : Mem w0 w F) (hF : F[i]? = some (p, Row 37 (scrL s m o t))) (hb : Bd s) (hn : -1 ≤ n ∧ n ≤ 9999) (hk : -1 ≤ k ∧ k ≤ 9999) (hT : ∀ w' l, Mem w0 w' (F.set i (p, Row 37 l)) → RdB w' t s.tabs) (hl : (s.tabs.length : Int) = s.mc) :
    Calls Tryd.prog 50 #[.pointer (some ⟨p, 0, none⟩), .int .i64 70, .int .i64 n, .int .i64 k] w fun e w' => e = .returned (.tuple #[]) ∧ Mem w0 w' (F.set i (p, Row 37 (scrL (toS s 70 (max 1 n) (max 1 k)) m o t))) := by
  have HM := hid hM
  have HF := hid hF
  have HBd := hid hb.noWrap
  have hcn : 0 ≤ (noWrap s).cur.col ∧ (noWrap s).cur.col < s.mc := hb.col
  have hr := hb.row
  have hcc := hb.col
  have ht := hb.top
  have hq := hb.bot
  have hmr := hb.mr
  have hmc := hb.mc
  obtain ⟨N, hN⟩ : ∃ N, max 1 n = N := ⟨_, rfl⟩
  obtain ⟨K, hK⟩ : ∃ K, max 1 k = K := ⟨_, rfl⟩
  have hNb : 1 ≤ N ∧ N ≤ 9999 := by omega
  have hKb : 1 ≤ K ∧ K ≤ 9999 := by omega
  rw [hN, hK]
  have hX : toS s 70 N K = atCol (atRow (noWrap s) (upR (noWrap s) N)) 0 := rfl
  rw [hX]
  clear hX hM hF hb hT hl
  go_enter Tryd.func50, Tryd.ntmps50
  go_upto_region 1 with (fail)
  (refine m_quiet HM.out (by kernel_rfl) (by kernel_rfl) (fun hne => ?_); (repeat (first | (go_big_quiet_want; refine mq_load rfl rfl (List.mem_of_getElem? HF.out) rfl (by first | exact Tryd.underlying3 | exact Tryd.underlying4 | exact Tryd.underlying9 | exact Tryd.underlying28 | exact Tryd.underlying35) rfl ?_; simp only [Act.put, List.setIfInBounds_toArray, List.set_cons_zero, List.set_cons_succ]; go_big_quiet_on) | go_big_quiet_step (fail))); refine wpQuiet_nil ?_; intro wq hM; clear HM hne; have HM := hid hM; clear hM)
  go_upto_region 3 with (first | ((with_reducible refine wl_id ?_); refine m_store HM.out rfl rfl rfl i HF.out rfl rfl rfl (Nat.le_of_ble_eq_true rfl) (by kernel_rfl) ?_; intro w1 hM; simp only [Act.put, List.setIfInBounds_toArray, List.set_cons_zero, List.set_cons_succ]; have HN := hid hM; clear hM))
  obtain ⟨G, hG⟩ : ∃ G, F.set i (p, Row 37 (scrL (noWrap s) m o t)) = G := ⟨_, rfl⟩
  have HG := hid hG
  have HF2 := hid (show G[i]? = some (p, Row 37 (scrL (noWrap s) m o t)) by rw [← hG]; exact set_at HF.out)
  have HM2 := hid (show Mem w0 w1 G by rw [← hG]; exact HN.out)
  clear HM HF HN hG
  have HM := HM2
  have HF := HF2
  clear HM2 HF2
  go_wp2_with (first | (go_at_call 80; fail))
  refine (up_any HM.out HF.out HBd.out hNb).mono ?_
  rintro e w2 ⟨rfl, hM⟩
  obtain ⟨G2, hG2⟩ : ∃ G2, G.set i (p, Row 37 (scrL (atRow (noWrap s) (upR (noWrap s) N)) m o t)) = G2 := ⟨_, rfl⟩
  rw [hG2] at hM
  have HG2 := hid hG2
  have HF2 := hid (show G2[i]? = some (p, Row 37 (scrL (atRow (noWrap s) (upR (noWrap s) N)) m o t)) by rw [← hG2]; exact set_at HF.out)
  clear HM HF hG2
  have HM := hid hM
  have HF := HF2
  clear hM HF2
  go_wp2_with (first | ((with_reducible refine wl_id ?_); refine m_load HM.out rfl rfl rfl (List.mem_of_getElem? HF.out) rfl (by first | exact Tryd.underlying3 | exact Tryd.underlying4 | exact Tryd.underlying9 | exact Tryd.underlying28 | exact Tryd.underlying35) rfl ?_; simp only [Act.put, List.setIfInBounds_toArray, List.set_cons_zero, List.set_cons_succ]) | ((with_reducible refine wl_id ?_); refine m_store HM.out rfl rfl rfl i HF.out rfl rfl rfl (Nat.le_of_ble_eq_true rfl) (by kernel_rfl) ?_; intro w1 hM; simp only [Act.put, List.setIfInBounds_toArray, List.set_cons_zero, List.set_cons_succ]; have HN := hid hM; clear hM))
  first | go_end0 | (refine bodyPost_ret (results_none rfl _ _ _) rfl ?_)
  exact ⟨rfl, by have h := HN.out; rw [← HG2.out, ← HG.out, List.set_set, List.set_set] at h; exact h⟩
set_option maxRecDepth 100000 in
set_option maxHeartbeats 1000000 in
theorem to_71 {s : Scr} {m o t : Value} {p i : Nat} {n k : Int} {w0 w : World} {F : List Ent} (hM : Mem w0 w F) (hF : F[i]? = some (p, Row 37 (scrL s m o t))) (hb : Bd s) (hn : -1 ≤ n ∧ n ≤ 9999) (hk : -1 ≤ k ∧ k ≤ 9999) (hT : ∀ w' l, Mem w0 w' (F.set i (p, Row 37 l)) → RdB w' t s.tabs) (hl : (s.tabs.length : Int) = s.mc) :
    Calls Tryd.prog 50 #[.pointer (some ⟨p, 0, none⟩), .int .i64 71, .int .i64 n, .int .i64 k] w fun e w' => e = .returned (.tuple #[]) ∧ Mem w0 w' (F.set i (p, Row 37 (scrL (toS s 71 (max 1 n) (max 1 k)) m o t))) := by
  have HM := hid hM
  have HF := hid hF
  have HBd := hid hb.noWrap
  have hcn : 0 ≤ (noWrap s).cur.col ∧ (noWrap s).cur.col < s.mc := hb.col
  have hr := hb.row
  have hcc := hb.col
  have ht := hb.top
  have hq := hb.bot
  have hmr := hb.mr
  have hmc := hb.mc
  obtain ⟨N, hN⟩ : ∃ N, max 1 n = N := ⟨_, rfl⟩
  obtain ⟨K, hK⟩ : ∃ K, max 1 k = K := ⟨_, rfl⟩
  have hNb : 1 ≤ N ∧ N ≤ 9999 := by omega
  have hKb : 1 ≤ K ∧ K ≤ 9999 := by omega
  rw [hN, hK]
  have hX : toS s 71 N K = atCol (noWrap s) (min s.mc N - 1) := rfl
  rw [hX]
  clear hX hM hF hb hT hl
  go_enter Tryd.func50, Tryd.ntmps50
  go_upto_region 1 with (fail)
  (refine m_quiet HM.out (by kernel_rfl) (by kernel_rfl) (fun hne => ?_); (repeat (first | (go_big_quiet_want; refine mq_load rfl rfl (List.mem_of_getElem? HF.out) rfl (by first | exact Tryd.underlying3 | exact Tryd.underlying4 | exact Tryd.underlying9 | exact Tryd.underlying28 | exact Tryd.underlying35) rfl ?_; simp only [Act.put, List.setIfInBounds_toArray, List.set_cons_zero, List.set_cons_succ]; go_big_quiet_on) | go_big_quiet_step (fail))); refine wpQuiet_nil ?_; intro wq hM; clear HM hne; have HM := hid hM; clear hM)
  go_upto_region 3 with (first | ((with_reducible refine wl_id ?_); refine m_store HM.out rfl rfl rfl i HF.out rfl rfl rfl (Nat.le_of_ble_eq_true rfl) (by kernel_rfl) ?_; intro w1 hM; simp only [Act.put, List.setIfInBounds_toArray, List.set_cons_zero, List.set_cons_succ]; have HN := hid hM; clear hM))
  obtain ⟨G, hG⟩ : ∃ G, F.set i (p, Row 37 (scrL (noWrap s) m o t)) = G := ⟨_, rfl⟩
  have HG := hid hG
  have HF2 := hid (show G[i]? = some (p, Row 37 (scrL (noWrap s) m o t)) by rw [← hG]; exact set_at HF.out)
  have HM2 := hid (show Mem w0 w1 G by rw [← hG]; exact HN.out)
  clear HM HF HN hG
  have HM := HM2
  have HF := HF2
  clear HM2 HF2
  go_wp2_with (first | ((with_reducible refine wl_id ?_); refine m_load HM.out rfl rfl rfl (List.mem_of_getElem? HF.out) rfl (by first | exact Tryd.underlying3 | exact Tryd.underlying4 | exact Tryd.underlying9 | exact Tryd.underlying28 | exact Tryd.underlying35) rfl ?_; simp only [Act.put, List.setIfInBounds_toArray, List.set_cons_zero, List.set_cons_succ]) | ((with_reducible refine wl_id ?_); refine m_store HM.out rfl rfl rfl i HF.out rfl rfl rfl (Nat.le_of_ble_eq_true rfl) (by kernel_rfl) ?_; intro w1 hM; simp only [Act.put, List.setIfInBounds_toArray, List.set_cons_zero, List.set_cons_succ]; have HN := hid hM; clear hM))
  first | go_end0 | (refine bodyPost_ret (results_none rfl _ _ _) rfl ?_)
  exact ⟨rfl, by have h := HN.out; rw [← HG.out, List.set_set] at h; exact h⟩
set_option maxRecDepth 100000 in
set_option maxHeartbeats 1000000 in
theorem to_100 {s : Scr} {m o t : Value} {p i : Nat} {n k : Int} {w0 w : World} {F : List Ent} (hM : Mem w0 w F) (hF : F[i]? = some (p, Row 37 (scrL s m o t))) (hb : Bd s) (hn : -1 ≤ n ∧ n ≤ 9999) (hk : -1 ≤ k ∧ k ≤ 9999) (hT : ∀ w' l, Mem w0 w' (F.set i (p, Row 37 l)) → RdB w' t s.tabs) (hl : (s.tabs.length : Int) = s.mc) :
    Calls Tryd.prog 50 #[.pointer (some ⟨p, 0, none⟩), .int .i64 100, .int .i64 n, .int .i64 k] w fun e w' => e = .returned (.tuple #[]) ∧ Mem w0 w' (F.set i (p, Row 37 (scrL (toS s 100 (max 1 n) (max 1 k)) m o t))) := by
  have HM := hid hM
  have HF := hid hF
  have HBd := hid hb.noWrap
  have hcn : 0 ≤ (noWrap s).cur.col ∧ (noWrap s).cur.col < s.mc := hb.col
  have hr := hb.row
  have hcc := hb.col
  have ht := hb.top
  have hq := hb.bot
  have hmr := hb.mr
  have hmc := hb.mc
  obtain ⟨N, hN⟩ : ∃ N, max 1 n = N := ⟨_, rfl⟩
  obtain ⟨K, hK⟩ : ∃ K, max 1 k = K := ⟨_, rfl⟩
  have hNb : 1 ≤ N ∧ N ≤ 9999 := by omega
  have hKb : 1 ≤ K ∧ K ≤ 9999 := by omega
  rw [hN, hK]
  have hX : toS s 100 N K = atRow (noWrap s) (lineR (noWrap s) N) := rfl
  rw [hX]
  clear hX hM hF hb hT hl
  go_enter Tryd.func50, Tryd.ntmps50
  go_upto_region 1 with (fail)
  (refine m_quiet HM.out (by kernel_rfl) (by kernel_rfl) (fun hne => ?_); (repeat (first | (go_big_quiet_want; refine mq_load rfl rfl (List.mem_of_getElem? HF.out) rfl (by first | exact Tryd.underlying3 | exact Tryd.underlying4 | exact Tryd.underlying9 | exact Tryd.underlying28 | exact Tryd.underlying35) rfl ?_; simp only [Act.put, List.setIfInBounds_toArray, List.set_cons_zero, List.set_cons_succ]; go_big_quiet_on) | go_big_quiet_step (fail))); refine wpQuiet_nil ?_; intro wq hM; clear HM hne; have HM := hid hM; clear hM)
  go_upto_region 3 with (first | ((with_reducible refine wl_id ?_); refine m_store HM.out rfl rfl rfl i HF.out rfl rfl rfl (Nat.le_of_ble_eq_true rfl) (by kernel_rfl) ?_; intro w1 hM; simp only [Act.put, List.setIfInBounds_toArray, List.set_cons_zero, List.set_cons_succ]; have HN := hid hM; clear hM))
  obtain ⟨G, hG⟩ : ∃ G, F.set i (p, Row 37 (scrL (noWrap s) m o t)) = G := ⟨_, rfl⟩
  have HG := hid hG
  have HF2 := hid (show G[i]? = some (p, Row 37 (scrL (noWrap s) m o t)) by rw [← hG]; exact set_at HF.out)
  have HM2 := hid (show Mem w0 w1 G by rw [← hG]; exact HN.out)
  clear HM HF HN hG
  have HM := HM2
  have HF := HF2
  clear HM2 HF2
  go_wp2_with (first | (go_at_call 82; fail))
  refine (curLine_any HM.out HF.out HBd.out hNb).mono ?_
  rintro e w2 ⟨rfl, hM⟩
  have HN := hid hM
  clear hM HM
  go_wp2
  first | go_end0 | (refine bodyPost_ret (results_none rfl _ _ _) rfl ?_)
  exact ⟨rfl, by have h := HN.out; rw [← HG.out, List.set_set] at h; exact h⟩
set_option maxRecDepth 100000 in
set_option maxHeartbeats 1000000 in
theorem to_72 {s : Scr} {m o t : Value} {p i : Nat} {n k : Int} {w0 w : World} {F : List Ent} (hM : Mem w0 w F) (hF : F[i]? = some (p, Row 37 (scrL s m o t))) (hb : Bd s) (hn : -1 ≤ n ∧ n ≤ 9999) (hk : -1 ≤ k ∧ k ≤ 9999) (hT : ∀ w' l, Mem w0 w' (F.set i (p, Row 37 l)) → RdB w' t s.tabs) (hl : (s.tabs.length : Int) = s.mc) :
    Calls Tryd.prog 50 #[.pointer (some ⟨p, 0, none⟩), .int .i64 72, .int .i64 n, .int .i64 k] w fun e w' => e = .returned (.tuple #[]) ∧ Mem w0 w' (F.set i (p, Row 37 (scrL (toS s 72 (max 1 n) (max 1 k)) m o t))) := by
  have HM := hid hM
  have HF := hid hF
  have HBd := hid hb.noWrap
  have hcn : 0 ≤ (noWrap s).cur.col ∧ (noWrap s).cur.col < s.mc := hb.col
  have hr := hb.row
  have hcc := hb.col
  have ht := hb.top
  have hq := hb.bot
  have hmr := hb.mr
  have hmc := hb.mc
  obtain ⟨N, hN⟩ : ∃ N, max 1 n = N := ⟨_, rfl⟩
  obtain ⟨K, hK⟩ : ∃ K, max 1 k = K := ⟨_, rfl⟩
  have hNb : 1 ≤ N ∧ N ≤ 9999 := by omega
  have hKb : 1 ≤ K ∧ K ≤ 9999 := by omega
  rw [hN, hK]
  have hX : toS s 72 N K = atCol (atRow (noWrap s) (lineR (noWrap s) N)) (min s.mc K - 1) := rfl
  rw [hX]
  clear hX hM hF hb hT hl
  go_enter Tryd.func50, Tryd.ntmps50
  go_upto_region 1 with (fail)
  (refine m_quiet HM.out (by kernel_rfl) (by kernel_rfl) (fun hne => ?_); (repeat (first | (go_big_quiet_want; refine mq_load rfl rfl (List.mem_of_getElem? HF.out) rfl (by first | exact Tryd.underlying3 | exact Tryd.underlying4 | exact Tryd.underlying9 | exact Tryd.underlying28 | exact Tryd.underlying35) rfl ?_; simp only [Act.put, List.setIfInBounds_toArray, List.set_cons_zero, List.set_cons_succ]; go_big_quiet_on) | go_big_quiet_step (fail))); refine wpQuiet_nil ?_; intro wq hM; clear HM hne; have HM := hid hM; clear hM)
  go_upto_region 3 with (first | ((with_reducible refine wl_id ?_); refine m_store HM.out rfl rfl rfl i HF.out rfl rfl rfl (Nat.le_of_ble_eq_true rfl) (by kernel_rfl) ?_; intro w1 hM; simp only [Act.put, List.setIfInBounds_toArray, List.set_cons_zero, List.set_cons_succ]; have HN := hid hM; clear hM))
  obtain ⟨G, hG⟩ : ∃ G, F.set i (p, Row 37 (scrL (noWrap s) m o t)) = G := ⟨_, rfl⟩
  have HG := hid hG
  have HF2 := hid (show G[i]? = some (p, Row 37 (scrL (noWrap s) m o t)) by rw [← hG]; exact set_at HF.out)
  have HM2 := hid (show Mem w0 w1 G by rw [← hG]; exact HN.out)
  clear HM HF HN hG
  have HM := HM2
  have HF := HF2
  clear HM2 HF2
  go_wp2_with (first | (go_at_call 82; fail))
  refine (curLine_any HM.out HF.out HBd.out hNb).mono ?_
  rintro e w2 ⟨rfl, hM⟩
  obtain ⟨G2, hG2⟩ : ∃ G2, G.set i (p, Row 37 (scrL (atRow (noWrap s) (lineR (noWrap s) N)) m o t)) = G2 := ⟨_, rfl⟩
  rw [hG2] at hM
  have HG2 := hid hG2
  have HF2 := hid (show G2[i]? = some (p, Row 37 (scrL (atRow (noWrap s) (lineR (noWrap s) N)) m o t)) by rw [← hG2]; exact set_at HF.out)
  clear HM HF hG2
  have HM := hid hM
  have HF := HF2
  clear hM HF2
  go_wp2_with (first | ((with_reducible refine wl_id ?_); refine m_load HM.out rfl rfl rfl (List.mem_of_getElem? HF.out) rfl (by first | exact Tryd.underlying3 | exact Tryd.underlying4 | exact Tryd.underlying9 | exact Tryd.underlying28 | exact Tryd.underlying35) rfl ?_; simp only [Act.put, List.setIfInBounds_toArray, List.set_cons_zero, List.set_cons_succ]) | ((with_reducible refine wl_id ?_); refine m_store HM.out rfl rfl rfl i HF.out rfl rfl rfl (Nat.le_of_ble_eq_true rfl) (by kernel_rfl) ?_; intro w1 hM; simp only [Act.put, List.setIfInBounds_toArray, List.set_cons_zero, List.set_cons_succ]; have HN := hid hM; clear hM))
  first | go_end0 | (refine bodyPost_ret (results_none rfl _ _ _) rfl ?_)
  exact ⟨rfl, by have h := HN.out; rw [← HG2.out, ← HG.out, List.set_set, List.set_set] at h; exact h⟩
set_option maxRecDepth 100000 in
set_option maxHeartbeats 1000000 in
theorem to_73 {s : Scr} {m o t : Value} {p i : Nat} {n k : Int} {w0 w : World} {F : List Ent} (hM : Mem w0 w F) (hF : F[i]? = some (p, Row 37 (scrL s m o t))) (hb : Bd s) (hn : -1 ≤ n ∧ n ≤ 9999) (hk : -1 ≤ k ∧ k ≤ 9999) (hT : ∀ w' l, Mem w0 w' (F.set i (p, Row 37 l)) → RdB w' t s.tabs) (hl : (s.tabs.length : Int) = s.mc) :
    Calls Tryd.prog 50 #[.pointer (some ⟨p, 0, none⟩), .int .i64 73, .int .i64 n, .int .i64 k] w fun e w' => e = .returned (.tuple #[]) ∧ Mem w0 w' (F.set i (p, Row 37 (scrL (toS s 73 (max 1 n) (max 1 k)) m o t))) := by
  have HM := hid hM
  have HF := hid hF
  have HBd := hid hb.noWrap
  have HTB := hid hT
  have HL := hid hl
  have hcn : 0 ≤ (noWrap s).cur.col ∧ (noWrap s).cur.col < s.mc := hb.col
  have hr := hb.row
  have hcc := hb.col
  have ht := hb.top
  have hq := hb.bot
  have hmr := hb.mr
  have hmc := hb.mc
  obtain ⟨N, hN⟩ : ∃ N, max 1 n = N := ⟨_, rfl⟩
  obtain ⟨K, hK⟩ : ∃ K, max 1 k = K := ⟨_, rfl⟩
  have hNb : 1 ≤ N ∧ N ≤ 9999 := by omega
  have hKb : 1 ≤ K ∧ K ≤ 9999 := by omega
  rw [hN, hK]
  have hX : toS s 73 N K = atCol (noWrap s) (nextT s.tabs s.cur.col N) := rfl
  rw [hX]
  clear hX hM hF hb hT hl
  go_enter Tryd.func50, Tryd.ntmps50
  go_upto_region 1 with (fail)
  (refine m_quiet HM.out (by kernel_rfl) (by kernel_rfl) (fun hne => ?_); (repeat (first | (go_big_quiet_want; refine mq_load rfl rfl (List.mem_of_getElem? HF.out) rfl (by first | exact Tryd.underlying3 | exact Tryd.underlying4 | exact Tryd.underlying9 | exact Tryd.underlying28 | exact Tryd.underlying35) rfl ?_; simp only [Act.put, List.setIfInBounds_toArray, List.set_cons_zero, List.set_cons_succ]; go_big_quiet_on) | go_big_quiet_step (fail))); refine wpQuiet_nil ?_; intro wq hM; clear HM hne; have HM := hid hM; clear hM)
  go_upto_region 3 with (first | ((with_reducible refine wl_id ?_); refine m_store HM.out rfl rfl rfl i HF.out rfl rfl rfl (Nat.le_of_ble_eq_true rfl) (by kernel_rfl) ?_; intro w1 hM; simp only [Act.put, List.setIfInBounds_toArray, List.set_cons_zero, List.set_cons_succ]; have HN := hid hM; clear hM))
  obtain ⟨G, hG⟩ : ∃ G, F.set i (p, Row 37 (scrL (noWrap s) m o t)) = G := ⟨_, rfl⟩
  have HG := hid hG
  have HF2 := hid (show G[i]? = some (p, Row 37 (scrL (noWrap s) m o t)) by rw [← hG]; exact set_at HF.out)
  have HM2 := hid (show Mem w0 w1 G by rw [← hG]; exact HN.out)
  clear HM HF HN hG
  have HM := HM2
  have HF := HF2
  clear HM2 HF2
  go_upto_region 26 with (fail)
  (refine m_tail 13 HM.out (by kernel_rfl) (by kernel_rfl) ?_; intro wd hM; clear HM; have HM := hid hM; clear hM; simp only [List.take_succ_cons, List.take_zero, List.drop_succ_cons, List.drop_zero])
  have HTD := hid (show RdB wd t s.tabs by have h := HM.out; rw [← HG.out] at h; exact HTB.out _ _ h)
  have HL2 := hid (show s.tabs.length ≤ 1000 ∧ s.cur.col < (s.tabs.length : Int) by have := HL.out; omega)
  repeat (first | (refine ws_want rfl (fun K hK => ?_); refine ms_load HM.out rfl rfl (List.mem_of_getElem? HF.out) rfl (by first | exact Tryd.underlying3 | exact Tryd.underlying4 | exact Tryd.underlying9 | exact Tryd.underlying28 | exact Tryd.underlying35) rfl ?_; simp only [Act.put, List.setIfInBounds_toArray, List.set_cons_zero, List.set_cons_succ]; refine hK _ ?_; clear hK K) | still_step | still_call (stillR (go_is (R := nextT s.tabs s.cur.col N) rfl t wd (by decide) HTD.out HL2.out.1 hcc.1 HL2.out.2 (by omega) hNb.2)))
  refine wpStill_nil ?_
  go_wp2_with (first | ((with_reducible refine wl_id ?_); refine m_load HM.out rfl rfl rfl (List.mem_of_getElem? HF.out) rfl (by first | exact Tryd.underlying3 | exact Tryd.underlying4 | exact Tryd.underlying9 | exact Tryd.underlying28 | exact Tryd.underlying35) rfl ?_; simp only [Act.put, List.setIfInBounds_toArray, List.set_cons_zero, List.set_cons_succ]) | ((with_reducible refine wl_id ?_); refine m_store HM.out rfl rfl rfl i HF.out rfl rfl rfl (Nat.le_of_ble_eq_true rfl) (by kernel_rfl) ?_; intro w1 hM; simp only [Act.put, List.setIfInBounds_toArray, List.set_cons_zero, List.set_cons_succ]; have HN := hid hM; clear hM))
  first | go_end0 | (refine bodyPost_ret (results_none rfl _ _ _) rfl ?_)
  exact ⟨rfl, by have h := HN.out; rw [← HG.out, List.set_set] at h; exact h⟩
set_option maxRecDepth 100000 in
set_option maxHeartbeats 1000000 in
theorem to_90 {s : Scr} {m o t : Value} {p i : Nat} {n k : Int} {w0 w : World} {F : List Ent} (hM : Mem w0 w F) (hF : F[i]? = some (p, Row 37 (scrL s m o t))) (hb : Bd s) (hn : -1 ≤ n ∧ n ≤ 9999) (hk : -1 ≤ k ∧ k ≤ 9999) (hT : ∀ w' l, Mem w0 w' (F.set i (p, Row 37 l)) → RdB w' t s.tabs) (hl : (s.tabs.length : Int) = s.mc) :
    Calls Tryd.prog 50 #[.pointer (some ⟨p, 0, none⟩), .int .i64 90, .int .i64 n, .int .i64 k] w fun e w' => e = .returned (.tuple #[]) ∧ Mem w0 w' (F.set i (p, Row 37 (scrL (toS s 90 (max 1 n) (max 1 k)) m o t))) := by
  have HM := hid hM
  have HF := hid hF
  have HBd := hid hb.noWrap
  have HTB := hid hT
  have HL := hid hl
  have hcn : 0 ≤ (noWrap s).cur.col ∧ (noWrap s).cur.col < s.mc := hb.col
  have hr := hb.row
  have hcc := hb.col
  have ht := hb.top
  have hq := hb.bot
  have hmr := hb.mr
  have hmc := hb.mc
  obtain ⟨N, hN⟩ : ∃ N, max 1 n = N := ⟨_, rfl⟩
  obtain ⟨K, hK⟩ : ∃ K, max 1 k = K := ⟨_, rfl⟩
  have hNb : 1 ≤ N ∧ N ≤ 9999 := by omega
  have hKb : 1 ≤ K ∧ K ≤ 9999 := by omega
  rw [hN, hK]
  have hX : toS s 90 N K = atCol (noWrap s) (backT s.tabs s.cur.col N) := rfl
  rw [hX]
  clear hX hM hF hb hT hl
  go_enter Tryd.func50, Tryd.ntmps50
  go_upto_region 1 with (fail)
  (refine m_quiet HM.out (by kernel_rfl) (by kernel_rfl) (fun hne => ?_); (repeat (first | (go_big_quiet_want; refine mq_load rfl rfl (List.mem_of_getElem? HF.out) rfl (by first | exact Tryd.underlying3 | exact Tryd.underlying4 | exact Tryd.underlying9 | exact Tryd.underlying28 | exact Tryd.underlying35) rfl ?_; simp only [Act.put, List.setIfInBounds_toArray, List.set_cons_zero, List.set_cons_succ]; go_big_quiet_on) | go_big_quiet_step (fail))); refine wpQuiet_nil ?_; intro wq hM; clear HM hne; have HM := hid hM; clear hM)
  go_upto_region 3 with (first | ((with_reducible refine wl_id ?_); refine m_store HM.out rfl rfl rfl i HF.out rfl rfl rfl (Nat.le_of_ble_eq_true rfl) (by kernel_rfl) ?_; intro w1 hM; simp only [Act.put, List.setIfInBounds_toArray, List.set_cons_zero, List.set_cons_succ]; have HN := hid hM; clear hM))
  obtain ⟨G, hG⟩ : ∃ G, F.set i (p, Row 37 (scrL (noWrap s) m o t)) = G := ⟨_, rfl⟩
  have HG := hid hG
  have HF2 := hid (show G[i]? = some (p, Row 37 (scrL (noWrap s) m o t)) by rw [← hG]; exact set_at HF.out)
  have HM2 := hid (show Mem w0 w1 G by rw [← hG]; exact HN.out)
  clear HM HF HN hG
  have HM := HM2
  have HF := HF2
  clear HM2 HF2
  go_upto_region 28 with (fail)
  (refine m_tail 13 HM.out (by kernel_rfl) (by kernel_rfl) ?_; intro wd hM; clear HM; have HM := hid hM; clear hM; simp only [List.take_succ_cons, List.take_zero, List.drop_succ_cons, List.drop_zero])
  have HTD := hid (show RdB wd t s.tabs by have h := HM.out; rw [← HG.out] at h; exact HTB.out _ _ h)
  have HL2 := hid (show s.tabs.length ≤ 1000 ∧ s.cur.col < (s.tabs.length : Int) by have := HL.out; omega)
  repeat (first | (refine ws_want rfl (fun K hK => ?_); refine ms_load HM.out rfl rfl (List.mem_of_getElem? HF.out) rfl (by first | exact Tryd.underlying3 | exact Tryd.underlying4 | exact Tryd.underlying9 | exact Tryd.underlying28 | exact Tryd.underlying35) rfl ?_; simp only [Act.put, List.setIfInBounds_toArray, List.set_cons_zero, List.set_cons_succ]; refine hK _ ?_; clear hK K) | still_step | still_call (stillR (go_is (R := backT s.tabs s.cur.col N) rfl t wd (by decide) HTD.out HL2.out.1 hcc.1 HL2.out.2 (by omega) hNb.2)))
  refine wpStill_nil ?_
  go_wp2_with (first | ((with_reducible refine wl_id ?_); refine m_load HM.out rfl rfl rfl (List.mem_of_getElem? HF.out) rfl (by first | exact Tryd.underlying3 | exact Tryd.underlying4 | exact Tryd.underlying9 | exact Tryd.underlying28 | exact Tryd.underlying35) rfl ?_; simp only [Act.put, List.setIfInBounds_toArray, List.set_cons_zero, List.set_cons_succ]) | ((with_reducible refine wl_id ?_); refine m_store HM.out rfl rfl rfl i HF.out rfl rfl rfl (Nat.le_of_ble_eq_true rfl) (by kernel_rfl) ?_; intro w1 hM; simp only [Act.put, List.setIfInBounds_toArray, List.set_cons_zero, List.set_cons_succ]; have HN := hid hM; clear hM))
  first | go_end0 | (refine bodyPost_ret (results_none rfl _ _ _) rfl ?_)
  exact ⟨rfl, by have h := HN.out; rw [← HG.out, List.set_set] at h; exact h⟩
end Go.Proofs.YtbjckahaalbpaaaDoor
