/- Where the cursor goes, on a screen of one's own. -/
import Derived.Test.YtbjckahaalbpaaaDoorSame
set_option linter.unusedVariables false
set_option linter.unusedSimpArgs false
namespace Go.Proofs.YtbjckahaalbpaaaDoor
open Go Go.RowKit

def atRow (s : Scr) (r : Int) : Scr := { s with cur := { s.cur with row := r } }
def atCol (s : Scr) (c : Int) : Scr := { s with cur := { s.cur with col := c } }
def noWrap (s : Scr) : Scr := { s with cur := { s.cur with wrap := false } }
theorem set_at {F : List Ent} {i : Nat} {x y : Ent} (h : F[i]? = some x) : (F.set i y)[i]? = some y := by
  have := (List.getElem?_eq_some_iff.1 h).1
  simp [this]
def upR (s : Scr) (n : Int) : Int := max (if s.top ≤ s.cur.row then s.top else 0) (s.cur.row - n)
def downR (s : Scr) (n : Int) : Int := min (if s.cur.row ≤ s.bot then s.bot else s.mr - 1) (s.cur.row + n)
def lineR (s : Scr) (n : Int) : Int := if s.cur.org = true then min s.bot (s.top + n - 1) else min s.mr n - 1
/-- the bounds that the walks want -/
structure Bd (s : Scr) : Prop where
  mr : 1 ≤ s.mr ∧ s.mr ≤ 40
  mc : 1 ≤ s.mc ∧ s.mc ≤ 40
  row : 0 ≤ s.cur.row ∧ s.cur.row < s.mr
  col : 0 ≤ s.cur.col ∧ s.cur.col < s.mc
  top : 0 ≤ s.top ∧ s.top ≤ s.bot
  bot : s.bot < s.mr
set_option maxRecDepth 100000 in
set_option maxHeartbeats 1000000 in
theorem up_any {s : Scr} {m o t : Value} {p i : Nat} {n : Int} {w0 w : World} {F : List Ent} (hM : Mem w0 w F) (hF : F[i]? = some (p, Row 37 (scrL s m o t))) (hb : Bd s) (hn : 1 ≤ n ∧ n ≤ 9999) :
    Calls Tryd.prog 80 #[.pointer (some ⟨p, 0, none⟩), .int .i64 n] w fun e w' => e = .returned (.tuple #[]) ∧ Mem w0 w' (F.set i (p, Row 37 (scrL (atRow s (upR s n)) m o t))) := by
  have HM := hid hM
  have HF := hid hF
  have hr := hb.row
  have ht := hb.top
  have hq := hb.bot
  have hmr := hb.mr
  clear hM hF hb
  by_cases hc : s.top ≤ s.cur.row
  · have HR := hid (show upR s n = max s.top (s.cur.row - n) by rw [upR, if_pos hc])
    go_enter Tryd.func80, Tryd.ntmps80
    go_upto_region 1 with (fail)
    (refine m_quiet HM.out (by kernel_rfl) (by kernel_rfl) (fun hne => ?_); (repeat (first | (go_big_quiet_want; refine mq_load rfl rfl (List.mem_of_getElem? HF.out) rfl (by first | exact Tryd.underlying3 | exact Tryd.underlying4 | exact Tryd.underlying9 | exact Tryd.underlying28 | exact Tryd.underlying35) rfl ?_; simp only [Act.put, List.setIfInBounds_toArray, List.set_cons_zero, List.set_cons_succ]; go_big_quiet_on) | go_big_quiet_step (fail))); refine wpQuiet_nil ?_; intro wq hM; clear HM hne; have HM := hid hM; clear hM)
    go_wp2_with (first | ((with_reducible refine wl_id ?_); refine m_load HM.out rfl rfl rfl (List.mem_of_getElem? HF.out) rfl (by first | exact Tryd.underlying3 | exact Tryd.underlying4 | exact Tryd.underlying9 | exact Tryd.underlying28 | exact Tryd.underlying35) rfl ?_; simp only [Act.put, List.setIfInBounds_toArray, List.set_cons_zero, List.set_cons_succ]) | ((with_reducible refine wl_id ?_); refine m_store HM.out rfl rfl rfl i HF.out rfl rfl rfl (Nat.le_of_ble_eq_true rfl) (by kernel_rfl) ?_; intro w1 hM; simp only [Act.put, List.setIfInBounds_toArray, List.set_cons_zero, List.set_cons_succ]; have HN := hid hM; clear hM))
    go_end0
    exact ⟨rfl, by rw [HR.out]; exact HN.out⟩
  · have HR := hid (show upR s n = max 0 (s.cur.row - n) by rw [upR, if_neg hc])
    have hc2 : s.cur.row < s.top := by omega
    go_enter Tryd.func80, Tryd.ntmps80
    go_upto_region 1 with (fail)
    (refine m_quiet HM.out (by kernel_rfl) (by kernel_rfl) (fun hne => ?_); (repeat (first | (go_big_quiet_want; refine mq_load rfl rfl (List.mem_of_getElem? HF.out) rfl (by first | exact Tryd.underlying3 | exact Tryd.underlying4 | exact Tryd.underlying9 | exact Tryd.underlying28 | exact Tryd.underlying35) rfl ?_; simp only [Act.put, List.setIfInBounds_toArray, List.set_cons_zero, List.set_cons_succ]; go_big_quiet_on) | go_big_quiet_step (fail))); refine wpQuiet_nil ?_; intro wq hM; clear HM hne; have HM := hid hM; clear hM)
    go_wp2_with (first | ((with_reducible refine wl_id ?_); refine m_load HM.out rfl rfl rfl (List.mem_of_getElem? HF.out) rfl (by first | exact Tryd.underlying3 | exact Tryd.underlying4 | exact Tryd.underlying9 | exact Tryd.underlying28 | exact Tryd.underlying35) rfl ?_; simp only [Act.put, List.setIfInBounds_toArray, List.set_cons_zero, List.set_cons_succ]) | ((with_reducible refine wl_id ?_); refine m_store HM.out rfl rfl rfl i HF.out rfl rfl rfl (Nat.le_of_ble_eq_true rfl) (by kernel_rfl) ?_; intro w1 hM; simp only [Act.put, List.setIfInBounds_toArray, List.set_cons_zero, List.set_cons_succ]; have HN := hid hM; clear hM))
    go_end0
    exact ⟨rfl, by rw [HR.out]; exact HN.out⟩
set_option maxRecDepth 100000 in
set_option maxHeartbeats 1000000 in
theorem down_any {s : Scr} {m o t : Value} {p i : Nat} {n : Int} {w0 w : World} {F : List Ent} (hM : Mem w0 w F) (hF : F[i]? = some (p, Row 37 (scrL s m o t))) (hb : Bd s) (hn : 1 ≤ n ∧ n ≤ 9999) :
    Calls Tryd.prog 81 #[.pointer (some ⟨p, 0, none⟩), .int .i64 n] w fun e w' => e = .returned (.tuple #[]) ∧ Mem w0 w' (F.set i (p, Row 37 (scrL (atRow s (downR s n)) m o t))) := by
  have HM := hid hM
  have HF := hid hF
  have hr := hb.row
  have ht := hb.top
  have hq := hb.bot
  have hmr := hb.mr
  clear hM hF hb
  by_cases hc : s.cur.row ≤ s.bot
  · have HR := hid (show downR s n = min s.bot (s.cur.row + n) by rw [downR, if_pos hc])
    go_enter Tryd.func81, Tryd.ntmps81
    go_upto_region 1 with (first | ((with_reducible refine wl_id ?_); refine m_load HM.out rfl rfl rfl (List.mem_of_getElem? HF.out) rfl (by first | exact Tryd.underlying3 | exact Tryd.underlying4 | exact Tryd.underlying9 | exact Tryd.underlying28 | exact Tryd.underlying35) rfl ?_; simp only [Act.put, List.setIfInBounds_toArray, List.set_cons_zero, List.set_cons_succ]) | fail)
    (refine m_quiet HM.out (by kernel_rfl) (by kernel_rfl) (fun hne => ?_); (repeat (first | (go_big_quiet_want; refine mq_load rfl rfl (List.mem_of_getElem? HF.out) rfl (by first | exact Tryd.underlying3 | exact Tryd.underlying4 | exact Tryd.underlying9 | exact Tryd.underlying28 | exact Tryd.underlying35) rfl ?_; simp only [Act.put, List.setIfInBounds_toArray, List.set_cons_zero, List.set_cons_succ]; go_big_quiet_on) | go_big_quiet_step (fail))); refine wpQuiet_nil ?_; intro wq hM; clear HM hne; have HM := hid hM; clear hM)
    go_wp2_with (first | ((with_reducible refine wl_id ?_); refine m_load HM.out rfl rfl rfl (List.mem_of_getElem? HF.out) rfl (by first | exact Tryd.underlying3 | exact Tryd.underlying4 | exact Tryd.underlying9 | exact Tryd.underlying28 | exact Tryd.underlying35) rfl ?_; simp only [Act.put, List.setIfInBounds_toArray, List.set_cons_zero, List.set_cons_succ]) | ((with_reducible refine wl_id ?_); refine m_store HM.out rfl rfl rfl i HF.out rfl rfl rfl (Nat.le_of_ble_eq_true rfl) (by kernel_rfl) ?_; intro w1 hM; simp only [Act.put, List.setIfInBounds_toArray, List.set_cons_zero, List.set_cons_succ]; have HN := hid hM; clear hM))
    go_end0
    exact ⟨rfl, by rw [HR.out]; exact HN.out⟩
  · have HR := hid (show downR s n = min (s.mr - 1) (s.cur.row + n) by rw [downR, if_neg hc])
    have hc2 : s.bot < s.cur.row := by omega
    go_enter Tryd.func81, Tryd.ntmps81
    go_upto_region 1 with (first | ((with_reducible refine wl_id ?_); refine m_load HM.out rfl rfl rfl (List.mem_of_getElem? HF.out) rfl (by first | exact Tryd.underlying3 | exact Tryd.underlying4 | exact Tryd.underlying9 | exact Tryd.underlying28 | exact Tryd.underlying35) rfl ?_; simp only [Act.put, List.setIfInBounds_toArray, List.set_cons_zero, List.set_cons_succ]) | fail)
    (refine m_quiet HM.out (by kernel_rfl) (by kernel_rfl) (fun hne => ?_); (repeat (first | (go_big_quiet_want; refine mq_load rfl rfl (List.mem_of_getElem? HF.out) rfl (by first | exact Tryd.underlying3 | exact Tryd.underlying4 | exact Tryd.underlying9 | exact Tryd.underlying28 | exact Tryd.underlying35) rfl ?_; simp only [Act.put, List.setIfInBounds_toArray, List.set_cons_zero, List.set_cons_succ]; go_big_quiet_on) | go_big_quiet_step (fail))); refine wpQuiet_nil ?_; intro wq hM; clear HM hne; have HM := hid hM; clear hM)
    go_wp2_with (first | ((with_reducible refine wl_id ?_); refine m_load HM.out rfl rfl rfl (List.mem_of_getElem? HF.out) rfl (by first | exact Tryd.underlying3 | exact Tryd.underlying4 | exact Tryd.underlying9 | exact Tryd.underlying28 | exact Tryd.underlying35) rfl ?_; simp only [Act.put, List.setIfInBounds_toArray, List.set_cons_zero, List.set_cons_succ]) | ((with_reducible refine wl_id ?_); refine m_store HM.out rfl rfl rfl i HF.out rfl rfl rfl (Nat.le_of_ble_eq_true rfl) (by kernel_rfl) ?_; intro w1 hM; simp only [Act.put, List.setIfInBounds_toArray, List.set_cons_zero, List.set_cons_succ]; have HN := hid hM; clear hM))
    go_end0
    exact ⟨rfl, by rw [HR.out]; exact HN.out⟩
set_option maxRecDepth 100000 in
set_option maxHeartbeats 1000000 in
theorem curLine_any {s : Scr} {m o t : Value} {p i : Nat} {n : Int} {w0 w : World} {F : List Ent} (hM : Mem w0 w F) (hF : F[i]? = some (p, Row 37 (scrL s m o t))) (hb : Bd s) (hn : 1 ≤ n ∧ n ≤ 9999) :
    Calls Tryd.prog 82 #[.pointer (some ⟨p, 0, none⟩), .int .i64 n] w fun e w' => e = .returned (.tuple #[]) ∧ Mem w0 w' (F.set i (p, Row 37 (scrL (atRow s (lineR s n)) m o t))) := by
  have HM := hid hM
  have HF := hid hF
  have hr := hb.row
  have ht := hb.top
  have hq := hb.bot
  have hmr := hb.mr
  obtain ⟨c, hc⟩ : ∃ c, s.cur.org = c := ⟨_, rfl⟩
  have HC := hid hc
  have HF1 : Hid ((scrL s m o t)[16]? = some (.bool c)) := hid (by rw [← hc]; rfl)
  clear hM hF hb hc
  cases c with
  | true =>
    have HR := hid (show lineR s n = min s.bot (s.top + n - 1) by rw [lineR, if_pos HC.out])
    go_enter Tryd.func82, Tryd.ntmps82
    go_upto_region 1 with (first | (refine m_load HM.out rfl rfl rfl (List.mem_of_getElem? HF.out) HF1.out (by first | exact Tryd.underlying3 | exact Tryd.underlying4 | exact Tryd.underlying9 | exact Tryd.underlying28 | exact Tryd.underlying35) rfl ?_; simp only [Act.put, List.setIfInBounds_toArray, List.set_cons_zero, List.set_cons_succ]) | fail)
    have e1 : IntKind.i64.wrap (s.top + n) = s.top + n := IntWalk.i64_in _ (by omega)
    have e2 : IntKind.i64.wrap (s.top + n - 1) = s.top + n - 1 := IntWalk.i64_in _ (by omega)
    (refine m_tail 16 HM.out (by kernel_rfl) (by kernel_rfl) ?_; intro wd hM; clear HM; have HM := hid hM; clear hM; simp only [List.take_succ_cons, List.take_zero, List.drop_succ_cons, List.drop_zero])
    repeat (first | (refine ws_want rfl (fun K hK => ?_); refine ms_load HM.out rfl rfl (List.mem_of_getElem? HF.out) rfl (by first | exact Tryd.underlying3 | exact Tryd.underlying4 | exact Tryd.underlying9 | exact Tryd.underlying28 | exact Tryd.underlying35) rfl ?_; simp only [Act.put, List.setIfInBounds_toArray, List.set_cons_zero, List.set_cons_succ]; refine hK _ ?_; clear hK K) | still_step)
    refine wpStill_nil ?_
    go_wp2_with (first | ((with_reducible refine wl_id ?_); refine m_load HM.out rfl rfl rfl (List.mem_of_getElem? HF.out) rfl (by first | exact Tryd.underlying3 | exact Tryd.underlying4 | exact Tryd.underlying9 | exact Tryd.underlying28 | exact Tryd.underlying35) rfl ?_; simp only [Act.put, List.setIfInBounds_toArray, List.set_cons_zero, List.set_cons_succ]) | ((with_reducible refine wl_id ?_); refine m_store HM.out rfl rfl rfl i HF.out rfl rfl rfl (Nat.le_of_ble_eq_true rfl) (by kernel_rfl) ?_; intro w1 hM; simp only [Act.put, List.setIfInBounds_toArray, List.set_cons_zero, List.set_cons_succ]; have HN := hid hM; clear hM))
    (refine bodyPost_ret (results_none rfl _ _ _) rfl ?_)
    exact ⟨rfl, by rw [HR.out]; exact HN.out⟩
  | false =>
    have HR := hid (show lineR s n = min s.mr n - 1 by rw [lineR, if_neg (by rw [HC.out]; simp)])
    go_enter Tryd.func82, Tryd.ntmps82
    go_wp2_with (first | (refine m_load HM.out rfl rfl rfl (List.mem_of_getElem? HF.out) HF1.out (by first | exact Tryd.underlying3 | exact Tryd.underlying4 | exact Tryd.underlying9 | exact Tryd.underlying28 | exact Tryd.underlying35) rfl ?_; simp only [Act.put, List.setIfInBounds_toArray, List.set_cons_zero, List.set_cons_succ]) | ((with_reducible refine wl_id ?_); refine m_load HM.out rfl rfl rfl (List.mem_of_getElem? HF.out) rfl (by first | exact Tryd.underlying3 | exact Tryd.underlying4 | exact Tryd.underlying9 | exact Tryd.underlying28 | exact Tryd.underlying35) rfl ?_; simp only [Act.put, List.setIfInBounds_toArray, List.set_cons_zero, List.set_cons_succ]) | ((with_reducible refine wl_id ?_); refine m_store HM.out rfl rfl rfl i HF.out rfl rfl rfl (Nat.le_of_ble_eq_true rfl) (by kernel_rfl) ?_; intro w1 hM; simp only [Act.put, List.setIfInBounds_toArray, List.set_cons_zero, List.set_cons_succ]; have HN := hid hM; clear hM))
    go_end0
    exact ⟨rfl, by rw [HR.out]; exact HN.out⟩
end Go.Proofs.YtbjckahaalbpaaaDoor
