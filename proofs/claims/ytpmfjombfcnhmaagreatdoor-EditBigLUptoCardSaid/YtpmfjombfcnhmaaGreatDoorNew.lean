/- A new screen, by the reference. -/
import Derived.Test.YtpmfjombfcnhmaaGreatDoorHeavy
import Derived.Test.YtpmfjombfcnhmaaGreatDoorWLast
set_option linter.unusedVariables false
set_option linter.unusedSimpArgs false
set_option linter.unnecessarySimpa false
namespace Go.Proofs.YtpmfjombfcnhmaaGreatDoor
open Go Go.RowKit Go.Proofs.YtpmfjombfcnhmaaGreatDoorW.PrintLast

def blankL (n : Nat) (a : Attr) : List Cell := tab n fun _ => bare a
@[simp] theorem blankL_length (n : Nat) (a : Attr) : (blankL n a).length = n := by simp [blankL]
theorem blankL_succ (n : Nat) (a : Attr) : blankL (n + 1) a = blankL n a ++ [bare a] := tab_succ _ _
theorem ownC_pushB {w : World} {base : Nat} {v : Value} {i : Nat} {a : Attr} (h : w.ownsRow base 73 6 v (i + 1) (encs (blankL i a) ++ encs [bare a])) : OwnC w base v (blankL (i + 1) a) := by
  unfold OwnC
  rw [blankL_length, blankL_succ, encs_append]; exact h
def attrL (a : Attr) : List Value := [.int .i64 a.fg, .int .i64 a.bg, .int .i64 a.fl]
set_option maxRecDepth 100000 in
set_option maxHeartbeats 2000000 in
theorem blank_any (n : Nat) (a : Attr) (w : World) (hn : n ≤ 1048576) : Calls Tryz.prog 80 #[.int .i64 n, .agg (attrL a).toArray] w fun e w' => ∃ v', e = .returned v' ∧ OwnC w' w.heap.size v' (blankL n a) ∧ Below w.heap.size w w' := by
  have HX := hid (Mem.start w)
  go_enter Tryz.func80, Tryz.ntmps80
  go_upto_region 0 with (fail)
  refine wp_region_lit ?_
  refine m_boxB HX.out rfl rfl rfl ?_
  intro b w1 hb hB1 hM
  simp only [Act.put, List.setIfInBounds_toArray, List.set_cons_zero, List.set_cons_succ]
  have hlt : b < w1.heap.size := hM.lt (.head _)
  have HLT := hid hlt
  have HM := hid hM
  have HZ1 := hid hB1.size
  clear hM HX hlt hb hB1
  go_wp2_with (first | ((with_reducible refine wl_id ?_); refine m_load HM.out rfl rfl rfl (by first | exact .head _ | exact .tail _ (.head _) | exact .tail _ (.tail _ (.head _)) | exact .tail _ (.tail _ (.tail _ (.head _))) | exact .tail _ (.tail _ (.tail _ (.tail _ (.head _)))) | exact .tail _ (.tail _ (.tail _ (.tail _ (.tail _ (.head _))))) | exact .tail _ (.tail _ (.tail _ (.tail _ (.tail _ (.tail _ (.head _)))))) | exact .tail _ (.tail _ (.tail _ (.tail _ (.tail _ (.tail _ (.tail _ (.head _)))))))) rfl (by first | exact Tryz.underlying3 | exact Tryz.underlying4 | exact Tryz.underlying9 | exact Tryz.underlying29 | exact Tryz.underlying36) rfl ?_; simp only [Act.put, List.setIfInBounds_toArray, List.set_cons_zero, List.set_cons_succ]))
  go_loopg [5, 6] n (fun k v5 v6 wr => ∃ i : Nat, v6 = .int .i64 i ∧ i ≤ n ∧ k + i = n ∧ Hid (OwnC wr w1.heap.size v5 (blankL i a)) ∧ Hid (Mem w wr [(b, Row 33 (attrL a))]) ∧ Hid (w1.heap.size ≤ wr.heap.size))
  case atStart => exact ⟨0, rfl, by omega, by omega, hid (OwnC.nil _ _), HM, hid (Nat.le_refl _)⟩
  case round =>
    obtain ⟨i, rfl, hi, hk, HO, HMr, HZ⟩ := hrel
    clear HM
    have HM := HMr
    clear HMr
    by_cases hlt : i < n
    · have hlt2 : (i : Int) < (n : Int) := by omega
      go_wp2_with (first | ((with_reducible refine wl_id ?_); refine m_loadS HM.out rfl rfl rfl (by first | exact .head _ | exact .tail _ (.head _) | exact .tail _ (.tail _ (.head _)) | exact .tail _ (.tail _ (.tail _ (.head _))) | exact .tail _ (.tail _ (.tail _ (.tail _ (.head _)))) | exact .tail _ (.tail _ (.tail _ (.tail _ (.tail _ (.head _))))) | exact .tail _ (.tail _ (.tail _ (.tail _ (.tail _ (.tail _ (.head _)))))) | exact .tail _ (.tail _ (.tail _ (.tail _ (.tail _ (.tail _ (.tail _ (.head _)))))))) (attrL a) rfl Tryz.underlying33 rfl (by kernel_rfl) ?_; simp only [Act.put, List.setIfInBounds_toArray, List.set_cons_zero, List.set_cons_succ]) | (go_at_call 79; fail))
      refine (rblank_any a wr).mono ?_
      rintro e w2 ⟨rfl, hB⟩
      have HM2 := hid (HM.out.call hB)
      have HO2 := hid (HO.out.below hB)
      have HZ2 := hid (Nat.le_trans HZ.out hB.size)
      have HT := hid (show (blankL i a).length = i by simp)
      clear hB HM HO HZ
      go_wp2_with (at_builtin; go_must (refine wp_app rfl _ _ 29 rfl w1.heap.size 73 zcV 6 56 Tryz.underlying29 infoC rfl (by decide) _ i (encs (blankL i a)) rfl ((ownC_shape HO2.out HT.out).alloc _) (some ⟨w2.heap.size, 0, none⟩) 1 1 (encs [bare a]) rfl (by simp) (fun _ => ⟨_, _, rfl, cell_six (c := bare a)⟩) (encs_one _) (by omega) (by omega) (Nat.le_trans HZ2.out (by simp)) ?_); intro v' w3 hown hg; have HO3 := hid hown; have HG := hid hg; clear hown hg)
      go_roundg (gk - 1)
      case measure => omega
      case rel =>
        have hrow : ∀ k, (Value.ownBlock _) = some k → w.heap.size ≤ k ∧ ∀ x ∈ ([(b, Row 33 (attrL a))] : List Ent), x.1 ≠ k := fun k hk => by
          have h1 := (HO2.out.lt k hk).1
          have := HLT.out
          have := HZ1.out
          refine ⟨by omega, fun x hx => ?_⟩
          simp only [List.mem_singleton] at hx
          subst hx
          show b ≠ k
          omega
        exact ⟨i + 1, by go_num, by omega, by omega, hid (ownC_pushB HO3.out), hid ((HM2.out.call (alloc_below (Below.refl _ _) _)).other HG.out hrow), hid (by have h1 := HG.out.size; have h2 := HZ2.out; simp at h1; omega)⟩
    · have hlt2 : ¬ (i : Int) < (n : Int) := by omega
      obtain rfl : i = n := by omega
      go_wp2
      go_ret
      exact ⟨_, rfl, OwnC.lower HO.out HZ1.out, HM.out.below⟩
def plainA : Attr := ⟨-1, -1, 0⟩
def fC : Cur := ⟨0, 0, false, plainA, 0, 0, 0, false⟩
set_option maxRecDepth 100000 in
theorem plain_any (w : World) : Calls Tryz.prog 91 #[] w fun e w' => e = .returned (.agg (attrL plainA).toArray) ∧ Below w.heap.size w w' := by
  go_enter Tryz.func91, Tryz.ntmps91
  go_wp2
  exact bodyPost_ret (v := .agg (attrL plainA).toArray) (by simp [results, Tryz.results91, go_sem]; rfl) rfl ⟨rfl, alloc_below (Below.refl _ _) _⟩
theorem info_cur : (Tryz.prog.info? 35).map (·.zero) = some (some (.agg (curL zC).toArray)) := by kernel_rfl
theorem build_fC (w : World) : (Instr.build 35 #[(3, .agg (attrL plainA).toArray)]).run Tryz.prog w = .ok (.agg (curL fC).toArray) w := by kernel_rfl
set_option maxRecDepth 100000 in
theorem first_any (w : World) : Calls Tryz.prog 92 #[] w fun e w' => e = .returned (.agg (curL fC).toArray) ∧ Below w.heap.size w w' := by
  have HX := hid (Mem.start w)
  go_enter Tryz.func92, Tryz.ntmps92
  go_upto_region 0 with (fail)
  refine wp_region_lit ?_
  refine m_alloc HX.out rfl rfl info_cur ?_
  intro b w1 hM
  simp only [Act.put, List.setIfInBounds_toArray, List.set_cons_zero, List.set_cons_succ]
  have HM := hid (show Mem w w1 [(b, Row 35 (curL zC))] from hM)
  clear hM HX
  go_wp2_with (go_at_call 91; fail)
  refine (plain_any _).mono ?_
  rintro e w2 ⟨rfl, hB⟩
  have HM2 := hid (HM.out.call hB)
  clear hB HM
  have HM := HM2
  clear HM2
  go_wp2_with (first | ((with_reducible refine wl_id ?_); refine m_build rfl rfl #[(3, .agg (attrL plainA).toArray)] rfl (build_fC _) ?_; simp only [Act.put, List.setIfInBounds_toArray, List.set_cons_zero, List.set_cons_succ]) | ((with_reducible refine wl_id ?_); refine m_storeA HM.out rfl rfl rfl 0 rfl rfl rfl (by kernel_rfl) rfl ?_; intro wx hM; simp only [Act.put, List.setIfInBounds_toArray, List.set_cons_zero, List.set_cons_succ]; simp only [List.set_cons_succ, List.set_cons_zero] at hM; clear HM; have HM := hid hM; clear hM))
  exact bodyPost_ret (m_results1 HM.out Tryz.results92 _ rfl (.head _) (curL fC) rfl Tryz.underlying35 rfl (by kernel_rfl)) rfl ⟨rfl, HM.out.below⟩
theorem info_grid : (Tryz.prog.info? 31).map (·.zero) = some (some (.agg (gridL 0 0 (.slice none 0 0)).toArray)) := by kernel_rfl
theorem build_grid (r c : Int) (A : Option Addr) (n k : Nat) (w : World) : (Instr.build 31 #[(0, .int .i64 r), (1, .int .i64 c), (2, .slice A n k)]).run Tryz.prog w = .ok (.agg (gridL r c (.slice A n k)).toArray) w := by kernel_rfl
theorem mul_le40 {r c : Nat} (hr : r ≤ 40) (hc : c ≤ 40) : r * c ≤ 1600 := Nat.le_trans (Nat.mul_le_mul hr hc) (by decide)
set_option maxRecDepth 100000 in
set_option maxHeartbeats 1000000 in
theorem newG_any {r c : Nat} (hr : r ≤ 40) (hc : c ≤ 40) (a : Attr) (w : World) : Calls Tryz.prog 90 #[.int .i64 r, .int .i64 c, .agg (attrL a).toArray] w fun e w' => ∃ v', e = .returned (.agg (gridL r c v').toArray) ∧ OwnC w' w.heap.size v' (blankL (r * c) a) ∧ Below w.heap.size w w' := by
  have hm := mul_le40 hr hc
  have e0 : ((r * c : Nat) : Int) = (r : Int) * c := by push_cast; rfl
  have e1 : IntKind.i64.wrap ((r : Int) * (c : Int)) = (r : Int) * (c : Int) := IntWalk.i64_in _ (by omega)
  clear e0
  have HC := hid (show ((r * c : Nat) : Int) = (r : Int) * c by push_cast; rfl)
  have HX := hid (Mem.start w)
  go_enter Tryz.func90, Tryz.ntmps90
  go_upto_region 0 with (fail)
  refine wp_region_lit ?_
  refine m_boxB HX.out rfl rfl rfl ?_
  intro b w1 hb hB1 hM1
  simp only [Act.put, List.setIfInBounds_toArray, List.set_cons_zero, List.set_cons_succ]
  refine m_alloc hM1 rfl rfl info_grid ?_
  intro b' w2 hM
  simp only [Act.put, List.setIfInBounds_toArray, List.set_cons_zero, List.set_cons_succ]
  have HM := hid (show Mem w w2 [(b', Row 31 (gridL 0 0 (.slice none 0 0))), (b, Row 33 (attrL a))] from hM)
  have HLT := hid (hM.lt (.head _))
  clear hM hM1 HX hb hB1
  go_wp2_with (first | ((with_reducible refine wl_id ?_); refine m_loadS HM.out rfl rfl rfl (by first | exact .head _ | exact .tail _ (.head _) | exact .tail _ (.tail _ (.head _)) | exact .tail _ (.tail _ (.tail _ (.head _))) | exact .tail _ (.tail _ (.tail _ (.tail _ (.head _)))) | exact .tail _ (.tail _ (.tail _ (.tail _ (.tail _ (.head _))))) | exact .tail _ (.tail _ (.tail _ (.tail _ (.tail _ (.tail _ (.head _)))))) | exact .tail _ (.tail _ (.tail _ (.tail _ (.tail _ (.tail _ (.tail _ (.head _)))))))) (attrL a) rfl Tryz.underlying33 rfl (by kernel_rfl) ?_; simp only [Act.put, List.setIfInBounds_toArray, List.set_cons_zero, List.set_cons_succ]) | (go_at_call 80; fail))
  rw [← HC.out]
  refine (blank_any (r * c) a w2 (by omega)).mono ?_
  rintro e w3 ⟨v', rfl, hO, hB⟩
  obtain ⟨A', k', rfl⟩ := hO.slice
  have HO := hid hO
  have HM2 := hid (HM.out.call hB)
  have HB2 := hid HM.out.below
  clear hO hB HM
  have HM := HM2
  clear HM2 e1
  obtain ⟨N, hN⟩ : ∃ N, (blankL (r * c) a).length = N := ⟨_, rfl⟩
  rw [hN] at HO ⊢
  go_wp2_with (first | ((with_reducible refine wl_id ?_); refine m_build rfl rfl #[(0, .int .i64 r), (1, .int .i64 c), (2, .slice A' N k')] rfl (build_grid _ _ _ _ _ _) ?_; simp only [Act.put, List.setIfInBounds_toArray, List.set_cons_zero, List.set_cons_succ]) | ((with_reducible refine wl_id ?_); refine m_storeAG HM.out rfl rfl rfl 0 rfl rfl rfl (by kernel_rfl) rfl ?_; intro wx hM hg; simp only [Act.put, List.setIfInBounds_toArray, List.set_cons_zero, List.set_cons_succ]; simp only [List.set_cons_succ, List.set_cons_zero] at hM; have HM' := hid hM; have HG := hid hg; clear hM hg))
  exact bodyPost_ret (m_results1 HM'.out Tryz.results90 _ rfl (.head _) (gridL r c (.slice A' N k')) rfl Tryz.underlying31 rfl (by kernel_rfl)) rfl ⟨_, rfl, OwnC.lower (own_grown HO.out HG.out HLT.out) HB2.out.size, HM'.out.below⟩
def newScr (r c : Nat) : Scr := ⟨r, c, blankL (r * c) plainA, r, c, blankL (r * c) plainA, false, fC, fC, fC, 0, (r : Int) - 1, wideT [] c, 9, ⟨#[]⟩, 0⟩
theorem build_new (r c : Nat) (A B D : Option Addr) (n k n2 k2 n3 k3 : Nat) (w : World) : (Instr.build 38 #[(0, .agg (gridL r c (.slice A n k)).toArray), (1, .agg (gridL r c (.slice B n2 k2)).toArray), (3, .agg (curL fC).toArray), (4, .agg (curL fC).toArray), (5, .agg (curL fC).toArray), (7, .int .i64 ((r : Int) - 1)), (8, .slice D n3 k3), (9, .int .i64 9)]).run Tryz.prog w = .ok (.agg (scrL (newScr r c) (.slice A n k) (.slice B n2 k2) (.slice D n3 k3)).toArray) w := by kernel_rfl
set_option maxRecDepth 100000 in
set_option maxHeartbeats 4000000 in
theorem newR_any {r c : Nat} (hr : 1 ≤ r ∧ r ≤ 40) (hc : 1 ≤ c ∧ c ≤ 40) (w : World) : Calls Tryz.prog 52 #[.int .i64 r, .int .i64 c] w fun e w' => ∃ m o t, e = .returned (.agg (scrL (newScr r c) m o t).toArray) ∧ OwnScr w' w.heap.size (newScr r c) m o t ∧ Below w.heap.size w w' := by
  have hm := mul_le40 hr.2 hc.2
  have HMUL := hid hm
  have HX := hid (Mem.start w)
  have hr1 : IntKind.i64.wrap ((r : Int) - 1) = (r : Int) - 1 := IntWalk.i64_in _ (by omega)
  go_enter Tryz.func52, Tryz.ntmps52
  go_upto_region 0 with (fail)
  refine wp_region_lit ?_
  refine m_alloc HX.out rfl rfl info_zS ?_
  intro b w1 hM
  simp only [Act.put, List.setIfInBounds_toArray, List.set_cons_zero, List.set_cons_succ]
  have HM := hid (show Mem w w1 [(b, Row 38 zL)] from hM)
  clear hM HX
  go_wp2_with (go_at_call 91; fail)
  refine (plain_any w1).mono ?_
  rintro e w2 ⟨rfl, hB⟩
  have HM2 := hid (HM.out.call hB)
  clear hB HM
  have HM := HM2
  clear HM2
  have HW1 := hid HM.out.below.size
  have HLB2 := hid (HM.out.lt (.head _))
  go_wp2_with (go_at_call 90; fail)
  refine (newG_any hr.2 hc.2 plainA w2).mono ?_
  rintro e w3 ⟨v', rfl, hO, hB⟩
  obtain ⟨A1, k1, rfl⟩ := hO.slice
  have HZ3 := hid hB.size
  have HO1 := hid hO
  have HM2 := hid (HM.out.call hB)
  clear hO hB HM
  have HM := HM2
  clear HM2
  obtain ⟨N, hN⟩ : ∃ N, (blankL (r * c) plainA).length = N := ⟨_, rfl⟩
  have HN := hid hN
  rw [hN] at HO1 ⊢
  have HLB := hid (HM.out.lt (.head _))
  clear hN hm
  go_upto_region 2 with (first | ((with_reducible refine wl_id ?_); refine m_allocB HM.out rfl rfl info_grid ?_; intro b' wy hb' hBy hM; simp only [Act.put, List.setIfInBounds_toArray, List.set_cons_zero, List.set_cons_succ]; have HMy := hid hM; have HLT' := hid hb'; have HBy := hid hBy; clear hM hb' hBy) | ((with_reducible refine wl_id ?_); refine m_storeAG HMy.out rfl rfl rfl 0 rfl rfl rfl (by kernel_rfl) rfl ?_; intro wx hM hg; simp only [Act.put, List.setIfInBounds_toArray, List.set_cons_zero, List.set_cons_succ]; simp only [List.set_cons_succ, List.set_cons_zero] at hM; have HMx := hid hM; have HGx := hid hg; clear hM hg))
  have HOx := hid (show OwnC wx w2.heap.size (.slice A1 N k1) (blankL (r * c) plainA) from (HO1.out.below HBy.out).kept HGx.out (own_lt HO1.out HLT'.out))
  have HZx := hid (Nat.le_trans HBy.out.size HGx.out.size)
  clear HM HMy HLT' HBy HGx
  have HM := HMx
  clear HMx
  refine start_ (n := 12) (S := fun W => Mem w W [(b', Row 31 (gridL r c (.slice A1 N k1))), (b, Row 38 zL)]) (ds := [11]) #[false, false, false, false, false, false, false, false, false, false, false, false] (by kernel_rfl) rfl rfl HM.out.drew (fun hS => ?_)
  refine take_ (i := 0) (N := some 10) (a' := ?_) (v := .agg (gridL r c (.slice A1 N k1)).toArray) #[true, false, false, false, false, false, false, false, false, false, false, false] rfl rfl (by kernel_rfl) (by first | exact fun _ _ _ h => h | exact fun _ _ _ h => hP _ _ _ _ _ h) (y_loadS rfl rfl rfl (by first | exact .head _ | exact .tail _ (.head _) | exact .tail _ (.tail _ (.head _)) | exact .tail _ (.tail _ (.tail _ (.head _))) | exact .tail _ (.tail _ (.tail _ (.tail _ (.head _)))) | exact .tail _ (.tail _ (.tail _ (.tail _ (.tail _ (.head _))))) | exact .tail _ (.tail _ (.tail _ (.tail _ (.tail _ (.tail _ (.head _)))))) | exact .tail _ (.tail _ (.tail _ (.tail _ (.tail _ (.tail _ (.tail _ (.head _)))))))) rfl Tryz.underlying31 rfl (by kernel_rfl)) hS ?_ ?_
  rotate_left
  · simp only [Act.put, List.setIfInBounds_toArray, List.set_cons_zero, List.set_cons_succ]
    rfl
  refine take_ (i := 1) (N := some 11) (a' := ?_) (v := .agg (gridL r c (.slice A1 N k1)).toArray) #[true, true, false, false, false, false, false, false, false, false, false, false] rfl rfl (by kernel_rfl) (by first | exact fun _ _ _ h => h | exact fun _ _ _ h => hP _ _ _ _ _ h) (y_loadS rfl rfl rfl (by first | exact .head _ | exact .tail _ (.head _) | exact .tail _ (.tail _ (.head _)) | exact .tail _ (.tail _ (.tail _ (.head _))) | exact .tail _ (.tail _ (.tail _ (.tail _ (.head _)))) | exact .tail _ (.tail _ (.tail _ (.tail _ (.tail _ (.head _))))) | exact .tail _ (.tail _ (.tail _ (.tail _ (.tail _ (.tail _ (.head _)))))) | exact .tail _ (.tail _ (.tail _ (.tail _ (.tail _ (.tail _ (.tail _ (.head _)))))))) rfl Tryz.underlying31 rfl (by kernel_rfl)) hS ?_ ?_
  rotate_left
  · simp only [Act.put, List.setIfInBounds_toArray, List.set_cons_zero, List.set_cons_succ]
    rfl
  refine take_ (i := 6) (N := some 16) (a' := ?_) (v := .int .i64 r) #[true, true, false, false, false, false, true, false, false, false, false, false] rfl rfl (by kernel_rfl) (by first | exact fun _ _ _ h => h | exact fun _ _ _ h => hP _ _ _ _ _ h) (Or.inl ⟨by rfl, fun w' _ => by go_simp⟩) hS ?_ ?_
  rotate_left
  · simp only [Act.put, List.setIfInBounds_toArray, List.set_cons_zero, List.set_cons_succ]
    rfl
  refine take_ (i := 7) (N := some 17) (a' := ?_) (v := .int .i64 ((r : Int) - 1)) #[true, true, false, false, false, false, true, true, false, false, false, false] rfl rfl (by kernel_rfl) (by first | exact fun _ _ _ h => h | exact fun _ _ _ h => hP _ _ _ _ _ h) (Or.inl ⟨by rfl, fun w' _ => by go_simp⟩) hS ?_ ?_
  rotate_left
  · simp only [Act.put, List.setIfInBounds_toArray, List.set_cons_zero, List.set_cons_succ]
    rfl
  refine take_ (i := 8) (N := some 18) (a' := ?_) (v := .int .i64 c) #[true, true, false, false, false, false, true, true, true, false, false, false] rfl rfl (by kernel_rfl) (by first | exact fun _ _ _ h => h | exact fun _ _ _ h => hP _ _ _ _ _ h) (Or.inl ⟨by rfl, fun w' _ => by go_simp⟩) hS ?_ ?_
  rotate_left
  · simp only [Act.put, List.setIfInBounds_toArray, List.set_cons_zero, List.set_cons_succ]
    rfl
  refine one_ (i := 2) (N := some 12) #[true, true, true, false, false, false, true, true, true, false, false, false] rfl rfl (by kernel_rfl) (by decide) (fun K hK => ?_)
  refine goes_ Tryz.func28 (by kernel_rfl) rfl #[.agg (gridL r c (.slice A1 N k1)).toArray] (by rfl) rfl rfl (by simp only [List.map_toArray, List.map_cons, List.map_nil]; rfl) ?_
  have hOd : OwnC wx.drew w2.heap.size (.slice A1 N k1) (blankL (r * c) plainA) := HOx.out.below (Below.refl _ _).drew
  refine (show Calls Tryz.prog 28 #[.agg (gridL r c (.slice A1 N k1)).toArray] wx.drew _ from copyG_any r c _ _ _ hOd.rd (by have := HMUL.out; rw [blankL_length]; omega)).mono ?_
  rintro e w4 ⟨v', rfl, hO, hB⟩
  obtain ⟨A2, k2, rfl⟩ := hO.slice
  have HO2 := hid hO
  have HO14 := hid (hOd.below hB)
  refine ⟨_, rfl, hK.out _ _ (hS.call hB) (fun hS2 => ?_)⟩
  have HZ4 := hid hB.size
  clear hK K hS hO hB hOd
  have hS := hS2
  clear hS2
  refine norm_ (a' := ?_) ?_ ?_
  rotate_left
  · simp only [Act.put, List.setIfInBounds_toArray, List.set_cons_zero, List.set_cons_succ]
    rfl
  refine one_ (i := 3) (N := some 13) #[true, true, true, true, false, false, true, true, true, false, false, false] rfl rfl (by kernel_rfl) (by decide) (fun K hK => ?_)
  refine goes_ Tryz.func92 (by kernel_rfl) rfl #[] (by rfl) rfl rfl (by simp) ?_
  refine (first_any w4).mono ?_
  rintro e w5 ⟨rfl, hB⟩
  have HO15 := hid (HO14.out.below hB)
  have HO25 := hid (HO2.out.below hB)
  refine ⟨_, rfl, hK.out _ _ (hS.call hB) (fun hS2 => ?_)⟩
  have HZ5 := hid hB.size
  clear hK K hS hB
  have hS := hS2
  clear hS2
  refine norm_ (a' := ?_) ?_ ?_
  rotate_left
  · simp only [Act.put, List.setIfInBounds_toArray, List.set_cons_zero, List.set_cons_succ]
    rfl
  refine one_ (i := 4) (N := some 14) #[true, true, true, true, true, false, true, true, true, false, false, false] rfl rfl (by kernel_rfl) (by decide) (fun K hK => ?_)
  refine goes_ Tryz.func92 (by kernel_rfl) rfl #[] (by rfl) rfl rfl (by simp) ?_
  refine (first_any w5).mono ?_
  rintro e w6 ⟨rfl, hB⟩
  have HO16 := hid (HO15.out.below hB)
  have HO26 := hid (HO25.out.below hB)
  refine ⟨_, rfl, hK.out _ _ (hS.call hB) (fun hS2 => ?_)⟩
  have HZ6 := hid hB.size
  clear hK K hS hB
  have hS := hS2
  clear hS2
  refine norm_ (a' := ?_) ?_ ?_
  rotate_left
  · simp only [Act.put, List.setIfInBounds_toArray, List.set_cons_zero, List.set_cons_succ]
    rfl
  refine one_ (i := 5) (N := some 15) #[true, true, true, true, true, true, true, true, true, false, false, false] rfl rfl (by kernel_rfl) (by decide) (fun K hK => ?_)
  refine goes_ Tryz.func92 (by kernel_rfl) rfl #[] (by rfl) rfl rfl (by simp) ?_
  refine (first_any w6).mono ?_
  rintro e w7 ⟨rfl, hB⟩
  have HO17 := hid (HO16.out.below hB)
  have HO27 := hid (HO26.out.below hB)
  refine ⟨_, rfl, hK.out _ _ (hS.call hB) (fun hS2 => ?_)⟩
  have HZ7 := hid hB.size
  clear hK K hS hB
  have hS := hS2
  clear hS2
  refine norm_ (a' := ?_) ?_ ?_
  rotate_left
  · simp only [Act.put, List.setIfInBounds_toArray, List.set_cons_zero, List.set_cons_succ]
    rfl
  refine one_ (i := 9) (N := some 19) #[true, true, true, true, true, true, true, true, true, true, false, false] rfl rfl (by kernel_rfl) (by decide) (fun K hK => ?_)
  refine goes_ Tryz.func93 (by kernel_rfl) rfl #[.slice none 0 0, .int .i64 c] (by rfl) rfl rfl (by simp only [List.map_toArray, List.map_cons, List.map_nil]; rfl) ?_
  refine (stops_any [] (.slice none 0 0) c w7 (RdB.nil _) (by decide) hc.2).mono ?_
  rintro e w8 ⟨v', rfl, hO, hB⟩
  obtain ⟨A3, k3, rfl⟩ := ownB_slice hO
  have HO3 := hid hO
  have HO18 := hid (HO17.out.below hB)
  have HO28 := hid (HO27.out.below hB)
  refine ⟨_, rfl, hK.out _ _ (hS.call hB) (fun hS2 => ?_)⟩
  have HZ8 := hid hB.size
  clear hK K hS hB hO
  have hS := hS2
  clear hS2
  refine norm_ (a' := ?_) ?_ ?_
  rotate_left
  · simp only [Act.put, List.setIfInBounds_toArray, List.set_cons_zero, List.set_cons_succ]
    rfl
  refine take_ (i := 10) (N := some 20) (a' := ?_) (v := .agg (scrL (newScr r c) (.slice A1 N k1) (.slice A2 (blankL (r * c) plainA).length k2) (.slice A3 (wideT [] c).length k3)).toArray) #[true, true, true, true, true, true, true, true, true, true, true, false] rfl rfl (by kernel_rfl) (by first | exact fun _ _ _ h => h | exact fun _ _ _ h => hP _ _ _ _ _ h) (y_build rfl rfl #[(0, .agg (gridL r c (.slice A1 N k1)).toArray), (1, .agg (gridL r c (.slice A2 (blankL (r * c) plainA).length k2)).toArray), (3, .agg (curL fC).toArray), (4, .agg (curL fC).toArray), (5, .agg (curL fC).toArray), (7, .int .i64 ((r : Int) - 1)), (8, .slice A3 (wideT [] c).length k3), (9, .int .i64 9)] (by simp only [List.map_toArray, List.map_cons, List.map_nil]; rfl) (fun w' => build_new r c _ _ _ _ _ _ _ _ _ w')) hS ?_ ?_
  rotate_left
  · simp only [Act.put, List.setIfInBounds_toArray, List.set_cons_zero, List.set_cons_succ]
    rfl
  refine last_ (i := 11) (N := none) #[true, true, true, true, true, true, true, true, true, true, true, true] rfl rfl (by kernel_rfl) (by decide) (fun K hK => ?_)
  refine y_storeA hS rfl rfl rfl rfl 1 rfl rfl rfl (by kernel_rfl) rfl (fun w9 hM hg => hK.out _ _ ?_)
  have HM9 := hid (show Mem w w9 [(b', Row 31 (gridL r c (.slice A1 N k1))), (b, Row 38 (scrL (newScr r c) (.slice A1 N k1) (.slice A2 (blankL (r * c) plainA).length k2) (.slice A3 (wideT [] c).length k3)))] from hM)
  have hlb := HLB.out
  have hzx := HZx.out
  have hw1 := HW1.out
  have hz4 := HZ4.out
  have hz3 := HZ3.out
  have hz5 := HZ5.out
  have hz6 := HZ6.out
  have hz7 := HZ7.out
  have hzd : wx.drew.heap.size = wx.heap.size := rfl
  have p1 : OwnC w9 w.heap.size (.slice A1 N k1) (blankL (r * c) plainA) := OwnC.lower (HO18.out.kept hg (.inr fun e => by have := (HO18.out.lt b e).1; have := HLB2.out; omega)) hw1
  have p2 : OwnC w9 w.heap.size (.slice A2 (blankL (r * c) plainA).length k2) (blankL (r * c) plainA) := OwnC.lower (own_grown HO28.out hg (by omega)) (by omega)
  have p3 : OwnB w9 w.heap.size (.slice A3 (wideT [] c).length k3) (wideT [] c) := ownB_lower (w' := w) (own_grown HO3.out hg (by omega)) (by omega)
  have a1 : apartV (.slice A1 N k1) (.slice A2 (blankL (r * c) plainA).length k2) := apart_of HOx.out HO2.out (by omega)
  have a2 : apartV (.slice A1 N k1) (.slice A3 (wideT [] c).length k3) := apart_of HOx.out HO3.out (by omega)
  have a3 : apartV (.slice A2 (blankL (r * c) plainA).length k2) (.slice A3 (wideT [] c).length k3) := apart_of HO2.out HO3.out (by omega)
  have HOS := hid (show OwnScr w9 w.heap.size (newScr r c) (.slice A1 N k1) (.slice A2 (blankL (r * c) plainA).length k2) (.slice A3 (wideT [] c).length k3) from ⟨p1, p2, p3, a1, a2, a3⟩)
  clear hlb hzx hw1 hz3 hz4 hz5 hz6 hz7 hzd p1 p2 p3 a1 a2 a3 hM hg hK K hS
  refine done_ (by kernel_rfl) ?_
  go_wp2
  exact bodyPost_ret (m_results1 HM9.out Tryz.results52 _ rfl (.tail _ (.head _)) (scrL (newScr r c) (.slice A1 N k1) (.slice A2 (blankL (r * c) plainA).length k2) (.slice A3 (wideT [] c).length k3)) rfl Tryz.underlying38 rfl (by kernel_rfl)) rfl ⟨_, _, _, rfl, HOS.out, HM9.out.below⟩
end Go.Proofs.YtpmfjombfcnhmaaGreatDoor
