/- The reference's Home, Save, Restore. -/
import Derived.Test.YtbjckahaalbpaaaDoorKeep
set_option linter.unusedVariables false
set_option linter.unusedSimpArgs false
set_option linter.unnecessarySimpa false
namespace Go.Proofs.YtbjckahaalbpaaaDoor
open Go Go.RowKit Go.Proofs.YtbjckahaalbpaaaDoorW.PrintLast

theorem m_storeMG {P : Program} {ops : Array Oper} {rest : List Oper} {op : Oper} {a : Act} {w0 w : World} {Q : Exit → Act → World → Prop} {F : List Ent} (hM : Mem w0 w F) (hgd : op.guard = none) {ty : TypeId} {x y : Operand} (ho : op.op = .store ty x y) {b o : Nat} (hx : a.eval x = .pointer (some ⟨b, o, none⟩)) (i : Nat) {t : TypeId} {l : List Value} (hF : F[i]? = some (b, Row t l))
    {cs : List Value} (hy : a.eval y = .agg cs.toArray) (l' : List Value) (hl : Mem.putL l o cs = l') (hk : o + cs.length ≤ l.length) (hi : (P.info? ty).map (·.size) = some cs.length) (h1 : cs.all (·.oneCell') = true)
    (h : ∀ w', Mem w0 w' (F.set i (b, Row t l')) → w.grownBy w' (some b) → wpList P ops Q rest (a.put op.dst undef) w') : wpList P ops Q (op :: rest) a w :=
  wpList_store_mid hgd ty x y ho b o cs.toArray hx hy (hM.there (List.mem_of_getElem? hF) (by simpa using hk)) (by simpa using hi) (by rw [List.all_toArray]; exact h1) (h _ (hl ▸ hM.sets hF o cs) (grown_setCells _ _ _))
theorem OwnScr.kept_lt {w w' : World} {base b : Nat} {s : Scr} {m o t : Value} (h : OwnScr w base s m o t) (hg : w.grownBy w' (some b)) (hb : b < base) : OwnScr w' base s m o t := by
  have hne : ∀ (x : Value) (nn : Nat) (ee : TypeId) (q : Nat) (xs : List Value), w.ownsRow base ee q x nn xs → x.ownBlock = none ∨ x.ownBlock ≠ some b := fun x nn ee q xs hx => .inr fun e => by have := (hx.lt b e).1; omega
  exact ⟨h.hm.kept hg (hne _ _ _ _ _ h.hm), h.ho.kept hg (hne _ _ _ _ _ h.ho), h.ht.kept hg (hne _ _ _ _ _ h.ht), h.mo, h.mt, h.ot⟩
theorem OwnScr.low {w w' : World} {base : Nat} {s : Scr} {m o t : Value} (h : OwnScr w base s m o t) (hb : w'.heap.size ≤ base) : OwnScr w w'.heap.size s m o t := ⟨OwnC.lower h.hm hb, OwnC.lower h.ho hb, ownB_lower (w' := w') h.ht hb, h.mo, h.mt, h.ot⟩
def RefPost (w : World) (R : Scr) (e : Ending) (w' : World) : Prop := ∃ m' o' t', e = .returned (.agg (scrL R m' o' t').toArray) ∧ OwnScr w' w.heap.size R m' o' t' ∧ Below w.heap.size w w'
set_option maxRecDepth 100000 in
set_option maxHeartbeats 4000000 in
theorem rsave_any {s : Scr} {m o t : Value} {w : World} (hr : RdScr w s m o t) :
    Calls Tryd.prog 35 #[.agg (scrL s m o t).toArray] w fun e w' => RefPost w (keepS s) e w' := by
  have HC := hid (fun W (hW : Below w.heap.size w W) => copyS_l (hr.below hW))
  have HX := hid (Mem.start w)
  clear hr
  go_enter Tryd.func35, Tryd.ntmps35
  go_upto_region 0 with (fail)
  refine wp_region_lit ?_
  refine m_box HX.out rfl rfl rfl ?_
  intro b w1 hM1
  simp only [Act.put, List.setIfInBounds_toArray, List.set_cons_zero, List.set_cons_succ]
  refine m_alloc hM1 rfl rfl info_zS ?_
  intro b' w2 hM
  simp only [Act.put, List.setIfInBounds_toArray, List.set_cons_zero, List.set_cons_succ]
  clear hM1
  have HM := hid (show Mem w w2 [(b', Row 37 zL), (b, Row 37 (scrL s m o t))] from hM)
  clear hM
  go_wp2_with (first | ((with_reducible refine wl_id ?_); refine m_loadS HM.out rfl rfl rfl (by first | exact .head _ | exact .tail _ (.head _) | exact .tail _ (.tail _ (.head _)) | exact .tail _ (.tail _ (.tail _ (.head _))) | exact .tail _ (.tail _ (.tail _ (.tail _ (.head _)))) | exact .tail _ (.tail _ (.tail _ (.tail _ (.tail _ (.head _))))) | exact .tail _ (.tail _ (.tail _ (.tail _ (.tail _ (.tail _ (.head _)))))) | exact .tail _ (.tail _ (.tail _ (.tail _ (.tail _ (.tail _ (.tail _ (.head _)))))))) (scrL s m o t) rfl Tryd.underlying37 rfl (by kernel_rfl) ?_; simp only [Act.put, List.setIfInBounds_toArray, List.set_cons_zero, List.set_cons_succ]) | (go_at_call 30; fail))
  refine (HC.out _ HM.out.below).mono ?_
  rintro e w3 ⟨m', o', t', rfl, hO, hB⟩
  obtain ⟨A1, k1, rfl⟩ := hO.hm.slice
  obtain ⟨A2, k2, rfl⟩ := hO.ho.slice
  obtain ⟨A3, k3, rfl⟩ := ownB_slice hO.ht
  have HM3 := hid (HM.out.call hB)
  have HLT := hid (HM.out.lt (.tail _ (.head _)))
  have HLT2 := hid (HM.out.lt (.head _))
  have HO := hid hO
  have HSZ := hid HM.out.below.size
  clear hO hB HM HC
  have HM := HM3
  clear HM3
  cases h : s.sw with
  | true =>
    have e0 : keepS s = { s with too := s.cur } := by rw [keepS, if_pos h]
    go_wp2_with (first | ((with_reducible refine wl_id ?_); refine m_storeAG HM.out rfl rfl rfl 1 rfl rfl rfl (by kernel_rfl) rfl ?_; intro wx hM hg; simp only [Act.put, List.setIfInBounds_toArray, List.set_cons_zero, List.set_cons_succ]; simp only [List.set_cons_succ, List.set_cons_zero] at hM; clear HM; have HM := hid hM; have HG := hid hg; clear hM hg) | ((with_reducible refine wl_id ?_); refine m_load HM.out rfl rfl rfl (.tail _ (.head _)) (show (scrL s (.slice A1 s.ms.length k1) (.slice A2 s.os.length k2) (.slice A3 s.tabs.length k3))[6]? = some (.bool true) by rw [← h]; rfl) Tryd.underlying4 rfl ?_; simp only [Act.put, List.setIfInBounds_toArray, List.set_cons_zero, List.set_cons_succ]) | ((with_reducible refine wl_id ?_); refine m_loadS HM.out rfl rfl rfl (.tail _ (.head _)) (curL s.cur) rfl Tryd.underlying34 rfl (by kernel_rfl) ?_; simp only [Act.put, List.setIfInBounds_toArray, List.set_cons_zero, List.set_cons_succ]) | ((with_reducible refine wl_id ?_); refine m_storeMG HM.out rfl rfl rfl 1 rfl (cs := curL s.cur) rfl (scrL { s with too := s.cur } (.slice A1 s.ms.length k1) (.slice A2 s.os.length k2) (.slice A3 s.tabs.length k3)) (by rfl) (Nat.le_of_ble_eq_true rfl) (by kernel_rfl) rfl ?_; intro wy hM hg; simp only [Act.put, List.setIfInBounds_toArray, List.set_cons_zero, List.set_cons_succ]; simp only [List.set_cons_succ, List.set_cons_zero] at hM; clear HM; have HM := hid hM; have HG2 := hid hg; clear hM hg) | ((with_reducible refine wl_id ?_); refine m_loadS HM.out rfl rfl rfl (.tail _ (.head _)) (scrL { s with too := s.cur } (.slice A1 s.ms.length k1) (.slice A2 s.os.length k2) (.slice A3 s.tabs.length k3)) rfl Tryd.underlying37 rfl (by kernel_rfl) ?_; simp only [Act.put, List.setIfInBounds_toArray, List.set_cons_zero, List.set_cons_succ]) | ((with_reducible refine wl_id ?_); refine m_storeAG HM.out rfl rfl rfl 0 rfl rfl rfl (by kernel_rfl) rfl ?_; intro wz hM hg; simp only [Act.put, List.setIfInBounds_toArray, List.set_cons_zero, List.set_cons_succ]; simp only [List.set_cons_succ, List.set_cons_zero] at hM; clear HM; have HM := hid hM; have HG3 := hid hg; clear hM hg))
    have hO := ((HO.out.kept_lt HG.out HLT.out).kept_lt HG2.out HLT.out).kept_lt HG3.out HLT2.out
    rw [e0]
    exact bodyPost_ret (m_results1 HM.out Tryd.results35 _ rfl (.head _) (scrL { s with too := s.cur } (.slice A1 s.ms.length k1) (.slice A2 s.os.length k2) (.slice A3 s.tabs.length k3)) rfl Tryd.underlying37 rfl (by kernel_rfl)) rfl ⟨_, _, _, rfl, (hO.low HSZ.out).as rfl rfl rfl, HM.out.below⟩
  | false =>
    have e0 : keepS s = { s with sav := s.cur } := by rw [keepS, if_neg (by simp [h])]
    go_wp2_with (first | ((with_reducible refine wl_id ?_); refine m_storeAG HM.out rfl rfl rfl 1 rfl rfl rfl (by kernel_rfl) rfl ?_; intro wx hM hg; simp only [Act.put, List.setIfInBounds_toArray, List.set_cons_zero, List.set_cons_succ]; simp only [List.set_cons_succ, List.set_cons_zero] at hM; clear HM; have HM := hid hM; have HG := hid hg; clear hM hg) | ((with_reducible refine wl_id ?_); refine m_load HM.out rfl rfl rfl (.tail _ (.head _)) (show (scrL s (.slice A1 s.ms.length k1) (.slice A2 s.os.length k2) (.slice A3 s.tabs.length k3))[6]? = some (.bool false) by rw [← h]; rfl) Tryd.underlying4 rfl ?_; simp only [Act.put, List.setIfInBounds_toArray, List.set_cons_zero, List.set_cons_succ]) | ((with_reducible refine wl_id ?_); refine m_loadS HM.out rfl rfl rfl (.tail _ (.head _)) (curL s.cur) rfl Tryd.underlying34 rfl (by kernel_rfl) ?_; simp only [Act.put, List.setIfInBounds_toArray, List.set_cons_zero, List.set_cons_succ]) | ((with_reducible refine wl_id ?_); refine m_storeMG HM.out rfl rfl rfl 1 rfl (cs := curL s.cur) rfl (scrL { s with sav := s.cur } (.slice A1 s.ms.length k1) (.slice A2 s.os.length k2) (.slice A3 s.tabs.length k3)) (by rfl) (Nat.le_of_ble_eq_true rfl) (by kernel_rfl) rfl ?_; intro wy hM hg; simp only [Act.put, List.setIfInBounds_toArray, List.set_cons_zero, List.set_cons_succ]; simp only [List.set_cons_succ, List.set_cons_zero] at hM; clear HM; have HM := hid hM; have HG2 := hid hg; clear hM hg) | ((with_reducible refine wl_id ?_); refine m_loadS HM.out rfl rfl rfl (.tail _ (.head _)) (scrL { s with sav := s.cur } (.slice A1 s.ms.length k1) (.slice A2 s.os.length k2) (.slice A3 s.tabs.length k3)) rfl Tryd.underlying37 rfl (by kernel_rfl) ?_; simp only [Act.put, List.setIfInBounds_toArray, List.set_cons_zero, List.set_cons_succ]) | ((with_reducible refine wl_id ?_); refine m_storeAG HM.out rfl rfl rfl 0 rfl rfl rfl (by kernel_rfl) rfl ?_; intro wz hM hg; simp only [Act.put, List.setIfInBounds_toArray, List.set_cons_zero, List.set_cons_succ]; simp only [List.set_cons_succ, List.set_cons_zero] at hM; clear HM; have HM := hid hM; have HG3 := hid hg; clear hM hg))
    have hO := ((HO.out.kept_lt HG.out HLT.out).kept_lt HG2.out HLT.out).kept_lt HG3.out HLT2.out
    rw [e0]
    exact bodyPost_ret (m_results1 HM.out Tryd.results35 _ rfl (.head _) (scrL { s with sav := s.cur } (.slice A1 s.ms.length k1) (.slice A2 s.os.length k2) (.slice A3 s.tabs.length k3)) rfl Tryd.underlying37 rfl (by kernel_rfl)) rfl ⟨_, _, _, rfl, (hO.low HSZ.out).as rfl rfl rfl, HM.out.below⟩
set_option maxRecDepth 100000 in
set_option maxHeartbeats 4000000 in
theorem rrest_any {s : Scr} {m o t : Value} {w : World} (hr : RdScr w s m o t) :
    Calls Tryd.prog 36 #[.agg (scrL s m o t).toArray] w fun e w' => RefPost w (backS s) e w' := by
  have HC := hid (fun W (hW : Below w.heap.size w W) => copyS_l (hr.below hW))
  have HX := hid (Mem.start w)
  clear hr
  go_enter Tryd.func36, Tryd.ntmps36
  go_upto_region 0 with (fail)
  refine wp_region_lit ?_
  refine m_box HX.out rfl rfl rfl ?_
  intro b w1 hM1
  simp only [Act.put, List.setIfInBounds_toArray, List.set_cons_zero, List.set_cons_succ]
  refine m_alloc hM1 rfl rfl info_zS ?_
  intro b' w2 hM
  simp only [Act.put, List.setIfInBounds_toArray, List.set_cons_zero, List.set_cons_succ]
  clear hM1
  have HM := hid (show Mem w w2 [(b', Row 37 zL), (b, Row 37 (scrL s m o t))] from hM)
  clear hM
  go_wp2_with (first | ((with_reducible refine wl_id ?_); refine m_loadS HM.out rfl rfl rfl (by first | exact .head _ | exact .tail _ (.head _) | exact .tail _ (.tail _ (.head _)) | exact .tail _ (.tail _ (.tail _ (.head _))) | exact .tail _ (.tail _ (.tail _ (.tail _ (.head _)))) | exact .tail _ (.tail _ (.tail _ (.tail _ (.tail _ (.head _))))) | exact .tail _ (.tail _ (.tail _ (.tail _ (.tail _ (.tail _ (.head _)))))) | exact .tail _ (.tail _ (.tail _ (.tail _ (.tail _ (.tail _ (.tail _ (.head _)))))))) (scrL s m o t) rfl Tryd.underlying37 rfl (by kernel_rfl) ?_; simp only [Act.put, List.setIfInBounds_toArray, List.set_cons_zero, List.set_cons_succ]) | (go_at_call 30; fail))
  refine (HC.out _ HM.out.below).mono ?_
  rintro e w3 ⟨m', o', t', rfl, hO, hB⟩
  obtain ⟨A1, k1, rfl⟩ := hO.hm.slice
  obtain ⟨A2, k2, rfl⟩ := hO.ho.slice
  obtain ⟨A3, k3, rfl⟩ := ownB_slice hO.ht
  have HM3 := hid (HM.out.call hB)
  have HLT := hid (HM.out.lt (.tail _ (.head _)))
  have HLT2 := hid (HM.out.lt (.head _))
  have HO := hid hO
  have HSZ := hid HM.out.below.size
  clear hO hB HM HC
  have HM := HM3
  clear HM3
  cases h : s.sw with
  | true =>
    have e0 : backS s = { s with cur := s.too } := by rw [backS, keptC, if_pos h]; rfl
    go_wp2_with (first | ((with_reducible refine wl_id ?_); refine m_storeAG HM.out rfl rfl rfl 1 rfl rfl rfl (by kernel_rfl) rfl ?_; intro wx hM hg; simp only [Act.put, List.setIfInBounds_toArray, List.set_cons_zero, List.set_cons_succ]; simp only [List.set_cons_succ, List.set_cons_zero] at hM; clear HM; have HM := hid hM; have HG := hid hg; clear hM hg) | ((with_reducible refine wl_id ?_); refine m_loadS HM.out rfl rfl rfl (.tail _ (.head _)) (curL s.sav) rfl Tryd.underlying34 rfl (by kernel_rfl) ?_; simp only [Act.put, List.setIfInBounds_toArray, List.set_cons_zero, List.set_cons_succ]) | ((with_reducible refine wl_id ?_); refine m_loadS HM.out rfl rfl rfl (.tail _ (.head _)) (curL s.too) rfl Tryd.underlying34 rfl (by kernel_rfl) ?_; simp only [Act.put, List.setIfInBounds_toArray, List.set_cons_zero, List.set_cons_succ]) | ((with_reducible refine wl_id ?_); refine m_storeMG HM.out rfl rfl rfl 1 rfl (cs := curL s.sav) rfl (scrL { s with cur := s.sav } (.slice A1 s.ms.length k1) (.slice A2 s.os.length k2) (.slice A3 s.tabs.length k3)) (by rfl) (Nat.le_of_ble_eq_true rfl) (by kernel_rfl) rfl ?_; intro wy hM hg; simp only [Act.put, List.setIfInBounds_toArray, List.set_cons_zero, List.set_cons_succ]; simp only [List.set_cons_succ, List.set_cons_zero] at hM; clear HM; have HM := hid hM; have HG2 := hid hg; clear hM hg) | ((with_reducible refine wl_id ?_); refine m_storeMG HM.out rfl rfl rfl 1 rfl (cs := curL s.too) rfl (scrL { s with cur := s.too } (.slice A1 s.ms.length k1) (.slice A2 s.os.length k2) (.slice A3 s.tabs.length k3)) (by rfl) (Nat.le_of_ble_eq_true rfl) (by kernel_rfl) rfl ?_; intro wv hM hg; simp only [Act.put, List.setIfInBounds_toArray, List.set_cons_zero, List.set_cons_succ]; simp only [List.set_cons_succ, List.set_cons_zero] at hM; clear HM; have HM := hid hM; have HG4 := hid hg; clear hM hg) | ((with_reducible refine wl_id ?_); refine m_load HM.out rfl rfl rfl (.tail _ (.head _)) (show (scrL { s with cur := s.sav } (.slice A1 s.ms.length k1) (.slice A2 s.os.length k2) (.slice A3 s.tabs.length k3))[6]? = some (.bool true) by rw [← h]; rfl) Tryd.underlying4 rfl ?_; simp only [Act.put, List.setIfInBounds_toArray, List.set_cons_zero, List.set_cons_succ]) | ((with_reducible refine wl_id ?_); refine m_loadS HM.out rfl rfl rfl (.tail _ (.head _)) (scrL { s with cur := s.too } (.slice A1 s.ms.length k1) (.slice A2 s.os.length k2) (.slice A3 s.tabs.length k3)) rfl Tryd.underlying37 rfl (by kernel_rfl) ?_; simp only [Act.put, List.setIfInBounds_toArray, List.set_cons_zero, List.set_cons_succ]) | ((with_reducible refine wl_id ?_); refine m_storeAG HM.out rfl rfl rfl 0 rfl rfl rfl (by kernel_rfl) rfl ?_; intro wz hM hg; simp only [Act.put, List.setIfInBounds_toArray, List.set_cons_zero, List.set_cons_succ]; simp only [List.set_cons_succ, List.set_cons_zero] at hM; clear HM; have HM := hid hM; have HG3 := hid hg; clear hM hg))
    have hO := (((HO.out.kept_lt HG.out HLT.out).kept_lt HG2.out HLT.out).kept_lt HG4.out HLT.out).kept_lt HG3.out HLT2.out
    rw [e0]
    exact bodyPost_ret (m_results1 HM.out Tryd.results36 _ rfl (.head _) (scrL { s with cur := s.too } (.slice A1 s.ms.length k1) (.slice A2 s.os.length k2) (.slice A3 s.tabs.length k3)) rfl Tryd.underlying37 rfl (by kernel_rfl)) rfl ⟨_, _, _, rfl, (hO.low HSZ.out).as rfl rfl rfl, HM.out.below⟩
  | false =>
    have e0 : backS s = { s with cur := s.sav } := by rw [backS, keptC, if_neg (by simp [h])]; rfl
    go_wp2_with (first | ((with_reducible refine wl_id ?_); refine m_storeAG HM.out rfl rfl rfl 1 rfl rfl rfl (by kernel_rfl) rfl ?_; intro wx hM hg; simp only [Act.put, List.setIfInBounds_toArray, List.set_cons_zero, List.set_cons_succ]; simp only [List.set_cons_succ, List.set_cons_zero] at hM; clear HM; have HM := hid hM; have HG := hid hg; clear hM hg) | ((with_reducible refine wl_id ?_); refine m_loadS HM.out rfl rfl rfl (.tail _ (.head _)) (curL s.sav) rfl Tryd.underlying34 rfl (by kernel_rfl) ?_; simp only [Act.put, List.setIfInBounds_toArray, List.set_cons_zero, List.set_cons_succ]) | ((with_reducible refine wl_id ?_); refine m_storeMG HM.out rfl rfl rfl 1 rfl (cs := curL s.sav) rfl (scrL { s with cur := s.sav } (.slice A1 s.ms.length k1) (.slice A2 s.os.length k2) (.slice A3 s.tabs.length k3)) (by rfl) (Nat.le_of_ble_eq_true rfl) (by kernel_rfl) rfl ?_; intro wy hM hg; simp only [Act.put, List.setIfInBounds_toArray, List.set_cons_zero, List.set_cons_succ]; simp only [List.set_cons_succ, List.set_cons_zero] at hM; clear HM; have HM := hid hM; have HG2 := hid hg; clear hM hg) | ((with_reducible refine wl_id ?_); refine m_load HM.out rfl rfl rfl (.tail _ (.head _)) (show (scrL { s with cur := s.sav } (.slice A1 s.ms.length k1) (.slice A2 s.os.length k2) (.slice A3 s.tabs.length k3))[6]? = some (.bool false) by rw [← h]; rfl) Tryd.underlying4 rfl ?_; simp only [Act.put, List.setIfInBounds_toArray, List.set_cons_zero, List.set_cons_succ]) | ((with_reducible refine wl_id ?_); refine m_loadS HM.out rfl rfl rfl (.tail _ (.head _)) (scrL { s with cur := s.sav } (.slice A1 s.ms.length k1) (.slice A2 s.os.length k2) (.slice A3 s.tabs.length k3)) rfl Tryd.underlying37 rfl (by kernel_rfl) ?_; simp only [Act.put, List.setIfInBounds_toArray, List.set_cons_zero, List.set_cons_succ]) | ((with_reducible refine wl_id ?_); refine m_storeAG HM.out rfl rfl rfl 0 rfl rfl rfl (by kernel_rfl) rfl ?_; intro wz hM hg; simp only [Act.put, List.setIfInBounds_toArray, List.set_cons_zero, List.set_cons_succ]; simp only [List.set_cons_succ, List.set_cons_zero] at hM; clear HM; have HM := hid hM; have HG3 := hid hg; clear hM hg))
    have hO := ((HO.out.kept_lt HG.out HLT.out).kept_lt HG2.out HLT.out).kept_lt HG3.out HLT2.out
    rw [e0]
    exact bodyPost_ret (m_results1 HM.out Tryd.results36 _ rfl (.head _) (scrL { s with cur := s.sav } (.slice A1 s.ms.length k1) (.slice A2 s.os.length k2) (.slice A3 s.tabs.length k3)) rfl Tryd.underlying37 rfl (by kernel_rfl)) rfl ⟨_, _, _, rfl, (hO.low HSZ.out).as rfl rfl rfl, HM.out.below⟩
set_option maxRecDepth 100000 in
set_option maxHeartbeats 4000000 in
theorem rhome_any {s : Scr} {m o t : Value} {w : World} (hr : RdScr w s m o t) (hs : scrB s = true) :
    Calls Tryd.prog 34 #[.agg (scrL s m o t).toArray] w fun e w' => RefPost w (toS s 72 1 1) e w' := by
  have HC := hid (fun W (hW : Below w.heap.size w W) => rmove_any (n := 1) (k := 1) (key := 72) (hr.below hW) hs (by decide) (by decide) (by decide))
  have HX := hid (Mem.start w)
  clear hr hs
  obtain ⟨R, hR⟩ : ∃ R, toS s 72 (max 1 1) (max 1 1) = R := ⟨_, rfl⟩
  have e0 : toS s 72 1 1 = R := hR
  rw [e0]
  simp only [hR] at HC
  clear hR e0
  go_enter Tryd.func34, Tryd.ntmps34
  go_upto_region 0 with (fail)
  refine wp_region_lit ?_
  refine m_box HX.out rfl rfl rfl ?_
  intro b w1 hM1
  simp only [Act.put, List.setIfInBounds_toArray, List.set_cons_zero, List.set_cons_succ]
  refine m_alloc hM1 rfl rfl info_zS ?_
  intro b' w2 hM
  simp only [Act.put, List.setIfInBounds_toArray, List.set_cons_zero, List.set_cons_succ]
  clear hM1
  have HM := hid (show Mem w w2 [(b', Row 37 zL), (b, Row 37 (scrL s m o t))] from hM)
  clear hM
  go_wp2_with (first | ((with_reducible refine wl_id ?_); refine m_loadS HM.out rfl rfl rfl (by first | exact .head _ | exact .tail _ (.head _) | exact .tail _ (.tail _ (.head _)) | exact .tail _ (.tail _ (.tail _ (.head _))) | exact .tail _ (.tail _ (.tail _ (.tail _ (.head _)))) | exact .tail _ (.tail _ (.tail _ (.tail _ (.tail _ (.head _))))) | exact .tail _ (.tail _ (.tail _ (.tail _ (.tail _ (.tail _ (.head _)))))) | exact .tail _ (.tail _ (.tail _ (.tail _ (.tail _ (.tail _ (.tail _ (.head _)))))))) (scrL s m o t) rfl Tryd.underlying37 rfl (by kernel_rfl) ?_; simp only [Act.put, List.setIfInBounds_toArray, List.set_cons_zero, List.set_cons_succ]) | (go_at_call 40; fail))
  refine (HC.out _ HM.out.below).mono ?_
  rintro e w3 ⟨m', o', t', rfl, hO, hB⟩
  obtain ⟨A1, k1, rfl⟩ := hO.hm.slice
  obtain ⟨A2, k2, rfl⟩ := hO.ho.slice
  obtain ⟨A3, k3, rfl⟩ := ownB_slice hO.ht
  have HM3 := hid (HM.out.call hB)
  have HLT2 := hid (HM.out.lt (.head _))
  have HO := hid hO
  have HSZ := hid HM.out.below.size
  clear hO hB HM HC
  have HM := HM3
  clear HM3
  go_wp2_with (first | ((with_reducible refine wl_id ?_); refine m_storeAG HM.out rfl rfl rfl 0 rfl rfl rfl (by kernel_rfl) rfl ?_; intro wz hM hg; simp only [Act.put, List.setIfInBounds_toArray, List.set_cons_zero, List.set_cons_succ]; simp only [List.set_cons_succ, List.set_cons_zero] at hM; clear HM; have HM := hid hM; have HG3 := hid hg; clear hM hg))
  have hO := HO.out.kept_lt HG3.out HLT2.out
  exact bodyPost_ret (m_results1 HM.out Tryd.results34 _ rfl (.head _) (scrL R (.slice A1 R.ms.length k1) (.slice A2 R.os.length k2) (.slice A3 R.tabs.length k3)) rfl Tryd.underlying37 rfl (by kernel_rfl)) rfl ⟨_, _, _, rfl, hO.low HSZ.out, HM.out.below⟩
end Go.Proofs.YtbjckahaalbpaaaDoor
