/- The kept cursor: screen.Kept, cursor.Keep, cursor.Again, cursor.Homed. -/
import Derived.Test.YtbjckahaalbpaaaDoorRange
set_option linter.unusedVariables false
set_option linter.unusedSimpArgs false
set_option linter.unnecessarySimpa false
namespace Go.Proofs.YtbjckahaalbpaaaDoor
open Go Go.RowKit Go.Proofs.YtbjckahaalbpaaaDoorW.PrintLast

def keptC (s : Scr) : Cur := if s.sw = true then s.too else s.sav
def keepS (s : Scr) : Scr := if s.sw = true then { s with too := s.cur } else { s with sav := s.cur }
def keptAt (s : Scr) : Nat := if s.sw = true then 27 else 17
theorem kept_any {s : Scr} {m o t : Value} {p i : Nat} {w0 w : World} {F : List Ent} (hM : Mem w0 w F) (hF : F[i]? = some (p, Row 37 (scrL s m o t))) :
    Calls Tryd.prog 90 #[.pointer (some ⟨p, 0, none⟩)] w fun e w' => e = .returned (.pointer (some ⟨p, keptAt s, none⟩)) ∧ w' = w := by
  have HM := hid hM
  have HF := hid hF
  clear hM hF
  cases h : s.sw with
  | true =>
    have e : keptAt s = 27 := by rw [keptAt, if_pos h]
    rw [e]
    clear e
    go_enter Tryd.func90, Tryd.ntmps90
    go_wp2_with (first | ((with_reducible refine wl_id ?_); refine m_load HM.out rfl rfl rfl (List.mem_of_getElem? HF.out) (show (scrL s m o t)[6]? = some (.bool true) by rw [← h]; rfl) Tryd.underlying4 rfl ?_; simp only [Act.put, List.setIfInBounds_toArray, List.set_cons_zero, List.set_cons_succ]))
    go_ret
    exact ⟨rfl, rfl⟩
  | false =>
    have e : keptAt s = 17 := by rw [keptAt, if_neg (by simp [h])]
    rw [e]
    clear e
    go_enter Tryd.func90, Tryd.ntmps90
    go_wp2_with (first | ((with_reducible refine wl_id ?_); refine m_load HM.out rfl rfl rfl (List.mem_of_getElem? HF.out) (show (scrL s m o t)[6]? = some (.bool false) by rw [← h]; rfl) Tryd.underlying4 rfl ?_; simp only [Act.put, List.setIfInBounds_toArray, List.set_cons_zero, List.set_cons_succ]))
    go_ret
    exact ⟨rfl, rfl⟩
theorem put_kept (s : Scr) (m o t : Value) : Mem.putL (scrL s m o t) (keptAt s) (curL s.cur) = scrL (keepS s) m o t := by
  unfold keptAt keepS
  split <;> rfl
theorem get_kept (s : Scr) (m o t : Value) : ((scrL s m o t).drop (keptAt s)).take (curL (keptC s)).length = curL (keptC s) := by
  unfold keptAt keptC
  split <;> rfl
theorem y_storeM {P : Program} {ops : Array Oper} {op : Oper} {a : Act} {w0 w : World} {Q : Exit → Act → World → Prop} {F : List Ent} {K : Act → World → Prop} (hM : Mem w0 w F) (hw : Region.wanted op (yielded ops a.tmps) = true) (hN : op.dst = none) {ty : TypeId} {x y : Operand} (ho : op.op = .store ty x y) {b o : Nat} (hx : a.eval x = .pointer (some ⟨b, o, none⟩)) (i : Nat) {t : TypeId} {l : List Value} (hF : F[i]? = some (b, Row t l))
    {cs : List Value} (hy : a.eval y = .agg cs.toArray) (l' : List Value) (hl : Mem.putL l o cs = l') (hk : o + cs.length ≤ l.length) (hi : (P.info? ty).map (·.size) = some cs.length) (h1 : cs.all (·.oneCell') = true)
    (h : ∀ w', Mem w0 w' (F.set i (b, Row t l')) → w.grownBy w' (some b) → K a w') : if Region.wanted op (yielded ops a.tmps) = true then Oper.wp P op a w K Q else K (a.put none undef) w := by
  rw [if_pos hw]
  refine wp_store_mid ty x y ho b o cs.toArray hx hy (hM.there (List.mem_of_getElem? hF) (by simpa using hk)) (by simpa using hi) (by rw [List.all_toArray]; exact h1) ?_
  rw [hN]
  exact h _ (hl ▸ hM.sets hF o cs) (grown_setCells _ _ _)
theorem keptAt_le (s : Scr) (m o t : Value) : keptAt s + (curL s.cur).length ≤ (scrL s m o t).length := by
  unfold keptAt
  split <;> exact Nat.le_of_ble_eq_true rfl
noncomputable def kreg : Code := ((Tryd.f58.body.bind (findRegion 0)).getD .skip)
set_option maxRecDepth 100000 in
set_option maxHeartbeats 1000000 in
theorem kreg_is {s : Scr} {m o t : Value} {p i : Nat} {w0 wr : World} {F : List Ent} {Q : Exit → Act → World → Prop} (hM : Mem w0 wr F) (hF : F[i]? = some (p, Row 37 (scrL s m o t)))
    (hP : ∀ c a (d : Tmp) v w, Q (.panic c) (Act.put a (some d) v) w → Q (.panic c) a w) (u1 u2 u3 u4 u5 u6 u7 u8 : Value)
    (hQ : ∀ w' (v2 v3 v4 v5 v6 v7 v8 : Value), Mem w0 w' (F.set i (p, Row 37 (scrL (keepS s) m o t))) → Q .normal ⟨#[.pointer (some ⟨p, 0, none⟩), u1, v2, v3, v4, v5, v6, v7, v8], []⟩ w') :
    Code.wp Tryd.prog kreg Q ⟨#[.pointer (some ⟨p, 0, none⟩), u1, u2, u3, u4, u5, u6, u7, u8], []⟩ wr := by
  have HM := hid hM
  have HF := hid hF
  have HK : Hid (∀ W, Mem w0 W F → Calls Tryd.prog 90 #[.pointer (some ⟨p, 0, none⟩)] W fun e w' => e = .returned (.pointer (some ⟨p, keptAt s, none⟩)) ∧ w' = W) := hid fun W hW => kept_any hW hF
  clear hM hF
  conv => arg 2; whnf
  refine start_ (n := 8) (S := fun W => Mem w0 W F) (ds := [7]) #[false, false, false, false, false, false, false, false] (by kernel_rfl) rfl rfl HM.out.drew (fun hS => ?_)
  refine take_ (i := 0) (N := some 2) (a' := ?_) (v := .pointer (some ⟨p, 0, none⟩)) #[true, false, false, false, false, false, false, false] rfl rfl (by kernel_rfl) (by first | exact fun _ _ _ h => h | exact fun _ _ _ h => hP _ _ _ _ _ h) (Or.inl ⟨by rfl, fun w' _ => by go_simp⟩) hS ?_ ?_
  rotate_left
  · simp only [Act.put, List.setIfInBounds_toArray, List.set_cons_zero, List.set_cons_succ]
    rfl
  refine take_ (i := 2) (N := some 4) (a' := ?_) (v := .pointer (some ⟨p, 0, none⟩)) #[true, false, true, false, false, false, false, false] rfl rfl (by kernel_rfl) (by first | exact fun _ _ _ h => h | exact fun _ _ _ h => hP _ _ _ _ _ h) (Or.inl ⟨by rfl, fun w' _ => by go_simp⟩) hS ?_ ?_
  rotate_left
  · simp only [Act.put, List.setIfInBounds_toArray, List.set_cons_zero, List.set_cons_succ]
    rfl
  refine take_ (i := 3) (N := some 5) (a' := ?_) (v := .pointer (some ⟨p, 0, none⟩)) #[true, false, true, true, false, false, false, false] rfl rfl (by kernel_rfl) (by first | exact fun _ _ _ h => h | exact fun _ _ _ h => hP _ _ _ _ _ h) (Or.inl ⟨by rfl, fun w' _ => by go_simp⟩) hS ?_ ?_
  rotate_left
  · simp only [Act.put, List.setIfInBounds_toArray, List.set_cons_zero, List.set_cons_succ]
    rfl
  refine take_ (i := 4) (N := some 6) (a' := ?_) (v := .pointer (some ⟨p, 7, none⟩)) #[true, false, true, true, true, false, false, false] rfl rfl (by kernel_rfl) (by first | exact fun _ _ _ h => h | exact fun _ _ _ h => hP _ _ _ _ _ h) (Or.inl ⟨by rfl, fun w' _ => by go_simp⟩) hS ?_ ?_
  rotate_left
  · simp only [Act.put, List.setIfInBounds_toArray, List.set_cons_zero, List.set_cons_succ]
    rfl
  refine take_ (i := 5) (N := some 7) (a' := ?_) (v := .agg (curL s.cur).toArray) #[true, false, true, true, true, true, false, false] rfl rfl (by kernel_rfl) (by first | exact fun _ _ _ h => h | exact fun _ _ _ h => hP _ _ _ _ _ h) (y_loadS rfl rfl rfl (List.mem_of_getElem? HF.out) (show ((scrL s m o t).drop 7).take (curL s.cur).length = curL s.cur from rfl) Tryd.underlying34 rfl (by kernel_rfl)) hS ?_ ?_
  rotate_left
  · simp only [Act.put, List.setIfInBounds_toArray, List.set_cons_zero, List.set_cons_succ]
    rfl
  refine one_ (i := 1) (N := some 3) #[true, true, true, true, true, true, false, false] rfl rfl (by kernel_rfl) (by decide) (fun K hK => ?_)
  refine goes_ Tryd.func90 (by kernel_rfl) rfl #[.pointer (some ⟨p, 0, none⟩)] (by rfl) rfl rfl (by simp only [List.map_toArray, List.map_cons, List.map_nil]; rfl) ?_
  refine (HK.out _ hS).mono ?_
  rintro e w4 ⟨rfl, rfl⟩
  refine ⟨_, rfl, hK.out _ _ hS (fun hS2 => ?_)⟩
  clear hK K hS2
  refine norm_ (a' := ?_) ?_ ?_
  rotate_left
  · simp only [Act.put, List.setIfInBounds_toArray, List.set_cons_zero, List.set_cons_succ]
    rfl
  refine take_ (i := 6) (N := some 8) (a' := ?_) (v := .pointer (some ⟨p, keptAt s, none⟩)) #[true, true, true, true, true, true, true, false] rfl rfl (by kernel_rfl) (by first | exact fun _ _ _ h => h | exact fun _ _ _ h => hP _ _ _ _ _ h) (Or.inl ⟨by rfl, fun w' _ => by go_simp⟩) hS ?_ ?_
  rotate_left
  · simp only [Act.put, List.setIfInBounds_toArray, List.set_cons_zero, List.set_cons_succ]
    rfl
  refine last_ (i := 7) (N := none) #[true, true, true, true, true, true, true, true] rfl rfl (by kernel_rfl) (by decide) (fun K hK => ?_)
  refine y_storeM hS rfl rfl rfl rfl i HF.out rfl _ (put_kept s m o t) (keptAt_le s m o t) (by kernel_rfl) rfl (fun w6 hM6 hg => hK.out _ _ ?_)
  clear hK K
  refine done_ (by kernel_rfl) ?_
  exact hQ w6 _ _ _ _ _ _ _ hM6
theorem keep_any {s : Scr} {m o t : Value} {p i : Nat} {w0 w : World} {F : List Ent} (hM : Mem w0 w F) (hF : F[i]? = some (p, Row 37 (scrL s m o t))) :
    Calls Tryd.prog 58 #[.pointer (some ⟨p, 0, none⟩)] w fun e w' => e = .returned (.tuple #[]) ∧ Mem w0 w' (F.set i (p, Row 37 (scrL (keepS s) m o t))) := by
  have HM := hid hM
  have HF := hid hF
  clear hM hF
  go_enter Tryd.func58, Tryd.ntmps58
  go_upto_region 0 with (fail)
  refine kreg_is HM.out HF.out (fun _ _ _ _ _ h => by first | exact h | (simp +zetaDelta only [Exit.then, Exit.inBlock] at h ⊢; exact h)) _ _ _ _ _ _ _ _ ?_
  rintro w1 v2 v3 v4 v5 v6 v7 v8 hM
  conv => zeta
  go_wp2
  go_end0
  exact ⟨rfl, hM⟩
def backS (s : Scr) : Scr := putCur s (keptC s)
theorem put_back (s : Scr) (m o t : Value) : Mem.putL (scrL s m o t) 7 (curL (keptC s)) = scrL (backS s) m o t := by rfl
set_option maxRecDepth 100000 in
theorem again_any {s : Scr} {m o t : Value} {p i : Nat} {w0 w : World} {F : List Ent} (hM : Mem w0 w F) (hF : F[i]? = some (p, Row 37 (scrL s m o t))) :
    Calls Tryd.prog 59 #[.pointer (some ⟨p, 0, none⟩)] w fun e w' => e = .returned (.tuple #[]) ∧ Mem w0 w' (F.set i (p, Row 37 (scrL (backS s) m o t))) := by
  have HM := hid hM
  have HF := hid hF
  have HK := hid (kept_any hM hF)
  clear hM hF
  go_enter Tryd.func59, Tryd.ntmps59
  go_wp2_with (first | (go_at_call 90; (with_reducible refine HK.out.mono ?_); rintro e w4 ⟨rfl, rfl⟩) | ((with_reducible refine wl_id ?_); refine m_loadS HM.out rfl rfl rfl (List.mem_of_getElem? HF.out) (curL (keptC s)) (get_kept s m o t) Tryd.underlying34 rfl (by kernel_rfl) ?_; simp only [Act.put, List.setIfInBounds_toArray, List.set_cons_zero, List.set_cons_succ]) | ((with_reducible refine wl_id ?_); refine m_storeS HM.out rfl rfl rfl i HF.out rfl _ (put_back s m o t) (Nat.le_of_ble_eq_true rfl) (by kernel_rfl) rfl ?_; intro w5 hM; simp only [Act.put, List.setIfInBounds_toArray, List.set_cons_zero, List.set_cons_succ]; have HM2 := hid hM; clear hM))
  go_end0
  exact ⟨rfl, HM2.out⟩
theorem homed_any {s : Scr} {m o t : Value} {p i : Nat} {w0 w : World} {F : List Ent} (hM : Mem w0 w F) (hF : F[i]? = some (p, Row 37 (scrL s m o t))) (hb : Bd s)
    (hT : ∀ w' l, Mem w0 w' (F.set i (p, Row 37 l)) → RdB w' t s.tabs) (hl : (s.tabs.length : Int) = s.mc) :
    Calls Tryd.prog 57 #[.pointer (some ⟨p, 0, none⟩)] w fun e w' => e = .returned (.tuple #[]) ∧ Mem w0 w' (F.set i (p, Row 37 (scrL (toS s 72 1 1) m o t))) := by
  have HC := hid (to_any (n := 1) (k := 1) (key := 72) hM hF hb (by decide) (by decide) hT hl (by decide))
  clear hM hF hb hT hl
  go_enter Tryd.func57, Tryd.ntmps57
  go_wp2_with (go_at_call 50; (with_reducible refine HC.out.mono ?_); rintro e w4 ⟨rfl, hM⟩)
  go_end0
  exact ⟨rfl, hM⟩
/-- a call through a variable -/
theorem goesV_ {P : Program} {ops : Array Oper} {Q : Exit → Act → World → Prop} {rest : List Oper} {oi : Oper} {a : Act} {w : World} (N : Option Tmp) (hd : oi.dst = N) (hg : oi.guard = none) {f : FuncId} {fn : Func} {zs : Array Operand} {ts : Array TypeId} (hf : P.funcs[f]? = some fn) (hname : (fn.name == "runtime.NumGoroutine") = false) (hb : fn.body.isSome = true) (args : Array Value) {x : Operand}
    (hop : oi.op = .call { callee := .value x, args := zs, argTypes := ts }) (hx : a.eval x = .func (.func f) #[] #[]) (hargs : zs.map a.eval = args)
    (h : Calls P f args w fun e w' => ∃ v, e = .returned v ∧ wpList P ops Q rest (a.put N v) w') : wpList P ops Q (oi :: rest) a w := by
  refine wpList_plain hg fun K hK => ?_
  have he := enters_ hf hname hb args w
  have hrun : (execOp a.eval oi).run P w = .ok (.enter f args) w := by
    unfold execOp
    simp [hop, resolve, hx, Deferred.ofValue, invoke, hargs, he]
  unfold Oper.wp
  rw [hrun, Oper.upon_enter]
  refine h.mono fun e w'' hh => ?_
  obtain ⟨v, rfl, hk⟩ := hh
  subst hd
  exact hK _ _ hk
set_option maxRecDepth 100000 in
set_option maxHeartbeats 4000000 in
theorem done_Keep {s : Scr} {m o t : Value} {w : World} (hr : RdScr w s m o t) (hT : U8 w) (hs : scrB s = true) :
    Calls Tryd.prog 56 #[.agg (scrL s m o t).toArray, .func (.func 58) #[] #[]] w fun e w' => ∃ m' o' t', e = .returned (.tuple #[.agg (scrL (keepS s) m' o' t').toArray, .int .i64 0]) ∧ OwnScr w' w.heap.size (keepS s) m' o' t' ∧ Below w.heap.size w w' := by
  have HFA := hid (scrB_facts hs)
  have HA : Hid (∀ W, Below w.heap.size w W → Calls Tryd.prog 46 #[.agg (scrL s m o t).toArray] W fun e w' => e = .returned (.bool true) ∧ Below W.heap.size W w') := hid fun W hW => mayS_l hs (hr.below hW) (hT.below hW)
  have HO := hid (fun W (hW : Below w.heap.size w W) => ownS_l (hr.below hW))
  have HX := hid (Mem.start w)
  clear hs hr hT
  go_enter Tryd.func56, Tryd.ntmps56
  go_upto_region 0 with (fail)
  refine wp_region_lit ?_
  refine m_box HX.out rfl rfl rfl ?_
  intro b w1 hM1
  simp only [Act.put, List.setIfInBounds_toArray, List.set_cons_zero, List.set_cons_succ]
  refine m_alloc hM1 rfl rfl info_zS ?_
  intro b' w2 hM
  simp only [Act.put, List.setIfInBounds_toArray, List.set_cons_zero, List.set_cons_succ]
  clear hM1
  have HM := hid (show Mem w w2 [(b', Row 37 zL), (b, Row 37 (scrL s m o t))] from hM)
  clear hM
  go_wp2_with (first | ((with_reducible refine wl_id ?_); refine m_loadS HM.out rfl rfl rfl (by first | exact .head _ | exact .tail _ (.head _) | exact .tail _ (.tail _ (.head _)) | exact .tail _ (.tail _ (.tail _ (.head _))) | exact .tail _ (.tail _ (.tail _ (.tail _ (.head _)))) | exact .tail _ (.tail _ (.tail _ (.tail _ (.tail _ (.head _))))) | exact .tail _ (.tail _ (.tail _ (.tail _ (.tail _ (.tail _ (.head _)))))) | exact .tail _ (.tail _ (.tail _ (.tail _ (.tail _ (.tail _ (.tail _ (.head _)))))))) (scrL s m o t) rfl Tryd.underlying37 rfl (by kernel_rfl) ?_; simp only [Act.put, List.setIfInBounds_toArray, List.set_cons_zero, List.set_cons_succ]) | (go_at_call 46; (with_reducible refine (HA.out _ HM.out.below).mono ?_); rintro e w3 ⟨rfl, hB⟩; have HM3 := hid (HM.out.call hB); clear hB HM; have HM := HM3; clear HM3) | (go_at_call 49; fail))
  refine (HO.out _ HM.out.below).mono ?_
  rintro e w3 ⟨m', o', t', rfl, hO, hB⟩
  obtain ⟨gm, cm, go, co, gt, ct, rfl, rfl, rfl, hM⟩ := HM.out.addScr hB hO HFA.out.2.1
  clear HM hO hB HA HO
  have HM := hid hM
  clear hM
  go_upto_region 5 with (first | ((with_reducible refine wl_id ?_); refine m_storeA HM.out rfl rfl rfl 4 rfl rfl rfl (by kernel_rfl) rfl ?_; intro w4 hM; simp only [Act.put, List.setIfInBounds_toArray, List.set_cons_zero, List.set_cons_succ]; simp only [List.set_cons_succ, List.set_cons_zero] at hM; clear HM; have HM := hid hM; clear hM) | ((with_reducible refine wl_id ?_); refine goesV_ (some 13) rfl rfl Tryd.func58 (by kernel_rfl) rfl #[.pointer (some ⟨b, 0, none⟩)] rfl rfl (by simp only [List.map_toArray, List.map_cons, List.map_nil]; rfl) ?_; refine (keep_any (i := 4) HM.out rfl).mono ?_; rintro e w5 ⟨rfl, hM⟩; refine ⟨_, rfl, ?_⟩; simp only [Act.put, List.setIfInBounds_toArray, List.set_cons_zero, List.set_cons_succ]; simp only [List.set_cons_succ, List.set_cons_zero] at hM; clear HM; have HM := hid hM; clear hM))
  refine wp_region_lit ?_
  ((with_reducible refine wl_id ?_); refine m_loadS HM.out rfl rfl rfl (by first | exact .head _ | exact .tail _ (.head _) | exact .tail _ (.tail _ (.head _)) | exact .tail _ (.tail _ (.tail _ (.head _))) | exact .tail _ (.tail _ (.tail _ (.tail _ (.head _)))) | exact .tail _ (.tail _ (.tail _ (.tail _ (.tail _ (.head _))))) | exact .tail _ (.tail _ (.tail _ (.tail _ (.tail _ (.tail _ (.head _)))))) | exact .tail _ (.tail _ (.tail _ (.tail _ (.tail _ (.tail _ (.tail _ (.head _)))))))) (scrL (keepS s) (sl gm s.ms.length cm) (sl go s.os.length co) (sl gt s.tabs.length ct)) rfl Tryd.underlying37 rfl (by kernel_rfl) ?_; simp only [Act.put, List.setIfInBounds_toArray, List.set_cons_zero, List.set_cons_succ])
  refine m_storeA HM.out rfl rfl rfl 3 rfl rfl rfl (by kernel_rfl) rfl ?_
  intro w6 hM
  simp only [Act.put, List.setIfInBounds_toArray, List.set_cons_zero, List.set_cons_succ]
  clear HM
  have HM := hid (show Mem w w6 [(gm, entC s.ms cm), (go, entC s.os co), (gt, entB s.tabs ct), (b', Row 37 (scrL (keepS s) (sl gm s.ms.length cm) (sl go s.os.length co) (sl gt s.tabs.length ct))), (b, Row 37 (scrL (keepS s) (sl gm s.ms.length cm) (sl go s.os.length co) (sl gt s.tabs.length ct)))] from hM)
  clear hM
  go_wp2
  have hO := HM.out.scr (s := s)
  have hO' : OwnScr w6 w.heap.size (keepS s) (sl gm s.ms.length cm) (sl go s.os.length co) (sl gt s.tabs.length ct) := hO.as (by unfold keepS; split <;> rfl) (by unfold keepS; split <;> rfl) (by unfold keepS; split <;> rfl)
  exact bodyPost_ret (m_results2 HM.out Tryd.results56 _ rfl (v := .int .i64 0) rfl (.tail _ (.tail _ (.tail _ (.head _)))) (scrL (keepS s) (sl gm s.ms.length cm) (sl go s.os.length co) (sl gt s.tabs.length ct)) rfl Tryd.underlying37 rfl (by kernel_rfl)) rfl ⟨_, _, _, rfl, hO', HM.out.below⟩
set_option maxRecDepth 100000 in
set_option maxHeartbeats 4000000 in
theorem done_Again {s : Scr} {m o t : Value} {w : World} (hr : RdScr w s m o t) (hT : U8 w) (hs : scrB s = true) :
    Calls Tryd.prog 56 #[.agg (scrL s m o t).toArray, .func (.func 59) #[] #[]] w fun e w' => ∃ m' o' t', e = .returned (.tuple #[.agg (scrL (backS s) m' o' t').toArray, .int .i64 0]) ∧ OwnScr w' w.heap.size (backS s) m' o' t' ∧ Below w.heap.size w w' := by
  have HFA := hid (scrB_facts hs)
  have HA : Hid (∀ W, Below w.heap.size w W → Calls Tryd.prog 46 #[.agg (scrL s m o t).toArray] W fun e w' => e = .returned (.bool true) ∧ Below W.heap.size W w') := hid fun W hW => mayS_l hs (hr.below hW) (hT.below hW)
  have HO := hid (fun W (hW : Below w.heap.size w W) => ownS_l (hr.below hW))
  have HX := hid (Mem.start w)
  clear hs hr hT
  go_enter Tryd.func56, Tryd.ntmps56
  go_upto_region 0 with (fail)
  refine wp_region_lit ?_
  refine m_box HX.out rfl rfl rfl ?_
  intro b w1 hM1
  simp only [Act.put, List.setIfInBounds_toArray, List.set_cons_zero, List.set_cons_succ]
  refine m_alloc hM1 rfl rfl info_zS ?_
  intro b' w2 hM
  simp only [Act.put, List.setIfInBounds_toArray, List.set_cons_zero, List.set_cons_succ]
  clear hM1
  have HM := hid (show Mem w w2 [(b', Row 37 zL), (b, Row 37 (scrL s m o t))] from hM)
  clear hM
  go_wp2_with (first | ((with_reducible refine wl_id ?_); refine m_loadS HM.out rfl rfl rfl (by first | exact .head _ | exact .tail _ (.head _) | exact .tail _ (.tail _ (.head _)) | exact .tail _ (.tail _ (.tail _ (.head _))) | exact .tail _ (.tail _ (.tail _ (.tail _ (.head _)))) | exact .tail _ (.tail _ (.tail _ (.tail _ (.tail _ (.head _))))) | exact .tail _ (.tail _ (.tail _ (.tail _ (.tail _ (.tail _ (.head _)))))) | exact .tail _ (.tail _ (.tail _ (.tail _ (.tail _ (.tail _ (.tail _ (.head _)))))))) (scrL s m o t) rfl Tryd.underlying37 rfl (by kernel_rfl) ?_; simp only [Act.put, List.setIfInBounds_toArray, List.set_cons_zero, List.set_cons_succ]) | (go_at_call 46; (with_reducible refine (HA.out _ HM.out.below).mono ?_); rintro e w3 ⟨rfl, hB⟩; have HM3 := hid (HM.out.call hB); clear hB HM; have HM := HM3; clear HM3) | (go_at_call 49; fail))
  refine (HO.out _ HM.out.below).mono ?_
  rintro e w3 ⟨m', o', t', rfl, hO, hB⟩
  obtain ⟨gm, cm, go, co, gt, ct, rfl, rfl, rfl, hM⟩ := HM.out.addScr hB hO HFA.out.2.1
  clear HM hO hB HA HO
  have HM := hid hM
  clear hM
  go_upto_region 5 with (first | ((with_reducible refine wl_id ?_); refine m_storeA HM.out rfl rfl rfl 4 rfl rfl rfl (by kernel_rfl) rfl ?_; intro w4 hM; simp only [Act.put, List.setIfInBounds_toArray, List.set_cons_zero, List.set_cons_succ]; simp only [List.set_cons_succ, List.set_cons_zero] at hM; clear HM; have HM := hid hM; clear hM) | ((with_reducible refine wl_id ?_); refine goesV_ (some 13) rfl rfl Tryd.func59 (by kernel_rfl) rfl #[.pointer (some ⟨b, 0, none⟩)] rfl rfl (by simp only [List.map_toArray, List.map_cons, List.map_nil]; rfl) ?_; refine (again_any (i := 4) HM.out rfl).mono ?_; rintro e w5 ⟨rfl, hM⟩; refine ⟨_, rfl, ?_⟩; simp only [Act.put, List.setIfInBounds_toArray, List.set_cons_zero, List.set_cons_succ]; simp only [List.set_cons_succ, List.set_cons_zero] at hM; clear HM; have HM := hid hM; clear hM))
  refine wp_region_lit ?_
  ((with_reducible refine wl_id ?_); refine m_loadS HM.out rfl rfl rfl (by first | exact .head _ | exact .tail _ (.head _) | exact .tail _ (.tail _ (.head _)) | exact .tail _ (.tail _ (.tail _ (.head _))) | exact .tail _ (.tail _ (.tail _ (.tail _ (.head _)))) | exact .tail _ (.tail _ (.tail _ (.tail _ (.tail _ (.head _))))) | exact .tail _ (.tail _ (.tail _ (.tail _ (.tail _ (.tail _ (.head _)))))) | exact .tail _ (.tail _ (.tail _ (.tail _ (.tail _ (.tail _ (.tail _ (.head _)))))))) (scrL (backS s) (sl gm s.ms.length cm) (sl go s.os.length co) (sl gt s.tabs.length ct)) rfl Tryd.underlying37 rfl (by kernel_rfl) ?_; simp only [Act.put, List.setIfInBounds_toArray, List.set_cons_zero, List.set_cons_succ])
  refine m_storeA HM.out rfl rfl rfl 3 rfl rfl rfl (by kernel_rfl) rfl ?_
  intro w6 hM
  simp only [Act.put, List.setIfInBounds_toArray, List.set_cons_zero, List.set_cons_succ]
  clear HM
  have HM := hid (show Mem w w6 [(gm, entC s.ms cm), (go, entC s.os co), (gt, entB s.tabs ct), (b', Row 37 (scrL (backS s) (sl gm s.ms.length cm) (sl go s.os.length co) (sl gt s.tabs.length ct))), (b, Row 37 (scrL (backS s) (sl gm s.ms.length cm) (sl go s.os.length co) (sl gt s.tabs.length ct)))] from hM)
  clear hM
  go_wp2
  have hO := HM.out.scr (s := s)
  have hO' : OwnScr w6 w.heap.size (backS s) (sl gm s.ms.length cm) (sl go s.os.length co) (sl gt s.tabs.length ct) := hO.as rfl rfl rfl
  exact bodyPost_ret (m_results2 HM.out Tryd.results56 _ rfl (v := .int .i64 0) rfl (.tail _ (.tail _ (.tail _ (.head _)))) (scrL (backS s) (sl gm s.ms.length cm) (sl go s.os.length co) (sl gt s.tabs.length ct)) rfl Tryd.underlying37 rfl (by kernel_rfl)) rfl ⟨_, _, _, rfl, hO', HM.out.below⟩
set_option maxRecDepth 100000 in
set_option maxHeartbeats 4000000 in
theorem done_Homed {s : Scr} {m o t : Value} {w : World} (hr : RdScr w s m o t) (hT : U8 w) (hs : scrB s = true) :
    Calls Tryd.prog 56 #[.agg (scrL s m o t).toArray, .func (.func 57) #[] #[]] w fun e w' => ∃ m' o' t', e = .returned (.tuple #[.agg (scrL (toS s 72 1 1) m' o' t').toArray, .int .i64 0]) ∧ OwnScr w' w.heap.size (toS s 72 1 1) m' o' t' ∧ Below w.heap.size w w' := by
  have HFA := hid (scrB_facts hs)
  have HA : Hid (∀ W, Below w.heap.size w W → Calls Tryd.prog 46 #[.agg (scrL s m o t).toArray] W fun e w' => e = .returned (.bool true) ∧ Below W.heap.size W w') := hid fun W hW => mayS_l hs (hr.below hW) (hT.below hW)
  have HO := hid (fun W (hW : Below w.heap.size w W) => ownS_l (hr.below hW))
  have HX := hid (Mem.start w)
  clear hs hr hT
  go_enter Tryd.func56, Tryd.ntmps56
  go_upto_region 0 with (fail)
  refine wp_region_lit ?_
  refine m_box HX.out rfl rfl rfl ?_
  intro b w1 hM1
  simp only [Act.put, List.setIfInBounds_toArray, List.set_cons_zero, List.set_cons_succ]
  refine m_alloc hM1 rfl rfl info_zS ?_
  intro b' w2 hM
  simp only [Act.put, List.setIfInBounds_toArray, List.set_cons_zero, List.set_cons_succ]
  clear hM1
  have HM := hid (show Mem w w2 [(b', Row 37 zL), (b, Row 37 (scrL s m o t))] from hM)
  clear hM
  go_wp2_with (first | ((with_reducible refine wl_id ?_); refine m_loadS HM.out rfl rfl rfl (by first | exact .head _ | exact .tail _ (.head _) | exact .tail _ (.tail _ (.head _)) | exact .tail _ (.tail _ (.tail _ (.head _))) | exact .tail _ (.tail _ (.tail _ (.tail _ (.head _)))) | exact .tail _ (.tail _ (.tail _ (.tail _ (.tail _ (.head _))))) | exact .tail _ (.tail _ (.tail _ (.tail _ (.tail _ (.tail _ (.head _)))))) | exact .tail _ (.tail _ (.tail _ (.tail _ (.tail _ (.tail _ (.tail _ (.head _)))))))) (scrL s m o t) rfl Tryd.underlying37 rfl (by kernel_rfl) ?_; simp only [Act.put, List.setIfInBounds_toArray, List.set_cons_zero, List.set_cons_succ]) | (go_at_call 46; (with_reducible refine (HA.out _ HM.out.below).mono ?_); rintro e w3 ⟨rfl, hB⟩; have HM3 := hid (HM.out.call hB); clear hB HM; have HM := HM3; clear HM3) | (go_at_call 49; fail))
  refine (HO.out _ HM.out.below).mono ?_
  rintro e w3 ⟨m', o', t', rfl, hO, hB⟩
  obtain ⟨gm, cm, go, co, gt, ct, rfl, rfl, rfl, hM⟩ := HM.out.addScr hB hO HFA.out.2.1
  clear HM hO hB HA HO
  have HM := hid hM
  clear hM
  go_upto_region 5 with (first | ((with_reducible refine wl_id ?_); refine m_storeA HM.out rfl rfl rfl 4 rfl rfl rfl (by kernel_rfl) rfl ?_; intro w4 hM; simp only [Act.put, List.setIfInBounds_toArray, List.set_cons_zero, List.set_cons_succ]; simp only [List.set_cons_succ, List.set_cons_zero] at hM; clear HM; have HM := hid hM; clear hM) | ((with_reducible refine wl_id ?_); refine goesV_ (some 13) rfl rfl Tryd.func57 (by kernel_rfl) rfl #[.pointer (some ⟨b, 0, none⟩)] rfl rfl (by simp only [List.map_toArray, List.map_cons, List.map_nil]; rfl) ?_; refine (homed_any (i := 4) HM.out rfl HFA.out.1 (fun w' l hl => OwnB.rd (base := w.heap.size) (hl.own (.tail _ (.tail _ (.head _))))) HFA.out.2.2.1).mono ?_; rintro e w5 ⟨rfl, hM⟩; refine ⟨_, rfl, ?_⟩; simp only [Act.put, List.setIfInBounds_toArray, List.set_cons_zero, List.set_cons_succ]; simp only [List.set_cons_succ, List.set_cons_zero] at hM; clear HM; have HM := hid hM; clear hM))
  refine wp_region_lit ?_
  ((with_reducible refine wl_id ?_); refine m_loadS HM.out rfl rfl rfl (by first | exact .head _ | exact .tail _ (.head _) | exact .tail _ (.tail _ (.head _)) | exact .tail _ (.tail _ (.tail _ (.head _))) | exact .tail _ (.tail _ (.tail _ (.tail _ (.head _)))) | exact .tail _ (.tail _ (.tail _ (.tail _ (.tail _ (.head _))))) | exact .tail _ (.tail _ (.tail _ (.tail _ (.tail _ (.tail _ (.head _)))))) | exact .tail _ (.tail _ (.tail _ (.tail _ (.tail _ (.tail _ (.tail _ (.head _)))))))) (scrL (toS s 72 1 1) (sl gm s.ms.length cm) (sl go s.os.length co) (sl gt s.tabs.length ct)) rfl Tryd.underlying37 rfl (by kernel_rfl) ?_; simp only [Act.put, List.setIfInBounds_toArray, List.set_cons_zero, List.set_cons_succ])
  refine m_storeA HM.out rfl rfl rfl 3 rfl rfl rfl (by kernel_rfl) rfl ?_
  intro w6 hM
  simp only [Act.put, List.setIfInBounds_toArray, List.set_cons_zero, List.set_cons_succ]
  clear HM
  have HM := hid (show Mem w w6 [(gm, entC s.ms cm), (go, entC s.os co), (gt, entB s.tabs ct), (b', Row 37 (scrL (toS s 72 1 1) (sl gm s.ms.length cm) (sl go s.os.length co) (sl gt s.tabs.length ct))), (b, Row 37 (scrL (toS s 72 1 1) (sl gm s.ms.length cm) (sl go s.os.length co) (sl gt s.tabs.length ct)))] from hM)
  clear hM
  go_wp2
  have hO := HM.out.scr (s := s)
  have hO' : OwnScr w6 w.heap.size (toS s 72 1 1) (sl gm s.ms.length cm) (sl go s.os.length co) (sl gt s.tabs.length ct) := hO.as (toS_keeps s 72 1 1).1 (toS_keeps s 72 1 1).2.1 (toS_keeps s 72 1 1).2.2.1
  exact bodyPost_ret (m_results2 HM.out Tryd.results56 _ rfl (v := .int .i64 0) rfl (.tail _ (.tail _ (.tail _ (.head _)))) (scrL (toS s 72 1 1) (sl gm s.ms.length cm) (sl go s.os.length co) (sl gt s.tabs.length ct)) rfl Tryd.underlying37 rfl (by kernel_rfl)) rfl ⟨_, _, _, rfl, hO', HM.out.below⟩
set_option maxRecDepth 100000 in
set_option maxHeartbeats 4000000 in
theorem done_bad {s : Scr} {m o t : Value} {f : Value} {w : World} (hr : RdScr w s m o t) (hT : U8 w) (hs : scrB s = false) :
    Calls Tryd.prog 56 #[.agg (scrL s m o t).toArray, f] w fun e w' => e = .returned (.tuple #[.agg zL.toArray, .int .i64 1]) ∧ Below w.heap.size w w' := by
  have HA : Hid (∀ W, Below w.heap.size w W → Calls Tryd.prog 46 #[.agg (scrL s m o t).toArray] W fun e w' => e = .returned (.bool false) ∧ Below W.heap.size W w') := hid fun W hW => mayS_l hs (hr.below hW) (hT.below hW)
  have HX := hid (Mem.start w)
  clear hs hr hT
  go_enter Tryd.func56, Tryd.ntmps56
  go_upto_region 0 with (fail)
  refine wp_region_lit ?_
  refine m_box HX.out rfl rfl rfl ?_
  intro b w1 hM1
  simp only [Act.put, List.setIfInBounds_toArray, List.set_cons_zero, List.set_cons_succ]
  refine m_alloc hM1 rfl rfl info_zS ?_
  intro b' w2 hM
  simp only [Act.put, List.setIfInBounds_toArray, List.set_cons_zero, List.set_cons_succ]
  clear hM1
  have HM := hid (show Mem w w2 [(b', Row 37 zL), (b, Row 37 (scrL s m o t))] from hM)
  clear hM
  go_upto_region 2 with (first | ((with_reducible refine wl_id ?_); refine m_loadS HM.out rfl rfl rfl (by first | exact .head _ | exact .tail _ (.head _) | exact .tail _ (.tail _ (.head _)) | exact .tail _ (.tail _ (.tail _ (.head _))) | exact .tail _ (.tail _ (.tail _ (.tail _ (.head _)))) | exact .tail _ (.tail _ (.tail _ (.tail _ (.tail _ (.head _))))) | exact .tail _ (.tail _ (.tail _ (.tail _ (.tail _ (.tail _ (.head _)))))) | exact .tail _ (.tail _ (.tail _ (.tail _ (.tail _ (.tail _ (.tail _ (.head _)))))))) (scrL s m o t) rfl Tryd.underlying37 rfl (by kernel_rfl) ?_; simp only [Act.put, List.setIfInBounds_toArray, List.set_cons_zero, List.set_cons_succ]) | (go_at_call 46; (with_reducible refine (HA.out _ HM.out.below).mono ?_); rintro e w3 ⟨rfl, hB⟩; have HM3 := hid (HM.out.call hB); clear hB HM; have HM := HM3; clear HM3))
  refine wp_region_lit ?_
  refine m_build0 rfl rfl (build_zS _) ?_
  simp only [Act.put, List.setIfInBounds_toArray, List.set_cons_zero, List.set_cons_succ]
  refine m_storeA HM.out rfl rfl rfl 0 rfl rfl rfl (by kernel_rfl) rfl ?_
  intro wz hM
  simp only [Act.put, List.setIfInBounds_toArray, List.set_cons_zero, List.set_cons_succ]
  clear HM
  have HM := hid hM
  clear hM
  go_wp2
  exact bodyPost_ret (m_results2 HM.out Tryd.results56 _ rfl rfl (.head _) zL rfl Tryd.underlying37 rfl (by kernel_rfl)) rfl ⟨rfl, HM.out.below⟩
/-- what a call of the three comes to -/
def KeepPost (w : World) (R : Scr) (ec : Int) (e : Ending) (w' : World) : Prop := ∃ A1 k1 A2 k2 A3 k3, e = .returned (.tuple #[.agg (scrL R (.slice A1 R.ms.length k1) (.slice A2 R.os.length k2) (.slice A3 R.tabs.length k3)).toArray, .int .i64 ec]) ∧ OwnScr w' w.heap.size R (.slice A1 R.ms.length k1) (.slice A2 R.os.length k2) (.slice A3 R.tabs.length k3) ∧ Below w.heap.size w w'
theorem KeepPost.good {w w' : World} {R : Scr} {e : Ending} (h : ∃ m' o' t', e = .returned (.tuple #[.agg (scrL R m' o' t').toArray, .int .i64 0]) ∧ OwnScr w' w.heap.size R m' o' t' ∧ Below w.heap.size w w') : KeepPost w R 0 e w' := by
  obtain ⟨m', o', t', rfl, hO, hB⟩ := h
  obtain ⟨A1, k1, rfl⟩ := hO.hm.slice
  obtain ⟨A2, k2, rfl⟩ := hO.ho.slice
  obtain ⟨A3, k3, rfl⟩ := ownB_slice hO.ht
  exact ⟨A1, k1, A2, k2, A3, k3, rfl, hO, hB⟩
theorem KeepPost.bad {w w' : World} {e : Ending} (h : e = .returned (.tuple #[.agg zL.toArray, .int .i64 1]) ∧ Below w.heap.size w w') : KeepPost w zS 1 e w' := by
  obtain ⟨rfl, hB⟩ := h
  exact ⟨none, 0, none, 0, none, 0, rfl, zS_own _ _, hB⟩
set_option maxRecDepth 100000 in
set_option maxHeartbeats 4000000 in
theorem Save_out {s : Scr} {m o t : Value} {R : Scr} {ec : Int} {w : World} (h : ∀ W, Below w.heap.size w W → Calls Tryd.prog 56 #[.agg (scrL s m o t).toArray, .func (.func 58) #[] #[]] W fun e w' => KeepPost W R ec e w') :
    Calls Tryd.prog 32 #[.agg (scrL s m o t).toArray] w fun e w' => KeepPost w R ec e w' := by
  have HD := hid h
  have HX := hid (Mem.start w)
  clear h
  go_enter Tryd.func32, Tryd.ntmps32
  go_upto_region 0 with (fail)
  refine wp_region_lit ?_
  refine m_box HX.out rfl rfl rfl ?_
  intro b w1 hM1
  simp only [Act.put, List.setIfInBounds_toArray, List.set_cons_zero, List.set_cons_succ]
  refine m_alloc hM1 rfl rfl info_zS ?_
  intro b' w2 hM
  simp only [Act.put, List.setIfInBounds_toArray, List.set_cons_zero, List.set_cons_succ]
  clear hM1
  have HM := hid (show Mem w w2 [(b', Row 37 zL), (b, Row 37 (scrL s m o t))] from hM)
  clear hM
  go_wp2_with (first | ((with_reducible refine wl_id ?_); refine m_loadS HM.out rfl rfl rfl (by first | exact .head _ | exact .tail _ (.head _) | exact .tail _ (.tail _ (.head _)) | exact .tail _ (.tail _ (.tail _ (.head _))) | exact .tail _ (.tail _ (.tail _ (.tail _ (.head _)))) | exact .tail _ (.tail _ (.tail _ (.tail _ (.tail _ (.head _))))) | exact .tail _ (.tail _ (.tail _ (.tail _ (.tail _ (.tail _ (.head _)))))) | exact .tail _ (.tail _ (.tail _ (.tail _ (.tail _ (.tail _ (.tail _ (.head _)))))))) (scrL s m o t) rfl Tryd.underlying37 rfl (by kernel_rfl) ?_; simp only [Act.put, List.setIfInBounds_toArray, List.set_cons_zero, List.set_cons_succ]) | (go_at_call 56; fail))
  refine (HD.out _ HM.out.below).mono ?_
  rintro e w3 ⟨A1, k1, A2, k2, A3, k3, rfl, hO, hB⟩
  have HM3 := hid (HM.out.call hB)
  have HO := hid (show OwnScr w3 w.heap.size R _ _ _ from ⟨OwnC.lower hO.hm HM.out.below.size, OwnC.lower hO.ho HM.out.below.size, ownB_lower (w' := w) hO.ht HM.out.below.size, hO.mo, hO.mt, hO.ot⟩)
  have HLT := hid (HM.out.lt (.head _))
  have HO0 := hid hO
  clear hO hB HM
  have HM := HM3
  clear HM3
  go_wp2_with (first | ((with_reducible refine wl_id ?_); refine m_storeAG HM.out rfl rfl rfl 0 rfl rfl rfl (by kernel_rfl) rfl ?_; intro wx hM hg; simp only [Act.put, List.setIfInBounds_toArray, List.set_cons_zero, List.set_cons_succ]; simp only [List.set_cons_succ, List.set_cons_zero] at hM; have HMx := hid hM; have HGx := hid hg; clear hM hg))
  have hO := HO.out
  have hlt := HLT.out
  have hne : ∀ (x : Value) (nn : Nat) (ee : TypeId) (q : Nat) (xs : List Value), w3.ownsRow w2.heap.size ee q x nn xs → x.ownBlock = none ∨ x.ownBlock ≠ some b' := fun x nn ee q xs hx => .inr fun e => by have := (hx.lt b' e).1; omega
  exact bodyPost_ret (m_results2 HMx.out Tryd.results32 _ rfl (v := .int .i64 ec) rfl (.head _) (scrL R (.slice A1 R.ms.length k1) (.slice A2 R.os.length k2) (.slice A3 R.tabs.length k3)) rfl Tryd.underlying37 rfl (by kernel_rfl)) rfl ⟨A1, k1, A2, k2, A3, k3, rfl, ⟨hO.hm.kept HGx.out (hne _ _ _ _ _ HO0.out.hm), hO.ho.kept HGx.out (hne _ _ _ _ _ HO0.out.ho), hO.ht.kept HGx.out (hne _ _ _ _ _ HO0.out.ht), hO.mo, hO.mt, hO.ot⟩, HMx.out.below⟩
set_option maxRecDepth 100000 in
set_option maxHeartbeats 4000000 in
theorem Restore_out {s : Scr} {m o t : Value} {R : Scr} {ec : Int} {w : World} (h : ∀ W, Below w.heap.size w W → Calls Tryd.prog 56 #[.agg (scrL s m o t).toArray, .func (.func 59) #[] #[]] W fun e w' => KeepPost W R ec e w') :
    Calls Tryd.prog 33 #[.agg (scrL s m o t).toArray] w fun e w' => KeepPost w R ec e w' := by
  have HD := hid h
  have HX := hid (Mem.start w)
  clear h
  go_enter Tryd.func33, Tryd.ntmps33
  go_upto_region 0 with (fail)
  refine wp_region_lit ?_
  refine m_box HX.out rfl rfl rfl ?_
  intro b w1 hM1
  simp only [Act.put, List.setIfInBounds_toArray, List.set_cons_zero, List.set_cons_succ]
  refine m_alloc hM1 rfl rfl info_zS ?_
  intro b' w2 hM
  simp only [Act.put, List.setIfInBounds_toArray, List.set_cons_zero, List.set_cons_succ]
  clear hM1
  have HM := hid (show Mem w w2 [(b', Row 37 zL), (b, Row 37 (scrL s m o t))] from hM)
  clear hM
  go_wp2_with (first | ((with_reducible refine wl_id ?_); refine m_loadS HM.out rfl rfl rfl (by first | exact .head _ | exact .tail _ (.head _) | exact .tail _ (.tail _ (.head _)) | exact .tail _ (.tail _ (.tail _ (.head _))) | exact .tail _ (.tail _ (.tail _ (.tail _ (.head _)))) | exact .tail _ (.tail _ (.tail _ (.tail _ (.tail _ (.head _))))) | exact .tail _ (.tail _ (.tail _ (.tail _ (.tail _ (.tail _ (.head _)))))) | exact .tail _ (.tail _ (.tail _ (.tail _ (.tail _ (.tail _ (.tail _ (.head _)))))))) (scrL s m o t) rfl Tryd.underlying37 rfl (by kernel_rfl) ?_; simp only [Act.put, List.setIfInBounds_toArray, List.set_cons_zero, List.set_cons_succ]) | (go_at_call 56; fail))
  refine (HD.out _ HM.out.below).mono ?_
  rintro e w3 ⟨A1, k1, A2, k2, A3, k3, rfl, hO, hB⟩
  have HM3 := hid (HM.out.call hB)
  have HO := hid (show OwnScr w3 w.heap.size R _ _ _ from ⟨OwnC.lower hO.hm HM.out.below.size, OwnC.lower hO.ho HM.out.below.size, ownB_lower (w' := w) hO.ht HM.out.below.size, hO.mo, hO.mt, hO.ot⟩)
  have HLT := hid (HM.out.lt (.head _))
  have HO0 := hid hO
  clear hO hB HM
  have HM := HM3
  clear HM3
  go_wp2_with (first | ((with_reducible refine wl_id ?_); refine m_storeAG HM.out rfl rfl rfl 0 rfl rfl rfl (by kernel_rfl) rfl ?_; intro wx hM hg; simp only [Act.put, List.setIfInBounds_toArray, List.set_cons_zero, List.set_cons_succ]; simp only [List.set_cons_succ, List.set_cons_zero] at hM; have HMx := hid hM; have HGx := hid hg; clear hM hg))
  have hO := HO.out
  have hlt := HLT.out
  have hne : ∀ (x : Value) (nn : Nat) (ee : TypeId) (q : Nat) (xs : List Value), w3.ownsRow w2.heap.size ee q x nn xs → x.ownBlock = none ∨ x.ownBlock ≠ some b' := fun x nn ee q xs hx => .inr fun e => by have := (hx.lt b' e).1; omega
  exact bodyPost_ret (m_results2 HMx.out Tryd.results33 _ rfl (v := .int .i64 ec) rfl (.head _) (scrL R (.slice A1 R.ms.length k1) (.slice A2 R.os.length k2) (.slice A3 R.tabs.length k3)) rfl Tryd.underlying37 rfl (by kernel_rfl)) rfl ⟨A1, k1, A2, k2, A3, k3, rfl, ⟨hO.hm.kept HGx.out (hne _ _ _ _ _ HO0.out.hm), hO.ho.kept HGx.out (hne _ _ _ _ _ HO0.out.ho), hO.ht.kept HGx.out (hne _ _ _ _ _ HO0.out.ht), hO.mo, hO.mt, hO.ot⟩, HMx.out.below⟩
set_option maxRecDepth 100000 in
set_option maxHeartbeats 4000000 in
theorem Home_out {s : Scr} {m o t : Value} {R : Scr} {ec : Int} {w : World} (h : ∀ W, Below w.heap.size w W → Calls Tryd.prog 56 #[.agg (scrL s m o t).toArray, .func (.func 57) #[] #[]] W fun e w' => KeepPost W R ec e w') :
    Calls Tryd.prog 31 #[.agg (scrL s m o t).toArray] w fun e w' => KeepPost w R ec e w' := by
  have HD := hid h
  have HX := hid (Mem.start w)
  clear h
  go_enter Tryd.func31, Tryd.ntmps31
  go_upto_region 0 with (fail)
  refine wp_region_lit ?_
  refine m_box HX.out rfl rfl rfl ?_
  intro b w1 hM1
  simp only [Act.put, List.setIfInBounds_toArray, List.set_cons_zero, List.set_cons_succ]
  refine m_alloc hM1 rfl rfl info_zS ?_
  intro b' w2 hM
  simp only [Act.put, List.setIfInBounds_toArray, List.set_cons_zero, List.set_cons_succ]
  clear hM1
  have HM := hid (show Mem w w2 [(b', Row 37 zL), (b, Row 37 (scrL s m o t))] from hM)
  clear hM
  go_wp2_with (first | ((with_reducible refine wl_id ?_); refine m_loadS HM.out rfl rfl rfl (by first | exact .head _ | exact .tail _ (.head _) | exact .tail _ (.tail _ (.head _)) | exact .tail _ (.tail _ (.tail _ (.head _))) | exact .tail _ (.tail _ (.tail _ (.tail _ (.head _)))) | exact .tail _ (.tail _ (.tail _ (.tail _ (.tail _ (.head _))))) | exact .tail _ (.tail _ (.tail _ (.tail _ (.tail _ (.tail _ (.head _)))))) | exact .tail _ (.tail _ (.tail _ (.tail _ (.tail _ (.tail _ (.tail _ (.head _)))))))) (scrL s m o t) rfl Tryd.underlying37 rfl (by kernel_rfl) ?_; simp only [Act.put, List.setIfInBounds_toArray, List.set_cons_zero, List.set_cons_succ]) | (go_at_call 56; fail))
  refine (HD.out _ HM.out.below).mono ?_
  rintro e w3 ⟨A1, k1, A2, k2, A3, k3, rfl, hO, hB⟩
  have HM3 := hid (HM.out.call hB)
  have HO := hid (show OwnScr w3 w.heap.size R _ _ _ from ⟨OwnC.lower hO.hm HM.out.below.size, OwnC.lower hO.ho HM.out.below.size, ownB_lower (w' := w) hO.ht HM.out.below.size, hO.mo, hO.mt, hO.ot⟩)
  have HLT := hid (HM.out.lt (.head _))
  have HO0 := hid hO
  clear hO hB HM
  have HM := HM3
  clear HM3
  go_wp2_with (first | ((with_reducible refine wl_id ?_); refine m_storeAG HM.out rfl rfl rfl 0 rfl rfl rfl (by kernel_rfl) rfl ?_; intro wx hM hg; simp only [Act.put, List.setIfInBounds_toArray, List.set_cons_zero, List.set_cons_succ]; simp only [List.set_cons_succ, List.set_cons_zero] at hM; have HMx := hid hM; have HGx := hid hg; clear hM hg))
  have hO := HO.out
  have hlt := HLT.out
  have hne : ∀ (x : Value) (nn : Nat) (ee : TypeId) (q : Nat) (xs : List Value), w3.ownsRow w2.heap.size ee q x nn xs → x.ownBlock = none ∨ x.ownBlock ≠ some b' := fun x nn ee q xs hx => .inr fun e => by have := (hx.lt b' e).1; omega
  exact bodyPost_ret (m_results2 HMx.out Tryd.results31 _ rfl (v := .int .i64 ec) rfl (.head _) (scrL R (.slice A1 R.ms.length k1) (.slice A2 R.os.length k2) (.slice A3 R.tabs.length k3)) rfl Tryd.underlying37 rfl (by kernel_rfl)) rfl ⟨A1, k1, A2, k2, A3, k3, rfl, ⟨hO.hm.kept HGx.out (hne _ _ _ _ _ HO0.out.hm), hO.ho.kept HGx.out (hne _ _ _ _ _ HO0.out.ho), hO.ht.kept HGx.out (hne _ _ _ _ _ HO0.out.ht), hO.mo, hO.mt, hO.ot⟩, HMx.out.below⟩
end Go.Proofs.YtbjckahaalbpaaaDoor
