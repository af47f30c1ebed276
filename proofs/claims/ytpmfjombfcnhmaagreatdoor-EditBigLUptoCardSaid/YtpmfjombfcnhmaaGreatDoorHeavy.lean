/- Screens that came in, in a slice; how much they are. -/
import Derived.Test.YtpmfjombfcnhmaaGreatDoorMove2
set_option linter.unusedVariables false
set_option linter.unusedSimpArgs false
set_option linter.unnecessarySimpa false
namespace Go.Proofs.YtpmfjombfcnhmaaGreatDoor
open Go Go.RowKit

structure SV where
  (s : Scr) (m o t : Value)
abbrev SV.l (x : SV) : List Value := scrL x.s x.m x.o x.t
/-- a slice of screens that came in -/
def RdSS (w : World) (v : Value) (L : List SV) : Prop :=
  ∃ A c, v = .slice A L.length c ∧ L.length ≤ c ∧ ∀ i (hi : i < L.length), ∃ b off, A = some ⟨b, off, none⟩ ∧ (∀ j u, (L[i]).l[j]? = some u → w.cell? ⟨b, off + i * 43 + j, none⟩ = some u) ∧ RdScr w (L[i]).s (L[i]).m (L[i]).o (L[i]).t
theorem RdSS.below {w w1 : World} {v : Value} {L : List SV} (h : RdSS w v L) (hb : Below w.heap.size w w1) : RdSS w1 v L := by
  obtain ⟨A, c, hv, hc, hr⟩ := h
  refine ⟨A, c, hv, hc, fun i hi => ?_⟩
  obtain ⟨b, off, hA, h1, h2⟩ := hr i hi
  exact ⟨b, off, hA, fun j u hj => cell_below hb (h1 j u hj), h2.below hb⟩
/-- an element loaded -/
theorem load_ss {w : World} {x : SV} {b o : Nat} (h : ∀ j u, x.l[j]? = some u → w.cell? ⟨b, o + j, none⟩ = some u) : (Instr.loadAt 38 (.pointer (some ⟨b, o, none⟩))).run Tryz.prog w = .ok (.agg x.l.toArray) w :=
  run_loadAt_mid w b o 38 x.l _ h Tryz.underlying38 rfl (by kernel_rfl)
theorem m_any {P : Program} {ops : Array Oper} {rest : List Oper} {op : Oper} {a : Act} {w : World} {Q : Exit → Act → World → Prop} (hgd : op.guard = none) {ty : TypeId} {x : Operand} {p v : Value} (ho : op.op = .load ty x) (hx : a.eval x = p)
    (hr : (Instr.loadAt ty p).run P w = .ok v w) (h : wpList P ops Q rest (a.put op.dst v) w) : wpList P ops Q (op :: rest) a w :=
  wpList_plain hgd fun K hK => by
    unfold Oper.wp execOp
    rw [ho]
    simp only [hx, Sem.run_bind, hr, Result.andThen_ok]
    exact hK _ _ h

set_option maxRecDepth 100000 in
set_option maxHeartbeats 1000000 in
theorem weight_any (s : Scr) (m o t : Value) (w : World) (hr : RdScr w s m o t) : Calls Tryz.prog 27 #[.agg (scrL s m o t).toArray] w fun e w' => ∃ x : Int, e = .returned (.int .i64 x) ∧ Below w.heap.size w w' := by
  obtain ⟨A1, c1, hm, -, -⟩ := hr.1.open_
  obtain ⟨A2, c2, ho, -, -⟩ := hr.2.1.open_
  obtain ⟨A3, c3, ht, -, -⟩ := hr.2.2.1.open_
  subst hm ho ht
  have HX := hid (Mem.start w)
  clear hr
  go_enter Tryz.func27, Tryz.ntmps27
  go_upto_region 0 with (fail)
  refine wp_region_lit ?_
  refine m_box HX.out rfl rfl rfl ?_
  intro b w1 hM
  simp only [Act.put, List.setIfInBounds_toArray, List.set_cons_zero, List.set_cons_succ]
  have HM := hid hM
  clear hM HX
  go_wp2_with (first | ((with_reducible refine wl_id ?_); refine m_load HM.out rfl rfl rfl (by first | exact .head _ | exact .tail _ (.head _) | exact .tail _ (.tail _ (.head _)) | exact .tail _ (.tail _ (.tail _ (.head _))) | exact .tail _ (.tail _ (.tail _ (.tail _ (.head _)))) | exact .tail _ (.tail _ (.tail _ (.tail _ (.tail _ (.head _))))) | exact .tail _ (.tail _ (.tail _ (.tail _ (.tail _ (.tail _ (.head _)))))) | exact .tail _ (.tail _ (.tail _ (.tail _ (.tail _ (.tail _ (.tail _ (.head _)))))))) rfl (by first | exact Tryz.underlying3 | exact Tryz.underlying4 | exact Tryz.underlying9 | exact Tryz.underlying29 | exact Tryz.underlying36) rfl ?_; simp only [Act.put, List.setIfInBounds_toArray, List.set_cons_zero, List.set_cons_succ]))
  go_ret
  exact ⟨_, rfl, HM.out.below⟩
/-- the weight's contract for whatever screen -/
def askL (v : Value) (n m k r : Int) : List Value := [v, .int .i64 n, .int .i64 m, .int .i64 k, .int .i64 r]
def SomeBool (w : World) (e : Ending) (w' : World) : Prop := ∃ x : Bool, e = .returned (.bool x) ∧ Below w.heap.size w w'
set_option maxRecDepth 100000 in
set_option maxHeartbeats 2000000 in
theorem heavy_any {L : List SV} {v : Value} {n m k r : Int} {w : World} (hv : RdSS w v L) (hL : L.length ≤ 1048576) : Calls Tryz.prog 17 #[.agg (askL v n m k r).toArray] w (SomeBool w) := by
  have HV : Hid (∀ W, Below w.heap.size w W → RdSS W v L) := hid fun W hW => hv.below hW
  obtain ⟨A, c, rfl, hc, -⟩ := hv
  have HX := hid (Mem.start w)
  go_enter Tryz.func17, Tryz.ntmps17
  go_upto_region 0 with (fail)
  refine wp_region_lit ?_
  refine m_box HX.out rfl rfl rfl ?_
  intro b w1 hM
  simp only [Act.put, List.setIfInBounds_toArray, List.set_cons_zero, List.set_cons_succ]
  have HM := hid hM
  clear hM HX
  go_wp2_with (first | ((with_reducible refine wl_id ?_); refine m_load HM.out rfl rfl rfl (by first | exact .head _ | exact .tail _ (.head _) | exact .tail _ (.tail _ (.head _)) | exact .tail _ (.tail _ (.tail _ (.head _))) | exact .tail _ (.tail _ (.tail _ (.tail _ (.head _)))) | exact .tail _ (.tail _ (.tail _ (.tail _ (.tail _ (.head _))))) | exact .tail _ (.tail _ (.tail _ (.tail _ (.tail _ (.tail _ (.head _)))))) | exact .tail _ (.tail _ (.tail _ (.tail _ (.tail _ (.tail _ (.tail _ (.head _)))))))) rfl Tryz.underlying22 rfl ?_; simp only [Act.put, List.setIfInBounds_toArray, List.set_cons_zero, List.set_cons_succ]))
  go_loopw [3, 4] (fun x i wr => ∃ (j : Nat) (q : Int), j ≤ L.length ∧ i = .int .i64 j ∧ x = .int .i64 q ∧ Hid (Mem w wr [(b, Row 24 (askL (.slice A L.length c) n m k r))])) (fun _ i _ => L.length - (intOf i).toNat)
  case atStart => exact ⟨0, _, Nat.zero_le _, rfl, rfl, HM⟩
  case round =>
    obtain ⟨j, q, hj, rfl, rfl, HMr⟩ := hrel
    have HVr := hid (HV.out wr HMr.out.below)
    have HM2 := HMr
    clear HM HMr
    have HM := HM2
    clear HM2
    by_cases hlt : j < L.length
    · have hlt2 : (j : Int) < (L.length : Int) := by omega
      obtain ⟨A', c', e1, -, hcells⟩ := HVr.out
      obtain ⟨b0, off, e2, h1, h2⟩ := hcells j hlt
      cases e1
      subst e2
      have HE := hid h1
      have HR := hid h2
      clear hcells h1 h2
      by_cases hq : q < 1048576
      · go_wp2_with (first | ((with_reducible refine wl_id ?_); refine m_load HM.out rfl rfl rfl (by first | exact .head _ | exact .tail _ (.head _) | exact .tail _ (.tail _ (.head _)) | exact .tail _ (.tail _ (.tail _ (.head _))) | exact .tail _ (.tail _ (.tail _ (.tail _ (.head _)))) | exact .tail _ (.tail _ (.tail _ (.tail _ (.tail _ (.head _))))) | exact .tail _ (.tail _ (.tail _ (.tail _ (.tail _ (.tail _ (.head _)))))) | exact .tail _ (.tail _ (.tail _ (.tail _ (.tail _ (.tail _ (.tail _ (.head _)))))))) rfl Tryz.underlying22 rfl ?_; simp only [Act.put, List.setIfInBounds_toArray, List.set_cons_zero, List.set_cons_succ]) | ((with_reducible refine wl_id ?_); refine m_any rfl rfl rfl (load_ss HE.out) ?_; simp only [Act.put, List.setIfInBounds_toArray, List.set_cons_zero, List.set_cons_succ]) | (go_at_call 27; fail))
        refine (weight_any _ _ _ _ wr HR.out).mono ?_
        rintro e w2 ⟨y, rfl, hB⟩
        have HM2 := hid (HM.out.call hB)
        clear hB
        go_wp2
        go_roundw
        case rel => exact ⟨j + 1, _, by omega, by go_num, rfl, HM2⟩
        case measure => simp [intOf]; omega
      · go_wp2_with (first | ((with_reducible refine wl_id ?_); refine m_load HM.out rfl rfl rfl (by first | exact .head _ | exact .tail _ (.head _) | exact .tail _ (.tail _ (.head _)) | exact .tail _ (.tail _ (.tail _ (.head _))) | exact .tail _ (.tail _ (.tail _ (.tail _ (.head _)))) | exact .tail _ (.tail _ (.tail _ (.tail _ (.tail _ (.head _))))) | exact .tail _ (.tail _ (.tail _ (.tail _ (.tail _ (.tail _ (.head _)))))) | exact .tail _ (.tail _ (.tail _ (.tail _ (.tail _ (.tail _ (.tail _ (.head _)))))))) rfl Tryz.underlying22 rfl ?_; simp only [Act.put, List.setIfInBounds_toArray, List.set_cons_zero, List.set_cons_succ]))
        go_ret
        exact ⟨_, rfl, HM.out.below⟩
    · have hlt2 : ¬ (j : Int) < (L.length : Int) := by omega
      go_wp2_with (first | ((with_reducible refine wl_id ?_); refine m_load HM.out rfl rfl rfl (by first | exact .head _ | exact .tail _ (.head _) | exact .tail _ (.tail _ (.head _)) | exact .tail _ (.tail _ (.tail _ (.head _))) | exact .tail _ (.tail _ (.tail _ (.tail _ (.head _)))) | exact .tail _ (.tail _ (.tail _ (.tail _ (.tail _ (.head _))))) | exact .tail _ (.tail _ (.tail _ (.tail _ (.tail _ (.tail _ (.head _)))))) | exact .tail _ (.tail _ (.tail _ (.tail _ (.tail _ (.tail _ (.tail _ (.head _)))))))) rfl Tryz.underlying22 rfl ?_; simp only [Act.put, List.setIfInBounds_toArray, List.set_cons_zero, List.set_cons_succ]))
      go_ret
      exact ⟨_, rfl, HM.out.below⟩
end Go.Proofs.YtpmfjombfcnhmaaGreatDoor
