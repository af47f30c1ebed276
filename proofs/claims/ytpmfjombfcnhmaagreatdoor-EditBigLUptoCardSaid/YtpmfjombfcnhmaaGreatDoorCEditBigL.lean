/- EditBigL: what any screen is where L inserts rows, by any number, is the page's, or refused; for every input that holds at most 1048576 values and letters; the two tables of unicode/utf8 are as the program's text lays them. -/
import Derived.Test.YtpmfjombfcnhmaaGreatDoorCardB
import Derived.Test.YtpmfjombfcnhmaaGreatDoorELaws
set_option linter.unusedVariables false
set_option linter.unusedSimpArgs false
set_option linter.unnecessarySimpa false
namespace Go.Proofs.YtpmfjombfcnhmaaGreatDoor
open Go Go.ChangeShapes Go.WideShapes Go.ChangeAt Go.RowKit Go.Lib

theorem witness_editBigL (os : Os) {H : Type} (enc : TypeId × Value → H) :
    (Rows.OpenSpec.upto Rows.editBigLSpec).preRow enc Tryz.prog Tryz.f12 Rows.editBigLUptoRow.domain false Rows.editBigLUptoRow.laid ((laidWorld os).forCall (fun _ _ => 0) ⟨#[], #[wit], []⟩).memory #[wit] := by
  obtain ⟨x3, hx⟩ := reads_all os enc
  exact OpenSpec.preRow_of_cond 8 hx (by kernel_rfl) (fun k hk => by cases hk; kernel_rfl) (by kernel_rfl) (laid_all os _)
set_option maxRecDepth 100000 in
set_option maxHeartbeats 2000000 in
theorem lifted_editBigL (os : Os) (started : os.Started) (H : Type) (enc : TypeId × Value → H) (F : Stop.Interp) :
    ReturnsInHanded {} Tryz.checked os 12 .any ((Rows.OpenSpec.upto Rows.editBigLSpec).preRow enc Tryz.prog Tryz.f12 Rows.editBigLUptoRow.domain false Rows.editBigLUptoRow.laid) (((Rows.OpenSpec.upto Rows.editBigLSpec).at F).post enc Tryz.prog Tryz.f12 false true false false) := by
  refine returnsInHanded_of_row (C := Tryz.checked) (s := Rows.OpenSpec.upto Rows.editBigLSpec) own started (by kernel_rfl) Tryz.func12
    (witness_row_atRef (enc := enc) (C := Tryz.checked) false (laidWorld os) #[wit] rfl (vars_all os) (heap_all os) (by kernel_rfl) (witness_editBigL os enc)) ?_
  intro W base args ds gs before hval0 hW _ hcond _ hL _ _
  have hval : ∀ (j : Nat) t v, Tryz.f12.params[j]? = some t → args[j]? = some v → Value.okWide Tryz.prog W .any base t v := hval0
  have hW' := hW
  obtain ⟨p, q, hA0, hV, rfl, _, _⟩ := hW
  have hA : DataW.TrodAll enc Tryz.prog W 0 (fun _ => true) true Tryz.f12.params.toList args.toList ds p := hA0
  rw [Tryz.params12] at hA hval
  obtain ⟨v0, vs0, d0, ds0, p0, q0, hargs, rfl, rfl, h0, r0⟩ := trodAll_cons hA
  obtain ⟨rfl, rfl, rfl⟩ := trodAll_nil r0
  obtain rfl : args = #[v0] := by cases args; simp_all
  obtain ⟨rfl, rfl⟩ := trodVars_none hV
  have k0 := h0
  have lt0 : ∀ x ∈ p0, x.block < W.heap.size := by obtain ⟨m, hm⟩ := k0; exact DataW.trod_lt m _ _ _ hm
  have hb : Rows.uptoBulk d0 ≤ 1048576 := by
    have h := of_decide_eq_true (hcond _ rfl)
    simp only [List.append_nil, Rows.uptoBulkAll] at h
    omega
  obtain ⟨cs, rfl, hcl, _⟩ : ∃ cs, v0 = .agg cs ∧ cs.size = Tryz.prog.cellsOf 24 ∧ True := by
    have := hval 0 24 v0 rfl rfl
    unfold Value.okWide at this
    rw [Tryz.underlying24] at this
    obtain ⟨cs, a, b, _⟩ := this
    exact ⟨cs, a, b, trivial⟩
  obtain ⟨fuel, hf⟩ := h0
  have hrd := (Sh.rdB_of (B := 1048576) shAsk).1 24 fuel _ _ shAsk_fits hf hb
  obtain ⟨v, L, n, m, k, r, hcs, hR, hLl⟩ := rdB_ask hrd
  obtain rfl : cs = (askL v n m k r).toArray := by cases cs; simp [Value.cells] at hcs; rw [hcs]
  have hT : U8 W := tabs_of (Lib.laidMet.reads hL (.tail _ (.head _))) (Lib.laidMet.reads hL (.head _))
  clear hA0 hval0
  refine (walk_EditBigL hR hLl hT).mono fun e W' ⟨he, bel⟩ => ?_
  subst he
  exact ⟨_, rfl, _, _, _, [], _, [], hW', trodAll_mk1 (shut_bool Tryz.underlying4 _), (trodAll_cons_mk (Below.trod laidOut (by kernel_rfl) (of_decide_eq_true (by kernel_rfl)) k0 bel lt0) trodAll_mk0), rfl, bel.frame _, fun h => by cases h⟩
theorem said_editBigL : Rows.EditBigLUptoSaid :=
  OpenClaim.holds_of_cond 12 Tryz.f12 rfl rfl rfl rfl rfl rfl rfl ⟨rfl, rfl, rfl, rfl, rfl⟩ rfl rfl rfl rfl rfl (by kernel_rfl) Tryz.func12 (by kernel_rfl)
    (of_decide_eq_true (by kernel_rfl)) (by unfold Func.isWrapper; first | (rw [if_pos (by decide +kernel)]; kernel_rfl) | (rw [if_neg (by decide +kernel)]; exact ⟨rfl, rfl⟩))
    (fun os started H enc _ F => by rw [OpenClaim.pre_eq_preRow]; exact lifted_editBigL os started H enc F)
theorem plain_editBigL (f : FuncId) (fn : Func) (hf : Tryz.pinned.checked.prog.funcNamed "beacon/beaconlaw11.EditBigL" = some f) (hfn : Tryz.pinned.checked.prog.funcs[f]? = some fn) :
    false = Tryz.pinned.checked.prog.looks [] ∧ ∀ (j : Nat) t, fn.params[j]? = some t → Tryz.pinned.checked.prog.wantsStandIn t = false := by
  obtain rfl : f = 12 := Option.some.inj ((show Tryz.prog.funcNamed "beacon/beaconlaw11.EditBigL" = some 12 by kernel_rfl).symm.trans hf) |>.symm
  obtain rfl : fn = Tryz.f12 := (Option.some.inj (Tryz.func12.symm.trans hfn)).symm
  refine ⟨by kernel_rfl, fun j t ht => ?_⟩
  rw [Tryz.params12] at ht
  obtain rfl : t = 24 := by simpa using Array.mem_of_getElem? ht
  exact (show Tryz.prog.wantsStandIn 24 = false by kernel_rfl)
theorem editBigL_card : Rows.EditBigLUptoCardSaid :=
  Claim7.holds_tied_plain_at .later [] _ _ _ _ said_editBigL (fun _ h => by cases h) (by kernel_rfl) (fun _ h => by cases h) editBigLUpto_row_tie rfl ⟨rfl, rfl⟩ (by kernel_rfl) rfl plain_editBigL (by kernel_rfl)
end Go.Proofs.YtpmfjombfcnhmaaGreatDoor
