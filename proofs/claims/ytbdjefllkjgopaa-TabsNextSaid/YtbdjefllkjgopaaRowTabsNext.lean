/- TabsNext: the next stop is behind, and a stop, or the last column, and back from there it is not further than where one was, for every input. -/
import Derived.Test.YtbdjefllkjgopaaTabNext
import Derived.Test.YtbdjefllkjgopaaTabRd
import Derived.ShutString
import Derived.ChangeOld
namespace Go.Proofs.Ytbdjefllkjgopaa
open Go.ChangeShapes Go.WideShapes Go.ChangeAt Go.RowKit
theorem own : ownKnob Try.prog.godebug = none := by kernel_rfl
theorem laidOut : laidOutB Try.prog = true := by kernel_rfl
def sh_tabsNext : Sh := .st (.cons (.sl .bool 1 1) (.cons (.sl (.int .i64) 1 8) .nil))
set_option maxRecDepth 100000 in
theorem lifted_tabsNext (os : Os) (started : os.Started) (H : Type) (enc : TypeId × Value → H) :
    ReturnsInHanded {} Try.checked os 4 .any (Rows.tabsNextSpec.pre6 enc Try.prog Try.f4 Rows.tabsNextRow.domain false) (Rows.tabsNextSpec.post enc Try.prog Try.f4 false true false false) := by
  refine returnsInHanded_of_change_sized (C := Try.checked) own started (by kernel_rfl) Try.func4
    (ChangeSpec.witness6 (enc := enc) (C := Try.checked) false ⟨#[], #[.agg #[.slice none 0 0, .slice none 0 0]], []⟩ 8 (by kernel_rfl) (by kernel_rfl) (by kernel_rfl) (by kernel_rfl)) ?_
  intro W base args ds gs before hval0 hW hcnd hsz0 _
  have hsz : (DataW.weightsEach Try.prog (Try.f4.params.toList ++ Rows.tabsNextSpec.plain.varTypes Try.prog) (ds ++ gs)).all (· ≤ reachBytes) = true := hsz0
  have hval : ∀ (j : Nat) t v, Try.f4.params[j]? = some t → args[j]? = some v → Value.okWide Try.prog W .any base t v := hval0
  have hW' := hW
  obtain ⟨p, q, hA0, hV, rfl, hfz, hnd⟩ := hW
  have hA : DataW.TrodAll enc Try.prog W 0 (fun _ => true) true Try.f4.params.toList args.toList ds p := hA0
  rw [Try.params4] at hA hval hsz
  obtain ⟨v0, vs0, d0, ds0, p0, q0, hargs, rfl, rfl, h0, r0⟩ := trodAll_cons hA
  obtain ⟨rfl, rfl, rfl⟩ := trodAll_nil r0
  obtain rfl : args = #[v0] := by cases args; simp_all
  obtain ⟨rfl, rfl⟩ := trodVars_none hV
  have k0 := h0
  have lt0 : ∀ x ∈ p0, x.block < W.heap.size := by obtain ⟨m, hm⟩ := k0; exact DataW.trod_lt m _ _ _ hm
  obtain ⟨cs, rfl, hcl, _⟩ : ∃ cs, v0 = .agg cs ∧ cs.size = Try.prog.cellsOf 33 ∧ True := by
    have := hval 0 33 v0 rfl rfl
    unfold Value.okWide at this
    rw [Try.underlying33] at this
    obtain ⟨cs, a, b, _⟩ := this
    exact ⟨cs, a, b, trivial⟩
  obtain ⟨fuel, hf⟩ := h0
  have hrd := (Sh.rd_of sh_tabsNext).1 33 fuel _ _ (by kernel_rfl) hf (fun n hn => of_decide_eq_true (List.all_eq_true.1 hsz n (DataW.weights_mem_each (j := 0) rfl rfl n hn)))
  obtain ⟨c1, c2, hcs, hbools, ⟨c5, c6, rfl, hints, rfl⟩⟩ := hrd
  obtain ⟨v, l, rfl, hR, hll⟩ := rd_bools hbools
  obtain ⟨u, m, rfl, hR2, hmm, _⟩ := rd_ints hints
  obtain rfl : cs = #[v, u] := by cases cs; simp [Value.cells] at hcs; rw [hcs]
  clear hA0 hval0 hsz0 hsz
  refine (tabsNext_walk _ _ l W hR hll).mono fun e W' ⟨he, bel⟩ => ?_
  subst he
  exact ⟨_, rfl, _, _, _, [], _, [], hW', trodAll_mk1 (shut_bool Try.underlying4 _), (trodAll_cons_mk (Below.trod laidOut (by kernel_rfl) (of_decide_eq_true (by kernel_rfl)) k0 bel lt0) trodAll_mk0), rfl, bel.frame _, fun h => by cases h⟩
theorem tabsNext_holds : Rows.TabsNextSaid :=
  OpenClaim.holds_of_wide 4 Try.f4 rfl rfl rfl rfl rfl rfl rfl ⟨rfl, rfl, rfl, rfl, rfl⟩ rfl rfl rfl rfl rfl (by kernel_rfl) Try.func4 (by kernel_rfl)
    (of_decide_eq_true (by kernel_rfl)) (by unfold Func.isWrapper; first | (rw [if_pos (by decide +kernel)]; kernel_rfl) | (rw [if_neg (by decide +kernel)]; exact ⟨rfl, rfl⟩))
    (fun os started H enc _ => lifted_tabsNext os started H enc)
end Go.Proofs.Ytbdjefllkjgopaa
