/- Memory of a call's own, told block by block: 'Mem w0 w F': below the first world's end nothing has turned; each block of F holds what F says; they are apart. -/
import Derived.Test.YtpmfjombfcnhmaaGreatDoorSCop
import Derived.Deep.MidRow
import Derived.StillTailTactics
set_option linter.unusedVariables false
set_option linter.unusedSimpArgs false
namespace Go.Proofs.YtpmfjombfcnhmaaGreatDoor
open Go Go.RowKit

abbrev Ent := Nat × (Obj → Prop)
def Row (t : TypeId) (l : List Value) : Obj → Prop := fun o => o = .cells l.toArray t (0, 0)
structure Mem (w0 w : World) (F : List Ent) : Prop where
  below : Below w0.heap.size w0 w
  here : ∀ x ∈ F, w0.heap.size ≤ x.1 ∧ ∃ o, w.heap[x.1]? = some o ∧ x.2 o
  apart : F.Pairwise fun x y => x.1 ≠ y.1

namespace Mem
variable {w0 w w' : World} {F : List Ent} {b : Nat} {t : TypeId} {l : List Value}
theorem start (w : World) : Mem w w [] := ⟨Below.refl _ _, (fun _ h => by cases h), List.Pairwise.nil⟩
theorem lt (h : Mem w0 w F) {x : Ent} (hx : x ∈ F) : x.1 < w.heap.size := by
  obtain ⟨_, o, ho, _⟩ := h.here x hx
  exact (Array.getElem?_eq_some_iff.1 ho).1
theorem heap (h : Mem w0 w F) (hx : (b, Row t l) ∈ F) : w.heap[b]? = some (.cells l.toArray t (0, 0)) := by
  obtain ⟨_, o, ho, hp⟩ := h.here _ hx
  rw [ho]; exact congrArg some hp
theorem cell (h : Mem w0 w F) (hx : (b, Row t l) ∈ F) {k : Nat} {v : Value} (hk : l[k]? = some v) : w.cell? ⟨b, k, none⟩ = some v := by
  simp [World.cell?, h.heap hx, hk]
theorem free (h : Mem w0 w F) (hx : (b, Row t l) ∈ F) (k : Nat) : w.frozen? ⟨b, k, none⟩ = false := by
  simp [World.frozen?, h.heap hx]
theorem range (h : Mem w0 w F) (hx : (b, Row t l) ∈ F) {o : Nat} {cs : List Value} (hk : (l.drop o).take cs.length = cs) : w.rangeAt b o cs := fun j v hj => by
  refine h.cell hx ?_
  have hl : j < cs.length := (List.getElem?_eq_some_iff.1 hj).1
  rw [← hk, List.getElem?_take] at hj
  simpa [hl] using hj
theorem there (h : Mem w0 w F) (hx : (b, Row t l) ∈ F) {o n : Nat} (hn : o + n ≤ l.length) : w.there b o n := fun j hj =>
  ⟨by rw [h.cell hx (List.getElem?_eq_getElem (by omega))]; rfl, h.free hx _⟩
theorem rowL (h : Mem w0 w F) (hx : (b, Row t l) ∈ F) : RowL w b t l := by
  refine ⟨l.toArray, h.heap hx, by simp, fun i hi => by simp [hi]⟩
theorem alloc (h : Mem w0 w F) {p : Obj → Prop} {o : Obj} (hp : p o) : Mem w0 (w.alloc o) ((w.heap.size, p) :: F) := by
  refine ⟨alloc_below h.below o, fun x hx => ?_, List.pairwise_cons.2 ⟨fun x hx => ?_, h.apart⟩⟩
  · rcases List.mem_cons.1 hx with rfl | hx
    · exact ⟨h.below.size, o, heap_alloc_new w o, hp⟩
    · obtain ⟨h1, o', ho', hp'⟩ := h.here x hx
      exact ⟨h1, o', by rw [Below.heap_alloc _ _ _ (h.lt hx)]; exact ho', hp'⟩
  · have := h.lt hx
    simp only; omega
theorem cells (h : Mem w0 w F) (cs : Array Value) (t : TypeId) : Mem w0 (w.alloc (.cells cs t)) ((w.heap.size, Row t cs.toList) :: F) := h.alloc (p := Row t cs.toList) (by show _ = _; simp)
theorem call (h : Mem w0 w F) (hb : Below w.heap.size w w') : Mem w0 w' F :=
  ⟨h.below.trans (hb.mono h.below.size), fun x hx => by obtain ⟨h1, o, ho, hp⟩ := h.here x hx; exact ⟨h1, o, (hb.block _ (h.lt hx)).trans ho, hp⟩, h.apart⟩
theorem drew (h : Mem w0 w F) : Mem w0 w.drew F := h.call (Below.refl _ _).drew
theorem sub {G : List Ent} (h : Mem w0 w F) (hs : List.Sublist G F) : Mem w0 w G := ⟨h.below, fun x hx => h.here x (hs.subset hx), h.apart.sublist hs⟩
/-- a write into one of its blocks, and new memory -/
theorem grown (h : Mem w0 w F) {i : Nat} {p p' : Obj → Prop} (hx : F[i]? = some (b, p)) (hg : w.grownBy w' (some b)) (hp : ∃ o, w'.heap[b]? = some o ∧ p' o) : Mem w0 w' (F.set i (b, p')) := by
  have hmem : (b, p) ∈ F := List.mem_of_getElem? hx
  have h0 := (h.here _ hmem).1
  refine ⟨h.below.grown hg h.below.size (fun k hk => by cases hk; exact h0), fun x hx2 => ?_, ?_⟩
  · obtain ⟨j, hj, e⟩ := List.getElem_of_mem hx2
    rw [List.getElem_set] at e
    split at e
    · subst e; exact ⟨h0, hp⟩
    · rename_i hij
      simp only [List.length_set] at hj
      subst e
      obtain ⟨h1, o, ho, hp'⟩ := h.here _ (List.getElem_mem hj)
      refine ⟨h1, o, (hg.block _ (h.lt (List.getElem_mem hj)) ?_).trans ho, hp'⟩
      obtain ⟨hi, hxi⟩ := List.getElem?_eq_some_iff.1 hx
      have := List.pairwise_iff_getElem.1 h.apart
      intro e
      have e' : F[j].1 = F[i].1 := by rw [hxi]; exact Option.some.inj e
      rcases Nat.lt_or_gt_of_ne hij with hlt | hlt
      · exact this i j hi hj hlt e'.symm
      · exact this j i hj hi hlt e'
  · rw [List.pairwise_iff_getElem]
    intro j k hj hk hjk
    simp only [List.length_set] at hj hk
    have hp2 := List.pairwise_iff_getElem.1 h.apart j k hj hk hjk
    obtain ⟨hi, hxi⟩ := List.getElem?_eq_some_iff.1 hx
    have e : ∀ q (hq : q < F.length), ((F.set i (b, p'))[q]'(by simpa using hq)).1 = F[q].1 := fun q hq => by
      rw [List.getElem_set]
      split
      · rename_i hiq; subst hiq; rw [hxi]
      · rfl
    show ((F.set i (b, p'))[j]'_).1 ≠ ((F.set i (b, p'))[k]'_).1
    rw [e j hj, e k hk]; exact hp2
/-- a write elsewhere -/
theorem other (h : Mem w0 w F) {row : Option Nat} (hg : w.grownBy w' row) (hr : ∀ k, row = some k → w0.heap.size ≤ k ∧ ∀ x ∈ F, x.1 ≠ k) : Mem w0 w' F :=
  ⟨h.below.grown hg h.below.size (fun k hk => (hr k hk).1), fun x hx => by
    obtain ⟨h1, o, ho, hp⟩ := h.here x hx
    exact ⟨h1, o, (hg.block _ (h.lt hx) (fun e => (hr _ e.symm).2 x hx rfl)).trans ho, hp⟩, h.apart⟩
theorem ofBelow (h : Below w0.heap.size w0 w) : Mem w0 w [] := ⟨h, (fun _ h => by cases h), List.Pairwise.nil⟩
theorem lower (h : Mem w w' F) (hB : Below w0.heap.size w0 w) : Mem w0 w' F := ⟨hB.trans (h.below.mono hB.size), fun x hx => ⟨Nat.le_trans hB.size (h.here x hx).1, (h.here x hx).2⟩, h.apart⟩
/-- a block that the callee made -/
theorem add (h : Mem w0 w F) (hb : Below w.heap.size w w') {p : Obj → Prop} (hge : w.heap.size ≤ b) (hp : ∃ o, w'.heap[b]? = some o ∧ p o) : Mem w0 w' ((b, p) :: F) := by
  have h' := h.call hb
  refine ⟨h'.below, fun x hx => ?_, List.pairwise_cons.2 ⟨fun x hx => ?_, h.apart⟩⟩
  · rcases List.mem_cons.1 hx with rfl | hx
    · exact ⟨Nat.le_trans h.below.size hge, hp⟩
    · exact h'.here x hx
  · have := h.lt hx
    simp only; omega
theorem set (h : Mem w0 w F) {i : Nat} (hx : F[i]? = some (b, Row t l)) (k : Nat) (v : Value) : Mem w0 (w.setCell ⟨b, k, none⟩ v) (F.set i (b, Row t (l.set k v))) := by
  refine h.grown hx (grown_set w b k v) ⟨_, ?_, rfl⟩
  have := h.heap (List.mem_of_getElem? hx)
  simp [World.setCell, Array.getElem?_modify, this]
def putL : List Value → Nat → List Value → List Value
  | l, _, [] => l
  | l, o, v :: r => putL (l.set o v) (o + 1) r
theorem putL_eq : ∀ (vs : List Value) (o : Nat) (l : List Value), o + vs.length ≤ l.length → putL l o vs = l.take o ++ vs ++ l.drop (o + vs.length)
  | [], o, l, _ => by simp [putL]
  | v :: r, o, l, h => by
    simp only [List.length_cons] at h
    rw [putL, putL_eq r (o + 1) _ (by rw [List.length_set]; omega)]
    have h1 : (l.set o v).take (o + 1) = l.take o ++ [v] := by
      rw [List.take_succ_eq_append_getElem (by rw [List.length_set]; omega), List.take_set_of_le (Nat.le_refl _)]; simp
    have h2 : (l.set o v).drop (o + 1 + r.length) = l.drop (o + (v :: r).length) := by
      rw [List.drop_set_of_lt (by omega), List.length_cons, show o + 1 + r.length = o + (r.length + 1) by omega]
    rw [h1, h2]; simp
theorem putL_all {l cs : List Value} (h : cs.length = l.length) : putL l 0 cs = cs := by
  rw [putL_eq cs 0 l (by omega)]; simp [h]
theorem heap_sets : ∀ (vs : List Value) (o : Nat) (w : World) (l : List Value), w.heap[b]? = some (.cells l.toArray t (0, 0)) → (w.setCells b o vs).heap[b]? = some (.cells (putL l o vs).toArray t (0, 0))
  | [], _, _, _, h => h
  | v :: r, o, w, l, h => by
    rw [World.setCells, putL]
    refine heap_sets r (o + 1) _ _ ?_
    simp [World.setCell, Array.getElem?_modify, h]
theorem sets (h : Mem w0 w F) {i : Nat} (hx : F[i]? = some (b, Row t l)) (o : Nat) (vs : List Value) : Mem w0 (w.setCells b o vs) (F.set i (b, Row t (putL l o vs))) :=
  h.grown hx (grown_setCells vs o w) ⟨_, heap_sets vs o w l (h.heap (List.mem_of_getElem? hx)), rfl⟩
end Mem

/-! ### the walk's operations -/
section
variable {P : Program} {ops : Array Oper} {rest : List Oper} {op : Oper} {a : Act} {w0 w : World} {Q : Exit → Act → World → Prop} {F : List Ent}
theorem run_loadVar_one {ty : TypeId} {d : TypeDesc} (hu : P.underlying ty = some d) (hd : d.isRow = false) {ad : Addr} {v : Value} (hc : w.cell? ad = some v) : (loadVar ty ad).run P w = .ok v w := by
  have hagg : (isAgg ty).run P w = .ok false w := by
    unfold isAgg
    rw [Sem.run_bind, run_underlying hu w]
    cases d <;> simp_all
  simp [loadVar, Sem.run_bind, hagg, hc, go_sem]
/-- a value of one cell loaded -/
theorem m_load (hM : Mem w0 w F) (hgd : op.guard = none) {ty : TypeId} {x : Operand} (ho : op.op = .load ty x) {b k : Nat} (hx : a.eval x = .pointer (some ⟨b, k, none⟩)) {t : TypeId} {l : List Value} (hF : (b, Row t l) ∈ F)
    {v : Value} (hv : l[k]? = some v) {d : TypeDesc} (hu : P.underlying ty = some d) (hd : d.isRow = false) (h : wpList P ops Q rest (a.put op.dst v) w) : wpList P ops Q (op :: rest) a w :=
  wpList_plain hgd fun K hK => by
    unfold Oper.wp execOp
    simp only [ho, hx, Instr.loadAt, Instr.sureAddr, Sem.run_bind, Sem.run_pure, Result.andThen_ok, run_loadVar_one hu hd (hM.cell hF hv)]
    exact hK _ _ h
/-- a struct loaded -/
theorem m_loadS (hM : Mem w0 w F) (hgd : op.guard = none) {ty : TypeId} {x : Operand} (ho : op.op = .load ty x) {b o : Nat} (hx : a.eval x = .pointer (some ⟨b, o, none⟩)) {t : TypeId} {l : List Value} (hF : (b, Row t l) ∈ F)
    (cs : List Value) (hv : (l.drop o).take cs.length = cs) {d : TypeDesc} (hu : P.underlying ty = some d) (hd : d.isRow = true) (hi : (P.info? ty).map (·.size) = some cs.length)
    (h : wpList P ops Q rest (a.put op.dst (.agg cs.toArray)) w) : wpList P ops Q (op :: rest) a w :=
  wpList_load_mid hgd ty x ho b o hx cs d (hM.range hF hv) hu hd hi h
/-- a value of one cell stored -/
theorem m_store (hM : Mem w0 w F) (hgd : op.guard = none) {ty : TypeId} {x y : Operand} (ho : op.op = .store ty x y) {b k : Nat} (hx : a.eval x = .pointer (some ⟨b, k, none⟩)) (i : Nat) {t : TypeId} {l : List Value} (hF : F[i]? = some (b, Row t l))
    {v : Value} (hy : a.eval y = v) (hv : v.oneCell' = true) (hc : v.cells = #[v]) (hk : k < l.length) (hi : (P.info? ty).map (·.size) = some 1)
    (h : ∀ w', Mem w0 w' (F.set i (b, Row t (l.set k v))) → wpList P ops Q rest (a.put op.dst undef) w') : wpList P ops Q (op :: rest) a w :=
  wpList_plain hgd fun K hK => by
    have hFm := List.mem_of_getElem? hF
    have hst := run_storeCells_cells (P := P) b k [v] 0 w (fun j hj => by simp at hj; subst hj; rw [hM.cell hFm (List.getElem?_eq_getElem (by omega))]; rfl) (fun j hj => hM.free hFm _) (fun u hu => by simp at hu; subst hu; exact hv)
    simp only [Nat.add_zero] at hst
    have hsv : (storeVar ty ⟨b, k, none⟩ v).run P w = .ok () (w.setCell ⟨b, k, none⟩ v) := by
      cases hq : P.info? ty with
      | none => simp [hq] at hi
      | some q =>
        have hs : 1 = q.size := by simp [hq] at hi; omega
        simp [storeVar, sizeOf, typeInfo, hq, hc, ← hs]
        simpa [World.setCells] using hst
    unfold Oper.wp execOp
    simp only [ho, hx, hy, Instr.storeAt, Instr.sureAddr, Sem.run_bind, Sem.run_pure, Result.andThen_ok, hsv]
    exact hK _ _ (h _ (hM.set hF k v))
/-- a struct stored -/
theorem m_storeS (hM : Mem w0 w F) (hgd : op.guard = none) {ty : TypeId} {x y : Operand} (ho : op.op = .store ty x y) {b o : Nat} (hx : a.eval x = .pointer (some ⟨b, o, none⟩)) (i : Nat) {t : TypeId} {l : List Value} (hF : F[i]? = some (b, Row t l))
    {cs : List Value} (hy : a.eval y = .agg cs.toArray) (l' : List Value) (hl : Mem.putL l o cs = l') (hk : o + cs.length ≤ l.length) (hi : (P.info? ty).map (·.size) = some cs.length) (h1 : cs.all (·.oneCell') = true)
    (h : ∀ w', Mem w0 w' (F.set i (b, Row t l')) → wpList P ops Q rest (a.put op.dst undef) w') : wpList P ops Q (op :: rest) a w :=
  wpList_store_mid hgd ty x y ho b o cs.toArray hx hy (hM.there (List.mem_of_getElem? hF) (by simpa using hk)) (by simpa using hi) (by rw [List.all_toArray]; exact h1) (h _ (hl ▸ hM.sets hF o cs))
/-- a variable written whole -/
theorem m_storeA (hM : Mem w0 w F) (hgd : op.guard = none) {ty : TypeId} {x y : Operand} (ho : op.op = .store ty x y) {b : Nat} (hx : a.eval x = .pointer (some ⟨b, 0, none⟩)) (i : Nat) {t : TypeId} {l : List Value} (hF : F[i]? = some (b, Row t l))
    {cs : List Value} (hy : a.eval y = .agg cs.toArray) (hk : cs.length = l.length) (hi : (P.info? ty).map (·.size) = some cs.length) (h1 : cs.all (·.oneCell') = true)
    (h : ∀ w', Mem w0 w' (F.set i (b, Row t cs)) → wpList P ops Q rest (a.put op.dst undef) w') : wpList P ops Q (op :: rest) a w :=
  m_storeS hM hgd ho hx i hF hy cs (Mem.putL_all hk) (by omega) hi h1 h
theorem m_storeAG (hM : Mem w0 w F) (hgd : op.guard = none) {ty : TypeId} {x y : Operand} (ho : op.op = .store ty x y) {b : Nat} (hx : a.eval x = .pointer (some ⟨b, 0, none⟩)) (i : Nat) {t : TypeId} {l : List Value} (hF : F[i]? = some (b, Row t l))
    {cs : List Value} (hy : a.eval y = .agg cs.toArray) (hk : cs.length = l.length) (hi : (P.info? ty).map (·.size) = some cs.length) (h1 : cs.all (·.oneCell') = true)
    (h : ∀ w', Mem w0 w' (F.set i (b, Row t cs)) → w.grownBy w' (some b) → wpList P ops Q rest (a.put op.dst undef) w') : wpList P ops Q (op :: rest) a w :=
  wpList_store_mid hgd ty x y ho b 0 cs.toArray hx hy (hM.there (List.mem_of_getElem? hF) (by simp; omega)) (by simpa using hi) (by rw [List.all_toArray]; exact h1) (h _ (by have := hM.sets hF 0 cs; rwa [Mem.putL_all hk] at this) (grown_setCells _ _ _))
/-- a struct laid into a variable -/
theorem m_box (hM : Mem w0 w F) (hgd : op.guard = none) {ty : TypeId} {x : Operand} (ho : op.op = .box ty x) {cs : List Value} (hx : a.eval x = .agg cs.toArray)
    (h : ∀ b w', Mem w0 w' ((b, Row ty cs) :: F) → wpList P ops Q rest (a.put op.dst (.pointer (some ⟨b, 0, none⟩))) w') : wpList P ops Q (op :: rest) a w :=
  wpList_plain hgd fun K hK => by
    unfold Oper.wp execOp
    rw [ho]
    simp only [hx]
    simp [go_sem]
    exact hK _ _ (h _ _ (by simpa using hM.cells cs.toArray ty))
theorem m_boxB (hM : Mem w0 w F) (hgd : op.guard = none) {ty : TypeId} {x : Operand} (ho : op.op = .box ty x) {cs : List Value} (hx : a.eval x = .agg cs.toArray)
    (h : ∀ b w', w.heap.size ≤ b → Below w.heap.size w w' → Mem w0 w' ((b, Row ty cs) :: F) → wpList P ops Q rest (a.put op.dst (.pointer (some ⟨b, 0, none⟩))) w') : wpList P ops Q (op :: rest) a w :=
  wpList_plain hgd fun K hK => by
    unfold Oper.wp execOp
    rw [ho]
    simp only [hx]
    simp [go_sem]
    exact hK _ _ (h _ _ (Nat.le_refl _) (alloc_below (Below.refl _ _) _) (by simpa using hM.cells cs.toArray ty))
/-- a new variable -/
theorem m_alloc (hM : Mem w0 w F) (hgd : op.guard = none) {ty : TypeId} (ho : op.op = .alloc ty) {z : Value} (hz : (P.info? ty).map (·.zero) = some (some z))
    (h : ∀ b w', Mem w0 w' ((b, Row ty z.cells.toList) :: F) → wpList P ops Q rest (a.put op.dst (.pointer (some ⟨b, 0, none⟩))) w') : wpList P ops Q (op :: rest) a w :=
  wpList_plain hgd fun K hK => by
    cases hq : P.info? ty with
    | none => simp [hq] at hz
    | some q =>
      have hzz : q.zero = some z := by simpa [hq] using hz
      unfold Oper.wp execOp
      rw [ho]
      simp [zeroValue, typeInfo, hq, hzz, go_sem]
      exact hK _ _ (h _ _ (hM.cells z.cells ty))
theorem wpQuiet_monoQ {C : World → Prop} {Q1 Q2 : Act → Prop} (hQ : ∀ a, Q1 a → Q2 a) : ∀ (l : List Oper) (a : Act), wpQuiet P ops C Q1 l a → wpQuiet P ops C Q2 l a
  | [], a, h => hQ a h
  | o :: rest, a, h => by
    unfold wpQuiet at *
    split
    · rename_i ht
      rw [if_pos ht] at h
      exact Oper.quiet_mono (fun a' h' => wpQuiet_monoQ hQ rest a' h') h
    · rename_i ht
      rw [if_neg ht] at h
      exact wpQuiet_monoQ hQ rest _ h
/-- a value made of parts -/
theorem m_build (hgd : op.guard = none) {ty : TypeId} {parts : Array (Nat × Operand)} (ho : op.op = .build ty parts) (ps : Array (Nat × Value)) (hp : (parts.map fun (i, x) => (i, a.eval x)) = ps) {v : Value} (hr : (Instr.build ty ps).run P w = .ok v w)
    (h : wpList P ops Q rest (a.put op.dst v) w) : wpList P ops Q (op :: rest) a w :=
  wpList_plain hgd fun K hK => by
    unfold Oper.wp execOp
    simp only [ho, hp, Sem.run_bind, Sem.run_pure, Result.andThen_ok, hr]
    exact hK _ _ h
/-- a value made of nothing -/
theorem m_build0 (hgd : op.guard = none) {ty : TypeId} (ho : op.op = .build ty #[]) {v : Value} (hr : (Instr.build ty #[]).run P w = .ok v w) (h : wpList P ops Q rest (a.put op.dst v) w) : wpList P ops Q (op :: rest) a w :=
  wpList_plain hgd fun K hK => by
    unfold Oper.wp execOp
    simp only [ho, List.map_toArray, List.map_nil, Sem.run_bind, Sem.run_pure, Result.andThen_ok, hr]
    exact hK _ _ h
/-- a world of the class -/
structure MemW (w0 : World) (F : List Ent) where
  W : World
  h : Mem w0 W F
theorem MemW.below {w0 : World} {F : List Ent} (x : MemW w0 F) : Below w0.heap.size w0 x.W := x.h.below
theorem m_allocB (hM : Mem w0 w F) (hgd : op.guard = none) {ty : TypeId} (ho : op.op = .alloc ty) {z : List Value} (hz : (P.info? ty).map (·.zero) = some (some (.agg z.toArray)))
    (h : ∀ b w', w.heap.size ≤ b → Below w.heap.size w w' → Mem w0 w' ((b, Row ty z) :: F) → wpList P ops Q rest (a.put op.dst (.pointer (some ⟨b, 0, none⟩))) w') : wpList P ops Q (op :: rest) a w :=
  wpList_plain hgd fun K hK => by
    cases hq : P.info? ty with
    | none => simp [hq] at hz
    | some q =>
      have hzz : q.zero = some (.agg z.toArray) := by simpa [hq] using hz
      unfold Oper.wp execOp
      rw [ho]
      simp [zeroValue, typeInfo, hq, hzz, go_sem]
      exact hK _ _ (h _ _ (Nat.le_refl _) (alloc_below (Below.refl _ _) _) (by simpa using hM.cells z.toArray ty))
theorem own_lt {w : World} {base n g : Nat} {e : TypeId} {size : Nat} {v : Value} {xs : List Value} (h : w.ownsRow base e size v n xs) (hg : w.heap.size ≤ g) : v.ownBlock = none ∨ v.ownBlock ≠ some g := .inr fun hv => by
  have := (h.lt g hv).2
  omega
/-- a region whose operations read and call, walked once: whatever world of the class -/
theorem m_quiet {id : Nat} {l : List Oper} (hM : Mem w0 w F) (hm : P.follows .mixedOrders = true) (hB : Region.lexB .any l.toArray = true)
    (h : Nonempty (MemW w0 F) → wpQuiet P l.toArray (fun w' => ∃ x : MemW w0 F, w' = x.W) (fun a' => ∀ w', Mem w0 w' F → Q .normal a' w') l a) : (Code.region id l.toArray true).wp P Q a w :=
  wp_region_quiet (C := fun w' => ∃ x : MemW w0 F, w' = x.W) hm hB ⟨⟨_, hM.drew⟩, rfl⟩ (wpQuiet_monoQ (fun a' h' w' hw' => by obtain ⟨x, rfl⟩ := hw'; exact h' _ x.h) _ _ (by simpa using h ⟨⟨w, hM⟩⟩))
theorem m_seq {id : Nat} {l : List Oper} (hM : Mem w0 w F)
    (h : Nonempty (MemW w0 F) → wpQuiet P l.toArray (fun w' => ∃ x : MemW w0 F, w' = x.W) (fun a' => ∀ w', Mem w0 w' F → Q .normal a' w') l a) : (Code.region id l.toArray false).wp P Q a w :=
  wp_region_lit (wpList_of_quiet (C := fun w' => ∃ x : MemW w0 F, w' = x.W) (Q := fun a' => ∀ w', Mem w0 w' F → Q .normal a' w') (fun _ w' hw' h => by obtain ⟨x, rfl⟩ := hw'; exact h _ x.h) l a w ⟨⟨w, hM⟩, rfl⟩ (h ⟨⟨w, hM⟩⟩))
/-- in such a region: a call, a value of one cell loaded, a struct loaded -/
theorem m_call {f : Nat} {args : Array Value} {v : Value} (x : MemW w0 F) (h : Calls P f args x.W fun e w' => e = .returned v ∧ Below x.W.heap.size x.W w') :
    Calls P f args x.W fun e w'' => e = .returned v ∧ ∃ y : MemW w0 F, w'' = y.W := h.mono fun _ w' ⟨he, hb⟩ => ⟨he, ⟨w', x.h.call hb⟩, rfl⟩
theorem m_still {f : Nat} {args : Array Value} {v : Value} (x : MemW w0 F) (h : Calls P f args x.W fun e w' => e = .returned v ∧ x.W = w') :
    Calls P f args x.W fun e w'' => e = .returned v ∧ ∃ y : MemW w0 F, w'' = y.W := h.mono fun _ _ ⟨he, hb⟩ => ⟨he, x, hb.symm⟩
theorem mq_load {K : Act → Prop} {ty : TypeId} {x : Operand} (ho : op.op = .load ty x) {b k : Nat} (hx : a.eval x = .pointer (some ⟨b, k, none⟩)) {t : TypeId} {l : List Value} (hF : (b, Row t l) ∈ F)
    {v : Value} (hv : l[k]? = some v) {d : TypeDesc} (hu : P.underlying ty = some d) (hd : d.isRow = false) (h : K (a.put op.dst v)) : op.quiet P a (fun w' => ∃ x : MemW w0 F, w' = x.W) K := by
  refine ⟨v, ?_, h⟩
  rintro _ ⟨y, rfl⟩
  unfold Oper.quietAt execOp
  simp only [ho, hx, Instr.loadAt, Instr.sureAddr, Sem.run_bind, Sem.run_pure, Result.andThen_ok, run_loadVar_one hu hd (y.h.cell hF hv)]
  exact ⟨rfl, rfl⟩
theorem mq_loadS {K : Act → Prop} {ty : TypeId} {x : Operand} (ho : op.op = .load ty x) {b o : Nat} (hx : a.eval x = .pointer (some ⟨b, o, none⟩)) {t : TypeId} {l : List Value} (hF : (b, Row t l) ∈ F)
    (cs : List Value) (hv : (l.drop o).take cs.length = cs) {d : TypeDesc} (hu : P.underlying ty = some d) (hd : d.isRow = true) (hi : (P.info? ty).map (·.size) = some cs.length)
    (h : K (a.put op.dst (.agg cs.toArray))) : op.quiet P a (fun w' => ∃ x : MemW w0 F, w' = x.W) K := by
  refine ⟨_, ?_, h⟩
  rintro _ ⟨y, rfl⟩
  unfold Oper.quietAt execOp
  simp only [ho, hx, Instr.loadAt, Instr.sureAddr, Sem.run_bind, Sem.run_pure, Result.andThen_ok, run_loadVar_mid y.W b o ty cs d (y.h.range hF hv) hu hd hi]
  exact ⟨rfl, rfl⟩
/-- a load that yields one value in whatever world of the class -/
theorem mq_any {C : World → Prop} {K : Act → Prop} {ty : TypeId} {x : Operand} {p v : Value} (ho : op.op = .load ty x) (hx : a.eval x = p)
    (h : ∀ w, C w → (Instr.loadAt ty p).run P w = .ok v w) (hk : K (a.put op.dst v)) : op.quiet P a C K := by
  refine ⟨v, fun w hw => ?_, hk⟩
  unfold Oper.quietAt execOp
  rw [ho]
  simp only [hx, Sem.run_bind, h w hw, Result.andThen_ok]
  exact ⟨rfl, rfl⟩
end
section
variable {P : Program} {ops : Array Oper} {rest : List Oper} {op : Oper} {a : Act} {w0 w : World} {Q : Exit → Act → World → Prop} {F : List Ent}
/-- a region that draws its order: its first n operations only read, all others wait for them, one for the other -/
theorem m_tail {id : Nat} {l : List Oper} (n : Nat) (hM : Mem w0 w F) (hm : P.follows .mixedOrders = true) (hB : Region.lexTailB .any l.toArray n = true)
    (h : ∀ w', Mem w0 w' F → wpStill P l.toArray w' (fun a' => wpList P l.toArray Q (l.drop n) a' w') (l.take n) a) : (Code.region id l.toArray true).wp P Q a w :=
  wp_region_still_tail n hm hB (h _ hM.drew)
theorem y_load (hw : Region.wanted op (yielded ops a.tmps) = true) {ty : TypeId} {x : Operand} (ho : op.op = .load ty x) {b k : Nat} (hx : a.eval x = .pointer (some ⟨b, k, none⟩)) {t : TypeId} {l : List Value} (hF : (b, Row t l) ∈ F)
    {v : Value} (hv : l[k]? = some v) {d : TypeDesc} (hu : P.underlying ty = some d) (hd : d.isRow = false) : YieldsIf P ops (fun W => Mem w0 W F) op v a :=
  .inl ⟨hw, fun w' hM => by
    unfold execOp
    simp only [ho, hx, Instr.loadAt, Instr.sureAddr, Sem.run_bind, Sem.run_pure, Result.andThen_ok, run_loadVar_one hu hd (hM.cell hF hv)]⟩
theorem y_loadS (hw : Region.wanted op (yielded ops a.tmps) = true) {ty : TypeId} {x : Operand} (ho : op.op = .load ty x) {b o : Nat} (hx : a.eval x = .pointer (some ⟨b, o, none⟩)) {t : TypeId} {l : List Value} (hF : (b, Row t l) ∈ F)
    {cs : List Value} (hv : (l.drop o).take cs.length = cs) {d : TypeDesc} (hu : P.underlying ty = some d) (hd : d.isRow = true) (hi : (P.info? ty).map (·.size) = some cs.length) : YieldsIf P ops (fun W => Mem w0 W F) op (.agg cs.toArray) a :=
  yieldsIf_load_mid hw ty x ho b o hx cs d (fun _ hM => hM.range hF hv) hu hd hi
theorem y_any {S : World → Prop} (hw : Region.wanted op (yielded ops a.tmps) = true) {ty : TypeId} {x : Operand} {p v : Value} (ho : op.op = .load ty x) (hx : a.eval x = p) (h : ∀ w, S w → (Instr.loadAt ty p).run P w = .ok v w) : YieldsIf P ops S op v a :=
  .inl ⟨hw, fun w' hw' => by
    unfold execOp
    rw [ho]
    simp only [hx, Sem.run_bind, h w' hw', Result.andThen_ok]
    rfl⟩
theorem y_build {S : World → Prop} (hw : Region.wanted op (yielded ops a.tmps) = true) {ty : TypeId} {parts : Array (Nat × Operand)} (ho : op.op = .build ty parts) (ps : Array (Nat × Value)) (hp : (parts.map fun (i, x) => (i, a.eval x)) = ps) {v : Value} (hr : ∀ w, (Instr.build ty ps).run P w = .ok v w) : YieldsIf P ops S op v a :=
  .inl ⟨hw, fun w' _ => by
    unfold execOp
    simp only [ho, hp, Sem.run_bind, Sem.run_pure, Result.andThen_ok, hr]⟩
/-- a variable written whole, in a region that draws its order -/
theorem y_storeA {K : Act → World → Prop} (hM : Mem w0 w F) (hw : Region.wanted op (yielded ops a.tmps) = true) (hN : op.dst = none) {ty : TypeId} {x y : Operand} (ho : op.op = .store ty x y) {b : Nat} (hx : a.eval x = .pointer (some ⟨b, 0, none⟩)) (i : Nat) {t : TypeId} {l : List Value} (hF : F[i]? = some (b, Row t l))
    {cs : List Value} (hy : a.eval y = .agg cs.toArray) (hk : cs.length = l.length) (hi : (P.info? ty).map (·.size) = some cs.length) (h1 : cs.all (·.oneCell') = true)
    (h : ∀ w', Mem w0 w' (F.set i (b, Row t cs)) → w.grownBy w' (some b) → K a w') : if Region.wanted op (yielded ops a.tmps) = true then Oper.wp P op a w K Q else K (a.put none undef) w := by
  rw [if_pos hw]
  refine wp_store_mid ty x y ho b 0 cs.toArray hx hy (hM.there (List.mem_of_getElem? hF) (by simp; omega)) (by simpa using hi) (by rw [List.all_toArray]; exact h1) ?_
  rw [hN]
  exact h _ (by have := hM.sets hF 0 cs; rwa [Mem.putL_all hk] at this) (grown_setCells _ _ _)
/-- a new variable, in such a region -/
theorem y_alloc {K : Act → World → Prop} {N : Option Tmp} (hM : Mem w0 w F) (hw : Region.wanted op (yielded ops a.tmps) = true) (hN : op.dst = N) {ty : TypeId} (ho : op.op = .alloc ty) {z : List Value} (hz : (P.info? ty).map (·.zero) = some (some (.agg z.toArray)))
    (h : ∀ b w', w.heap.size ≤ b → Below w.heap.size w w' → Mem w0 w' ((b, Row ty z) :: F) → K (a.put N (.pointer (some ⟨b, 0, none⟩))) w') : if Region.wanted op (yielded ops a.tmps) = true then Oper.wp P op a w K Q else K (a.put N undef) w := by
  rw [if_pos hw]
  subst hN
  cases hq : P.info? ty with
  | none => simp [hq] at hz
  | some q =>
    have hzz : q.zero = some (.agg z.toArray) := by simpa [hq] using hz
    unfold Oper.wp execOp
    rw [ho]
    simp [zeroValue, typeInfo, hq, hzz, go_sem]
    exact h _ _ (Nat.le_refl _) (alloc_below (Below.refl _ _) _) (by simpa using hM.cells z.toArray ty)
/-- a slice of ints made of parts, in such a region -/
theorem y_slice {K : Act → World → Prop} {N : Option Tmp} (hM : Mem w0 w F) (hw : Region.wanted op (yielded ops a.tmps) = true) (hN : op.dst = N) {ty e : TypeId} {len : Nat} {parts : Array (Nat × Operand)} (ho : op.op = .buildSlice ty len parts) (ps : Array (Nat × Value)) (hp : (parts.map fun (i, x) => (i, a.eval x)) = ps)
    (l : List Value) (hr : ∀ w : World, (Instr.buildSlice ty len ps).run P w = .ok (.slice (some ⟨w.heap.size, 0, none⟩) len len) (w.alloc (.cells l.toArray e)))
    (h : ∀ b w', w.heap.size ≤ b → Below w.heap.size w w' → Mem w0 w' ((b, Row e l) :: F) → K (a.put N (.slice (some ⟨b, 0, none⟩) len len)) w') : if Region.wanted op (yielded ops a.tmps) = true then Oper.wp P op a w K Q else K (a.put N undef) w := by
  rw [if_pos hw]
  subst hN
  unfold Oper.wp execOp
  simp only [ho, hp, Sem.run_bind, Sem.run_pure, Result.andThen_ok, hr]
  exact h _ _ (Nat.le_refl _) (alloc_below (Below.refl _ _) _) (by simpa using hM.cells l.toArray e)
theorem y_loadK {K : Act → World → Prop} {N : Option Tmp} (hM : Mem w0 w F) (hw : Region.wanted op (yielded ops a.tmps) = true) (hN : op.dst = N) {ty : TypeId} {x : Operand} (ho : op.op = .load ty x) {b k : Nat} (hx : a.eval x = .pointer (some ⟨b, k, none⟩)) {t : TypeId} {l : List Value} (hF : (b, Row t l) ∈ F)
    {v : Value} (hv : l[k]? = some v) {d : TypeDesc} (hu : P.underlying ty = some d) (hd : d.isRow = false) (h : K (a.put N v) w) : if Region.wanted op (yielded ops a.tmps) = true then Oper.wp P op a w K Q else K (a.put N undef) w := by
  rw [if_pos hw]
  subst hN
  unfold Oper.wp execOp
  simp only [ho, hx, Instr.loadAt, Instr.sureAddr, Sem.run_bind, Sem.run_pure, Result.andThen_ok, run_loadVar_one hu hd (hM.cell hF hv)]
  exact h
theorem ws_want {R : Act → Prop} (hw : Region.wanted op (yielded ops a.tmps) = true) (h : ∀ K : Act → Prop, (∀ a, wpStill P ops w R rest a → K a) → op.still P a w K) : wpStill P ops w R (op :: rest) a :=
  wpStill_step fun K hK => by rw [if_pos hw]; exact h K hK
theorem ms_load {K : Act → Prop} (hM : Mem w0 w F) {ty : TypeId} {x : Operand} (ho : op.op = .load ty x) {b k : Nat} (hx : a.eval x = .pointer (some ⟨b, k, none⟩)) {t : TypeId} {l : List Value} (hF : (b, Row t l) ∈ F)
    {v : Value} (hv : l[k]? = some v) {d : TypeDesc} (hu : P.underlying ty = some d) (hd : d.isRow = false) (h : K (a.put op.dst v)) : op.still P a w K := by
  unfold Oper.still execOp
  simp only [ho, hx, Instr.loadAt, Instr.sureAddr, Sem.run_bind, Sem.run_pure, Result.andThen_ok, run_loadVar_one hu hd (hM.cell hF hv)]
  exact ⟨rfl, h⟩
theorem ms_loadS {K : Act → Prop} (hM : Mem w0 w F) {ty : TypeId} {x : Operand} (ho : op.op = .load ty x) {b o : Nat} (hx : a.eval x = .pointer (some ⟨b, o, none⟩)) {t : TypeId} {l : List Value} (hF : (b, Row t l) ∈ F)
    (cs : List Value) (hv : (l.drop o).take cs.length = cs) {d : TypeDesc} (hu : P.underlying ty = some d) (hd : d.isRow = true) (hi : (P.info? ty).map (·.size) = some cs.length)
    (h : K (a.put op.dst (.agg cs.toArray))) : op.still P a w K := by
  unfold Oper.still execOp
  simp only [ho, hx, Instr.loadAt, Instr.sureAddr, Sem.run_bind, Sem.run_pure, Result.andThen_ok, run_loadVar_mid w b o ty cs d (hM.range hF hv) hu hd hi]
  exact ⟨rfl, h⟩
theorem ms_any {K : Act → Prop} {ty : TypeId} {x : Operand} {p v : Value} (ho : op.op = .load ty x) (hx : a.eval x = p)
    (h : (Instr.loadAt ty p).run P w = .ok v w) (hk : K (a.put op.dst v)) : op.still P a w K := by
  unfold Oper.still execOp
  rw [ho]
  simp only [hx, Sem.run_bind, h, Result.andThen_ok]
  exact ⟨rfl, hk⟩
end
/-- what a function hands back out of its variables -/
theorem m_results1 {P : Program} {fn : Func} {p : Tmp} {ty : TypeId} {w0 w : World} {F : List Ent} (hM : Mem w0 w F) (h : fn.results = #[.cell p ty]) (tmps : Array Value) {b : Nat} (ht : tmps.getD p undef = .pointer (some ⟨b, 0, none⟩)) {t : TypeId} {l : List Value} (hF : (b, Row t l) ∈ F)
    (cs : List Value) (hv : (l.drop 0).take cs.length = cs) {d : TypeDesc} (hu : P.underlying ty = some d) (hd : d.isRow = true) (hi : (P.info? ty).map (·.size) = some cs.length) : (results fn tmps).run P w = .ok (.agg cs.toArray) w :=
  results_cell h tmps w b 0 ht _ (run_loadVar_mid w b 0 ty cs d (hM.range hF hv) hu hd hi)
theorem wl_id {P : Program} {ops : Array Oper} {o : Oper} {l : List Oper} {a : Act} {w : World} {Q : Exit → Act → World → Prop} (h : wpList P ops Q (o :: l) a w) : wpList P ops Q (o :: l) a w := h
theorem wpList_norm {P : Program} {ops : Array Oper} {l : List Oper} {a a' : Act} {w : World} {Q : Exit → Act → World → Prop} (e : a = a') (h : wpList P ops Q l a' w) : wpList P ops Q l a w := e ▸ h
end Go.Proofs.YtpmfjombfcnhmaaGreatDoor
