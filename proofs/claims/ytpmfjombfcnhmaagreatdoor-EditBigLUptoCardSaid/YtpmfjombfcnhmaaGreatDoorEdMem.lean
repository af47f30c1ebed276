/- Cells of one's own as blocks of the memory: stores, appends, what calls hand back. -/
import Derived.Test.YtpmfjombfcnhmaaGreatDoorNew
import Derived.Test.YtpmfjombfcnhmaaGreatDoorELaw
import Derived.Laws.Small
set_option linter.unusedVariables false
set_option linter.unusedSimpArgs false
set_option linter.unnecessarySimpa false
namespace Go.Proofs.YtpmfjombfcnhmaaGreatDoor
open Go Go.RowKit Go.Proofs.YtpmfjombfcnhmaaGreatDoorW.PrintLast

theorem Mem.blk {w0 w : World} {F : List Ent} {g cap : Nat} {M : List Cell} (hM : Mem w0 w F) (h : (g, entC M cap) ∈ F) (h0 : 0 < M.length) : Blk w g (cap * 6) M := by
  obtain ⟨g', cap', e, _, _, _, hb⟩ := OwnC.blk (show OwnC w w0.heap.size (sl g M.length cap) M from hM.own h) h0
  cases e
  exact hb
theorem Mem.setBlk {w0 w w' : World} {F : List Ent} {g cap j : Nat} {M M' : List Cell} (hM : Mem w0 w F) (hF : F[j]? = some (g, entC M cap)) (hl : M'.length = M.length) (hg : w.grownBy w' (some g)) (hb : Blk w' g (cap * 6) M') : Mem w0 w' (F.set j (g, entC M' cap)) := by
  refine hM.grown hF hg ?_
  obtain ⟨_, ob, _, _, cur, _, h1, h2, _⟩ := hM.here _ (List.mem_of_getElem? hF)
  obtain ⟨k1, k2 | ⟨g', cap', cur', e, k3, k4, k5, k6, k7, k8⟩⟩ := OwnC.of_blk (base := 0) hb (Nat.zero_le _) h2 (by omega)
  · exact absurd k2.1 (by simp)
  · cases e
    exact ⟨_, k4, k1, cur', rfl, k5, k6, k7, k8⟩
theorem Mem.lenC {w0 w : World} {F : List Ent} {g cap : Nat} {M : List Cell} (hM : Mem w0 w F) (h : (g, entC M cap) ∈ F) : M.length ≤ cap := by
  obtain ⟨_, ob, _, _, cur, _, h1, h2, _⟩ := hM.here _ h
  exact h1
theorem set_get {F : List Ent} {j : Nat} {x y : Ent} (h : F[j]? = some x) : (F.set j y)[j]? = some y := by
  have := (List.getElem?_eq_some_iff.1 h).1
  simp [this]
theorem set_same {F : List Ent} {j : Nat} {x : Ent} (h : F[j]? = some x) : F.set j x = F := by
  apply List.ext_getElem?
  intro k
  by_cases hk : j = k
  · subst hk
    rw [set_get h, h]
  · rw [List.getElem?_set_ne hk]
theorem run_min_is {P : Program} {x y z : Int} (h : min x y = z) (ts : Array TypeId) (t : TypeId) (w : World) : (Builtin.min_ ts t #[.int .i64 x, .int .i64 y]).run P w = .ok (.int .i64 z) w := by
  rw [run_min_int2, show (if y < x then y else x) = z by rw [← h]; split <;> omega]
theorem run_max_is {P : Program} {x y z : Int} (h : max x y = z) (ts : Array TypeId) (t : TypeId) (w : World) : (Builtin.max_ ts t #[.int .i64 x, .int .i64 y]).run P w = .ok (.int .i64 z) w := by
  rw [run_max_int2, show (if y > x then y else x) = z by rw [← h]; split <;> omega]
/-- own cells, as a block -/
theorem Mem.addOwn {w0 w3 w : World} {F : List Ent} {v : Value} {L : List Cell} (hM3 : Mem w0 w3 F) (hM : Mem w0 w F) (hO : OwnC w w3.heap.size v L) (h0 : 0 < L.length) : ∃ g cap, v = sl g L.length cap ∧ Mem w0 w ((g, entC L cap) :: F) := by
  obtain ⟨g, cap, rfl, hb, hp⟩ := own_ent hO h0
  refine ⟨g, cap, rfl, hM.below, fun x hx => ?_, List.pairwise_cons.2 ⟨fun x hx => ?_, hM.apart⟩⟩
  · rcases List.mem_cons.1 hx with rfl | hx
    · exact ⟨Nat.le_trans hM3.below.size hb, hp⟩
    · exact hM.here x hx
  · have := hM3.lt hx
    show g ≠ x.1
    omega
/-- behind an append to own cells that are newer than all blocks told -/
theorem Mem.app {w0 w3 w w' : World} {F : List Ent} {v : Value} {L : List Cell} (hM3 : Mem w0 w3 F) (hM : Mem w0 w F) (hO : OwnC w w3.heap.size v L) (hg : w.grownBy w' v.ownBlock) : Mem w0 w' F :=
  hM.other hg fun k hk => by
    have h1 := (hO.lt k hk).1
    exact ⟨Nat.le_trans hM3.below.size h1, fun x hx => by have := hM3.lt hx; omega⟩
theorem RdC.part {w : World} {A : Option Addr} {n c : Nat} {L : List Cell} (h : RdC w (.slice A n c) L) {o k c' : Nat} (hk : o + k ≤ L.length) (hc : k ≤ c') (h0 : 0 < L.length) : ∃ b q, A = some ⟨b, q, none⟩ ∧ RdC w (.slice (some ⟨b, q + o * 6, none⟩) k c') (sub o k L) := by
  obtain ⟨A', c2, hv, h2, hr0⟩ := h
  cases hv
  obtain ⟨b, q, rfl, hr⟩ := hr0 h0
  refine ⟨b, q, rfl, _, c', by rw [sub_length], by rw [sub_length]; exact hc, fun _ => ⟨b, q + o * 6, rfl, fun i hi j hj => ?_⟩⟩
  rw [sub_length] at hi
  show _ = some (cellV (at_ (sub o k L) i) j)
  rw [sub_at hi, show q + o * 6 + i * 6 + j = q + (o + i) * 6 + j by omega]
  exact hr (o + i) (by omega) j hj
theorem entC_rd {w0 w : World} {F : List Ent} {g cap : Nat} {M : List Cell} (hM : Mem w0 w F) (h : (g, entC M cap) ∈ F) {o n c q : Nat} (hc : n ≤ c) (ho : o + n ≤ M.length) (hq : q = o * 6) (h0 : 0 < M.length) : RdC w (.slice (some ⟨g, q, none⟩) n c) (sub o n M) := (hM.blk h h0).rd o n c hc ho hq
theorem entC_all {w0 w : World} {F : List Ent} {g cap : Nat} {M : List Cell} (hM : Mem w0 w F) (h : (g, entC M cap) ∈ F) : RdC w (sl g M.length cap) M := OwnC.rd (base := w0.heap.size) (hM.own h)
theorem entC_own {w0 w : World} {F : List Ent} {g cap n : Nat} {M : List Cell} (hM : Mem w0 w F) (h : (g, entC M cap) ∈ F) (hn : n = M.length) : OwnC w w0.heap.size (sl g n cap) M := by
  subst hn; exact hM.own h
/-- a field of a cell -/
theorem cellE_one {w0 w : World} {F : List Ent} {g cap : Nat} {M : List Cell} (hM : Mem w0 w F) (h : (g, entC M cap) ∈ F) (i j : Nat) (hi : i < M.length) (hj : j < 6) {q : Nat} (hq : q = i * 6 + j) : w.cell? ⟨g, q, none⟩ = some (cellV (at_ M i) j) := by
  subst hq; exact (hM.blk h (by omega)).cell i j hi hj
theorem cells_six {w : World} {g q : Nat} {c : Cell} (h : ∀ j, j < 6 → w.cell? ⟨g, q + j, none⟩ = some (cellV c j)) : ∀ j u, (encs [c])[j]? = some u → w.cell? ⟨g, q + j, none⟩ = some u := by
  intro j u hj
  have hl : j < 6 := by have := (List.getElem?_eq_some_iff.1 hj).1; simpa using this
  rw [encs_get [c] j (by simpa using hl)] at hj
  cases hj
  rw [h j hl, show j / 6 = 0 by omega, show j % 6 = j by omega]
  rfl
theorem agg_encs (c : Cell) : c.agg = .agg (encs [c]).toArray := by rw [encs_single]; rfl
theorem load1E {P : Program} {ty : TypeId} {d : TypeDesc} (hu : P.underlying ty = some d) (hd : d.isRow = false) {ad : Addr} {v : Value} {w : World} (hc : w.cell? ad = some v) : (Instr.loadAt ty (.pointer (some ad))).run P w = .ok v w := by
  simp only [Instr.loadAt, Instr.sureAddr, Sem.run_bind, Sem.run_pure, Result.andThen_ok, run_loadVar_one hu hd hc]
theorem load6E {w : World} {g q : Nat} {a : Attr} (h : ∀ j u, (attrL a)[j]? = some u → w.cell? ⟨g, q + j, none⟩ = some u) : (Instr.loadAt 33 (.pointer (some ⟨g, q, none⟩))).run Tryz.prog w = .ok (.agg (attrL a).toArray) w :=
  run_loadAt_mid w g q 33 (attrL a) _ h Tryz.underlying33 rfl (by kernel_rfl)
theorem loadCE {w : World} {g q : Nat} {c : Cell} (h : ∀ j u, (encs [c])[j]? = some u → w.cell? ⟨g, q + j, none⟩ = some u) : (Instr.loadAt 73 (.pointer (some ⟨g, q, none⟩))).run Tryz.prog w = .ok c.agg w := by
  rw [agg_encs]
  exact run_loadAt_mid w g q 73 (encs [c]) _ h Tryz.underlying73 rfl (by kernel_rfl)
/-- a cell's attribute -/
theorem cellE_attr {w0 w : World} {F : List Ent} {g cap : Nat} {M : List Cell} (hM : Mem w0 w F) (h : (g, entC M cap) ∈ F) (i : Nat) (hi : i < M.length) {q : Nat} (hq : q = i * 6 + 3) : (Instr.loadAt 33 (.pointer (some ⟨g, q, none⟩))).run Tryz.prog w = .ok (.agg (attrL (at_ M i).a).toArray) w :=
  load6E fun j u hj => by
    have hl : j < 3 := (List.getElem?_eq_some_iff.1 hj).1
    rw [cellE_one hM h i (3 + j) hi (by omega) (show q + j = i * 6 + (3 + j) by omega), ← hj]
    match j, hl with
    | 0, _ => rfl
    | 1, _ => rfl
    | 2, _ => rfl
/-- a cell stored -/
theorem blk_store {w : World} {g N i : Nat} {M : List Cell} (c : Cell) (hb : Blk w g N M) (hi : i < M.length) : Blk (w.setCells g (i * 6) (encs [c])) g N (M.set i c) := by
  rw [encs_single]
  exact hb.set6 (q := i * 6) i c rfl
theorem m_storeC {P : Program} {ops : Array Oper} {rest : List Oper} {op : Oper} {a : Act} {w0 w : World} {Q : Exit → Act → World → Prop} {F : List Ent} (hM : Mem w0 w F) (hgd : op.guard = none) {ty : TypeId} {x y : Operand} (ho : op.op = .store ty x y) {g q : Nat} (hx : a.eval x = .pointer (some ⟨g, q, none⟩)) (j : Nat) {M : List Cell} {cap : Nat} (hF : F[j]? = some (g, entC M cap)) (c : Cell) (hy : a.eval y = c.agg) (i : Nat) (hi : i < M.length) (hq : q = i * 6) (hs : (P.info? ty).map (·.size) = some 6)
    (h : ∀ w', Mem w0 w' (F.set j (g, entC (M.set i c) cap)) → wpList P ops Q rest (a.put op.dst undef) w') : wpList P ops Q (op :: rest) a w := by
  subst hq
  have hb := hM.blk (List.mem_of_getElem? hF) (by omega)
  refine wpList_store_mid hgd ty x y ho g (i * 6) (encs [c]).toArray hx (by rw [hy, agg_encs]) ?_ (by simpa using hs) ?_ ?_
  · intro k hk
    have hk6 : k < 6 := by simpa using hk
    exact ⟨by rw [hb.cell i k hi hk6]; rfl, hb.free _⟩
  · rw [List.all_toArray, List.all_eq_true]; exact encs_one _
  · exact h _ (hM.setBlk hF (by simp) (grown_setCells _ _ _) (blk_store c hb hi))
/-- cells appended to own cells -/
theorem app_wp {o : Oper} {a : Act} {w : World} {K : Act → World → Prop} {Q : Exit → Act → World → Prop} {s x : Operand} (ho : o.op = .call { callee := .builtin .append, args := #[s, x], argTypes := #[29, 29] })
    (base : Nat) {v : Value} {L : List Cell} (hs : a.eval s = v) (hO : OwnC w base v L) {A : Option Addr} {m c : Nat} {N : List Cell} (hx : a.eval x = .slice A m c) (hR : RdC w (.slice A m c) N) (hlen : L.length + N.length ≤ 1000000) (hbase : base ≤ w.heap.size)
    (h : ∀ v' w', OwnC w' base v' (L ++ N) → w.grownBy w' v.ownBlock → K (a.put o.dst v') w') : Oper.wp Tryz.prog o a w K Q := by
  obtain ⟨i, hi, hzz⟩ := Option.map_eq_some_iff.1 infoC
  simp only [Prod.mk.injEq] at hzz
  obtain ⟨hz, hsize, hby⟩ := hzz
  obtain ⟨hm, hnews⟩ := rdC_news hR
  have h1 : ∀ v' w', w'.ownsRow base 73 6 v' (L.length + m) (encs L ++ encs N) → OwnC w' base v' (L ++ N) := fun v' w' hh => by
    unfold OwnC
    rw [List.length_append, ← hm, encs_append]
    exact hh
  have h63 : L.length + m ≤ maxLen := by simp only [maxLen]; omega
  cases A with
  | some ad =>
    refine wp_append_own w s x 29 ho base 73 i zcV 6 56 Tryz.underlying29 hi hz hsize hby rfl (by decide) v L.length (encs L) hs hO ad m c (encs N) hx (by rw [encs_length, hm]) (fun j u hj => ?_) (encs_one _) h63 (by omega) hbase fun v' w' h2 h3 _ => h v' w' (h1 _ _ h2) h3
    have hm0 : 0 < m := by
      rcases Nat.eq_zero_or_pos m with h0 | h0
      · have := (List.getElem?_eq_some_iff.1 hj).1
        rw [encs_length] at this
        omega
      · exact h0
    obtain ⟨b, q, hA, hc⟩ := hnews hm0
    cases hA
    have e : (⟨b, q, none⟩ : Addr).add j = ⟨b, q + j, none⟩ := by unfold Addr.add; split <;> simp_all
    rw [e]; exact hc j u hj
  | none =>
    have h0 : m = 0 := by
      rcases Nat.eq_zero_or_pos m with h0 | h0
      · exact h0
      · obtain ⟨b, q, hA, _⟩ := hnews h0; cases hA
    subst h0
    have hN : N = [] := List.eq_nil_of_length_eq_zero hm.symm
    subst hN
    have hrun := run_append_nil (P := Tryz.prog) w base 29 o.type 73 i 6 c Tryz.underlying29 hi v L.length (encs L) hO
    unfold Oper.wp execOp
    simp only [ho, resolve, invoke, builtin, Sem.run_bind, Sem.run_pure, Result.andThen_ok, List.map_toArray, List.map_cons, List.map_nil, hs, hx, hrun]
    exact h v w (by simpa using hO) (grown_refl _ _)
theorem m_app {ops : Array Oper} {rest : List Oper} {o : Oper} {a : Act} {w : World} {Q : Exit → Act → World → Prop} (hgd : o.guard = none) {s x : Operand} (ho : o.op = .call { callee := .builtin .append, args := #[s, x], argTypes := #[29, 29] })
    (base : Nat) {v : Value} {L : List Cell} (hs : a.eval s = v) (hO : OwnC w base v L) {A : Option Addr} {m c : Nat} {N : List Cell} (hx : a.eval x = .slice A m c) (hR : RdC w (.slice A m c) N) (hlen : L.length + N.length ≤ 1000000) (hbase : base ≤ w.heap.size)
    (h : ∀ v' w', OwnC w' base v' (L ++ N) → w.grownBy w' v.ownBlock → wpList Tryz.prog ops Q rest (a.put o.dst v') w') : wpList Tryz.prog ops Q (o :: rest) a w :=
  wpList_plain hgd fun _ hK => app_wp ho base hs hO hx hR hlen hbase fun v' w' h2 h3 => hK _ _ (h v' w' h2 h3)
theorem y_app {o : Oper} {a : Act} {w : World} {K : Act → World → Prop} {Q : Exit → Act → World → Prop} {ops : Array Oper} {Nd : Option Tmp} (hw : Region.wanted o (yielded ops a.tmps) = true) (hN : o.dst = Nd) {s x : Operand} (ho : o.op = .call { callee := .builtin .append, args := #[s, x], argTypes := #[29, 29] })
    (base : Nat) {v : Value} {L : List Cell} (hs : a.eval s = v) (hO : OwnC w base v L) {A : Option Addr} {m c : Nat} {N : List Cell} (hx : a.eval x = .slice A m c) (hR : RdC w (.slice A m c) N) (hlen : L.length + N.length ≤ 1000000) (hbase : base ≤ w.heap.size)
    (h : ∀ v' w', OwnC w' base v' (L ++ N) → w.grownBy w' v.ownBlock → K (a.put Nd v') w') : if Region.wanted o (yielded ops a.tmps) = true then Oper.wp Tryz.prog o a w K Q else K (a.put Nd undef) w := by
  rw [if_pos hw]
  subst hN
  exact app_wp ho base hs hO hx hR hlen hbase h
/-- the builtin copy, within one block -/
theorem copy_wp {o : Oper} {a : Act} {w0 w : World} {F : List Ent} {K : Act → World → Prop} {Q : Exit → Act → World → Prop} {s x : Operand} (ho : o.op = .call { callee := .builtin .copy, args := #[s, x], argTypes := #[29, 29] })
    (hM : Mem w0 w F) {g cap j : Nat} {M : List Cell} (hF : F[j]? = some (g, entC M cap)) {d n1 c1 b n2 c2 o1 o2 : Nat} (hs : a.eval s = .slice (some ⟨g, o1, none⟩) n1 c1) (hx : a.eval x = .slice (some ⟨g, o2, none⟩) n2 c2) (h1 : o1 = d * 6) (h2 : o2 = b * 6) (hd : d + n1 ≤ M.length) (hb : b + n2 ≤ M.length)
    (h : ∀ v w', Mem w0 w' (F.set j (g, entC (tab M.length fun i => if d ≤ i ∧ i < d + min n1 n2 then at_ M (b + (i - d)) else at_ M i) cap)) → K (a.put o.dst v) w') : Oper.wp Tryz.prog o a w K Q := by
  subst h1 h2
  have hlc := hM.lenC (List.mem_of_getElem? hF)
  by_cases h0 : 0 < M.length
  · have hbk := hM.blk (List.mem_of_getElem? hF) h0
    obtain ⟨f, hrow, hN, hf⟩ := id hbk
    obtain ⟨w1, hrun, hrow2, hg⟩ := run_copy_ex (P := Tryz.prog) (w := w) 29 29 73 Tryz.underlying29 6 (by kernel_rfl) (some ⟨g, d * 6, none⟩) (some ⟨g, b * 6, none⟩) n1 c1 n2 c2 g (d * 6) (cap * 6) 73 f hrow (Nat.min n2 n1) rfl (fun q => cellV (at_ M (b + q / 6)) (q % 6))
      (fun hk => ⟨rfl, g, b * 6, rfl, fun q hq => by
        have hq2 : q < n2 * 6 := Nat.lt_of_lt_of_le hq (Nat.mul_le_mul_right _ (Nat.min_le_left _ _))
        have := hbk.cell (b + q / 6) (q % 6) (by omega) (by omega)
        rwa [show (b + q / 6) * 6 + q % 6 = b * 6 + q by omega] at this⟩)
      (by have h5 : Nat.min n2 n1 ≤ n1 := Nat.min_le_right n2 n1; omega) (fun q _ => cellV_one _ _)
    unfold Oper.wp execOp
    simp only [ho, resolve, invoke, builtin, Sem.run_bind, Sem.run_pure, Result.andThen_ok, List.map_toArray, List.map_cons, List.map_nil, hs, hx, hrun]
    refine h _ w1 (hM.setBlk hF (by simp) hg ⟨_, hrow2, by simp; omega, fun i hi q hq => ?_⟩)
    rw [tab_length] at hi
    rw [at_tab hi]
    have hmin : Nat.min n2 n1 = min n1 n2 := Nat.min_comm _ _
    by_cases hin : d ≤ i ∧ i < d + min n1 n2
    · rw [if_pos hin, if_pos (by rw [hmin]; omega), show i * 6 + q - d * 6 = (i - d) * 6 + q by omega, show ((i - d) * 6 + q) / 6 = i - d by omega, show ((i - d) * 6 + q) % 6 = q by omega]
    · rw [if_neg hin, if_neg (by rw [hmin]; omega)]
      exact hf i hi q hq
  · have hn1 : n1 = 0 := by omega
    have hn2 : n2 = 0 := by omega
    subst hn1 hn2
    have hrun : ∀ ty, (Builtin.copy_ #[29, 29] ty #[.slice (some ⟨g, d * 6, none⟩) 0 c1, .slice (some ⟨g, b * 6, none⟩) 0 c2]).run Tryz.prog w = .ok (goInt 0) w := fun ty => run_copy_zero (P := Tryz.prog) w 29 29 ty 73 _ _ 0 c1 0 c2 6 Tryz.underlying29 (by kernel_rfl) rfl
    unfold Oper.wp execOp
    simp only [ho, resolve, invoke, builtin, Sem.run_bind, Sem.run_pure, Result.andThen_ok, List.map_toArray, List.map_cons, List.map_nil, hs, hx, hrun]
    refine h _ w ?_
    have e : (tab M.length fun i => if d ≤ i ∧ i < d + min 0 0 then at_ M (b + (i - d)) else at_ M i) = M := by
      refine Eq.trans (tab_congr fun i hi => ?_) (tab_at M)
      rw [if_neg (by omega)]
    rw [e]
    have hs2 : F.set j (g, entC M cap) = F := by
      apply List.ext_getElem?
      intro k
      by_cases hk : j = k
      · subst hk
        rw [set_get hF, hF]
      · rw [List.getElem?_set_ne hk]
    rw [hs2]
    exact hM
theorem m_copy {ops : Array Oper} {rest : List Oper} {o : Oper} {a : Act} {w0 w : World} {F : List Ent} {Q : Exit → Act → World → Prop} (hgd : o.guard = none) {s x : Operand} (ho : o.op = .call { callee := .builtin .copy, args := #[s, x], argTypes := #[29, 29] })
    (hM : Mem w0 w F) {g cap j : Nat} {M : List Cell} (hF : F[j]? = some (g, entC M cap)) {d n1 c1 b n2 c2 o1 o2 : Nat} (hs : a.eval s = .slice (some ⟨g, o1, none⟩) n1 c1) (hx : a.eval x = .slice (some ⟨g, o2, none⟩) n2 c2) (h1 : o1 = d * 6) (h2 : o2 = b * 6) (hd : d + n1 ≤ M.length) (hb : b + n2 ≤ M.length)
    (h : ∀ v w', Mem w0 w' (F.set j (g, entC (tab M.length fun i => if d ≤ i ∧ i < d + min n1 n2 then at_ M (b + (i - d)) else at_ M i) cap)) → wpList Tryz.prog ops Q rest (a.put o.dst v) w') : wpList Tryz.prog ops Q (o :: rest) a w :=
  wpList_plain hgd fun _ hK => copy_wp ho hM hF hs hx h1 h2 hd hb fun v w' h3 => hK _ _ (h v w' h3)
theorem fillM {w0 w : World} {F : List Ent} {g cap j o n c q : Nat} {M : List Cell} {a : Attr} (hM : Mem w0 w F) (hF : F[j]? = some (g, entC M cap)) (hq : q = o * 6) (hon : o + n ≤ M.length) (hm : M.length ≤ 1000000) (h0 : 0 < M.length) :
    Calls Tryz.prog 107 #[.slice (some ⟨g, q, none⟩) n c, .agg (attrL a).toArray] w fun e w' => e = .returned (.tuple #[]) ∧ Mem w0 w' (F.set j (g, entC (onSub o n (fillL a) M) cap)) := by
  subst hq
  exact (fill_any M g (cap * 6) o n c a w (hM.blk (List.mem_of_getElem? hF) h0) hon hm).mono fun _ _ ⟨he, hb, hg⟩ => ⟨he, hM.setBlk hF (by simp) hg hb⟩
theorem cutM {w0 w : World} {F : List Ent} {g cap j o n c q : Nat} {M : List Cell} {p : Int} (hM : Mem w0 w F) (hF : F[j]? = some (g, entC M cap)) (hq : q = o * 6) (hon : o + n ≤ M.length) (hm : M.length ≤ 1000000) (h0 : 0 < M.length) :
    Calls Tryz.prog 106 #[.slice (some ⟨g, q, none⟩) n c, .int .i64 p] w fun e w' => e = .returned (.tuple #[]) ∧ Mem w0 w' (F.set j (g, entC (onSub o n (cutL p) M) cap)) := by
  subst hq
  exact (cut_any M g (cap * 6) o n c p w (hM.blk (List.mem_of_getElem? hF) h0) hon hm).mono fun _ _ ⟨he, hb, hg⟩ => ⟨he, hM.setBlk hF (by simp) hg hb⟩
theorem rcutM {w0 w : World} {F : List Ent} {g cap j o n c q : Nat} {M : List Cell} {p : Int} (hM : Mem w0 w F) (hF : F[j]? = some (g, entC M cap)) (hq : q = o * 6) (hon : o + n ≤ M.length) (hm : M.length ≤ 1000000) (h0 : 0 < M.length) :
    Calls Tryz.prog 78 #[.slice (some ⟨g, q, none⟩) n c, .int .i64 p] w fun e w' => e = .returned (.tuple #[]) ∧ Mem w0 w' (F.set j (g, entC (onSub o n (cutL p) M) cap)) := by
  subst hq
  exact (rcut_any M g (cap * 6) o n c p w (hM.blk (List.mem_of_getElem? hF) h0) hon hm).mono fun _ _ ⟨he, hb, hg⟩ => ⟨he, hM.setBlk hF (by simp) hg hb⟩
end Go.Proofs.YtpmfjombfcnhmaaGreatDoor
