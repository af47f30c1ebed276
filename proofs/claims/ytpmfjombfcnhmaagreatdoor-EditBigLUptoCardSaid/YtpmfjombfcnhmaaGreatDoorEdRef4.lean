/- The reference's rows moved. -/
import Derived.Test.YtpmfjombfcnhmaaGreatDoorEdRef3
set_option linter.unusedVariables false
set_option linter.unusedSimpArgs false
set_option linter.unnecessarySimpa false
namespace Go.Proofs.YtpmfjombfcnhmaaGreatDoor
open Go Go.RowKit Go.Proofs.YtpmfjombfcnhmaaGreatDoorW.PrintLast

theorem Mem.app2 {w0 w w' : World} {F : List Ent} {v : Value} {L : List Cell} {B : Nat} (hlt : ∀ x ∈ F, x.1 < B) (hB : w0.heap.size ≤ B) (hM : Mem w0 w F) (hO : OwnC w B v L) (hg : w.grownBy w' v.ownBlock) : Mem w0 w' F :=
  hM.other hg fun k hk => by
    have h1 := (hO.lt k hk).1
    exact ⟨Nat.le_trans hB h1, fun x hx => by have := hlt x hx; omega⟩
theorem y_store1 {P : Program} {ops : Array Oper} {op : Oper} {a : Act} {w0 w : World} {Q : Exit → Act → World → Prop} {F : List Ent} {K : Act → World → Prop} (hM : Mem w0 w F) (hw : Region.wanted op (yielded ops a.tmps) = true) (hN : op.dst = none) {ty : TypeId} {x y : Operand} (ho : op.op = .store ty x y) {b k : Nat} (hx : a.eval x = .pointer (some ⟨b, k, none⟩)) (i : Nat) {t : TypeId} {l : List Value} (hF : F[i]? = some (b, Row t l))
    {v : Value} (hy : a.eval y = v) (hv : v.oneCell' = true) (hc : v.cells = #[v]) (hk : k < l.length) (hi : (P.info? ty).map (·.size) = some 1)
    (h : ∀ w', Mem w0 w' (F.set i (b, Row t (l.set k v))) → w.grownBy w' (some b) → K a w') : if Region.wanted op (yielded ops a.tmps) = true then Oper.wp P op a w K Q else K (a.put none undef) w := by
  rw [if_pos hw]
  have hFm := List.mem_of_getElem? hF
  have hst := run_storeCells_cells (P := P) b k [v] 0 w (fun j hj => by simp at hj; subst hj; rw [hM.cell hFm (List.getElem?_eq_getElem (by omega))]; rfl) (fun j hj => hM.free hFm _) (fun u hu => by simp at hu; subst hu; exact hv)
  simp only [Nat.add_zero] at hst
  have hsv : (storeVar ty ⟨b, k, none⟩ v).run P w = .ok () (w.setCell ⟨b, k, none⟩ v) := by
    cases hq : P.info? ty with
    | none => simp [hq] at hi
    | some q =>
      have hs : 1 = q.size := by simp [hq] at hi; omega
      simp [storeVar, sizeOf, typeInfo, hq, hc, ← hs]
      simpa [World.setCells] using hst
  unfold Oper.wp execOp
  simp only [ho, hx, hy, Instr.storeAt, Instr.sureAddr, Sem.run_bind, Sem.run_pure, Result.andThen_ok, hsv]
  show K (a.put op.dst undef) _
  rw [hN]
  exact h _ (hM.set hF k v) (grown_set w b k v)
/-- the row that comes to a place -/
def mvRow (c top bot : Nat) (n : Int) (a : Attr) (M : List Cell) (i : Nat) : List Cell :=
  if top ≤ i ∧ i ≤ bot then (if (i : Int) + n < top ∨ (i : Int) + n > bot then blankL c a else sub (((i : Int) + n).toNat * c) c M) else sub (i * c) c M
def mvTo (c top bot : Nat) (n : Int) (a : Attr) (M : List Cell) : Nat → List Cell
  | 0 => []
  | k + 1 => mvTo c top bot n a M k ++ mvRow c top bot n a M k
@[simp] theorem mvRow_length (c top bot : Nat) (n : Int) (a : Attr) (M : List Cell) (i : Nat) : (mvRow c top bot n a M i).length = c := by
  unfold mvRow
  split
  · split <;> simp
  · simp
@[simp] theorem mvTo_length (c top bot : Nat) (n : Int) (a : Attr) (M : List Cell) : ∀ k, (mvTo c top bot n a M k).length = k * c
  | 0 => by simp [mvTo]
  | k + 1 => by rw [mvTo, List.length_append, mvTo_length c top bot n a M k, mvRow_length, Nat.succ_mul]
theorem at_mvTo (c top bot : Nat) (n : Int) (a : Attr) (M : List Cell) : ∀ (k i j : Nat), i < k → j < c → at_ (mvTo c top bot n a M k) (i * c + j) = at_ (mvRow c top bot n a M i) j
  | 0, i, j, h, _ => by omega
  | k + 1, i, j, h, hj => by
    rw [mvTo]
    by_cases h1 : i < k
    · rw [at_app_l, at_mvTo c top bot n a M k i j h1 hj]
      rw [mvTo_length]
      calc i * c + j < i * c + c := by omega
        _ = (i + 1) * c := by rw [Nat.succ_mul]
        _ ≤ k * c := Nat.mul_le_mul_right _ h1
    · have h2 : i = k := by omega
      subst h2
      rw [at_app_r (by rw [mvTo_length]; omega), mvTo_length, show i * c + j - i * c = j by omega]
noncomputable def vreg (n : Nat) : Code := ((Tryz.f47.body.bind (findRegion n)).getD .skip)
theorem build_grid2 (r c : Int) (w : World) : (Instr.build 31 #[(0, .int .i64 r), (1, .int .i64 c)]).run Tryz.prog w = .ok (.agg (gridL r c (.slice none 0 0)).toArray) w := by kernel_rfl
set_option maxRecDepth 100000 in
set_option maxHeartbeats 2000000 in
theorem vreg9_is {w wr : World} {b5 b9 b10 b11 c n1 c1 B : Nat} {r : Int} {A1 : Option Addr} {X : List Cell} {a : Attr} {g : Value} {Q : Exit → Act → World → Prop} (hM : Mem w wr [(b11, Row 31 (gridL r c (.slice A1 n1 c1))), (b10, Row 31 (gridL 0 0 (.slice none 0 0))), (b9, Row 33 (attrL a)), (b5, Row 31 (gridL r c g))])
    (hlt : b11 < B ∧ b10 < B ∧ b9 < B ∧ b5 < B) (hB : w.heap.size ≤ B) (hBr : B ≤ wr.heap.size) (hO : OwnC wr B (.slice A1 n1 c1) X) (hX : X.length + c ≤ 1000000)
    (hP : ∀ c a (d : Tmp) v w, Q (.panic c) (Act.put a (some d) v) w → Q (.panic c) a w) (u0 u1 u2 u3 u4 u6 u7 u8 u10 u12 u13 u14 u15 u16 u17 u18 u19 u20 u21 u22 u23 u24 u25 u26 u27 u28 u29 u30 u31 u32 u33 u34 u35 u36 u37 u38 u39 u40 u41 u42 u43 u44 u45 u46 u47 u48 u49 u50 u51 u52 u53 u54 u55 u56 u57 u58 u59 u60 u61 u62 u63 u64 u65 u66 u67 u68 u69 u70 : Value)
    (hQ : ∀ w' A2 n2 c2 (v55 v56 v57 v58 v59 v60 v61 v62 : Value), Mem w w' [(b11, Row 31 (gridL r c (.slice A2 n2 c2))), (b10, Row 31 (gridL 0 0 (.slice none 0 0))), (b9, Row 33 (attrL a)), (b5, Row 31 (gridL r c g))] → OwnC w' B (.slice A2 n2 c2) (X ++ blankL c a) → wr.heap.size ≤ w'.heap.size →
      Q .normal ⟨#[u0, u1, u2, u3, u4, .pointer (some ⟨b5, 0, none⟩), u6, u7, u8, .pointer (some ⟨b9, 0, none⟩), u10, .pointer (some ⟨b11, 0, none⟩), u12, u13, u14, u15, u16, u17, u18, u19, u20, u21, u22, u23, u24, u25, u26, u27, u28, u29, u30, u31, u32, u33, u34, u35, u36, u37, u38, u39, u40, u41, u42, u43, u44, u45, u46, u47, u48, u49, u50, u51, u52, u53, u54, v55, v56, v57, v58, v59, v60, v61, v62, u63, u64, u65, u66, u67, u68, u69, u70], []⟩ w') :
    Code.wp Tryz.prog (vreg 9) Q ⟨#[u0, u1, u2, u3, u4, .pointer (some ⟨b5, 0, none⟩), u6, u7, u8, .pointer (some ⟨b9, 0, none⟩), u10, .pointer (some ⟨b11, 0, none⟩), u12, u13, u14, u15, u16, u17, u18, u19, u20, u21, u22, u23, u24, u25, u26, u27, u28, u29, u30, u31, u32, u33, u34, u35, u36, u37, u38, u39, u40, u41, u42, u43, u44, u45, u46, u47, u48, u49, u50, u51, u52, u53, u54, u55, u56, u57, u58, u59, u60, u61, u62, u63, u64, u65, u66, u67, u68, u69, u70], []⟩ wr := by
  have HM := hid hM
  have HO := hid hO
  clear hM hO
  conv => arg 2; whnf
  conv => arg 4; zeta
  refine start_ (n := 9) (S := fun W => Mem w W [(b11, Row 31 (gridL r c (.slice A1 n1 c1))), (b10, Row 31 (gridL 0 0 (.slice none 0 0))), (b9, Row 33 (attrL a)), (b5, Row 31 (gridL r c g))]) (ds := [8]) #[false, false, false, false, false, false, false, false, false] (by kernel_rfl) rfl rfl HM.out.drew (fun hS => ?_)
  refine take_ (i := 0) (N := some 55) (a' := ?_) (v := .pointer (some ⟨b11, 2, none⟩)) #[true, false, false, false, false, false, false, false, false] rfl rfl (by kernel_rfl) (by first | exact fun _ _ _ h => h | exact fun _ _ _ h => hP _ _ _ _ _ h) (Or.inl ⟨by rfl, fun w' _ => by go_simp⟩) hS ?_ ?_
  rotate_left
  · simp only [Act.put, List.setIfInBounds_toArray, List.set_cons_zero, List.set_cons_succ]
    rfl
  refine take_ (i := 1) (N := some 56) (a' := ?_) (v := .slice A1 n1 c1) #[true, true, false, false, false, false, false, false, false] rfl rfl (by kernel_rfl) (by first | exact fun _ _ _ h => h | exact fun _ _ _ h => hP _ _ _ _ _ h) (y_load rfl rfl rfl (.head _) rfl Tryz.underlying29 rfl) hS ?_ ?_
  rotate_left
  · simp only [Act.put, List.setIfInBounds_toArray, List.set_cons_zero, List.set_cons_succ]
    rfl
  refine take_ (i := 2) (N := some 57) (a' := ?_) (v := .pointer (some ⟨b5, 1, none⟩)) #[true, true, true, false, false, false, false, false, false] rfl rfl (by kernel_rfl) (by first | exact fun _ _ _ h => h | exact fun _ _ _ h => hP _ _ _ _ _ h) (Or.inl ⟨by rfl, fun w' _ => by go_simp⟩) hS ?_ ?_
  rotate_left
  · simp only [Act.put, List.setIfInBounds_toArray, List.set_cons_zero, List.set_cons_succ]
    rfl
  refine take_ (i := 3) (N := some 58) (a' := ?_) (v := .int .i64 c) #[true, true, true, true, false, false, false, false, false] rfl rfl (by kernel_rfl) (by first | exact fun _ _ _ h => h | exact fun _ _ _ h => hP _ _ _ _ _ h) (y_load rfl rfl rfl (.tail _ (.tail _ (.tail _ (.head _)))) rfl Tryz.underlying3 rfl) hS ?_ ?_
  rotate_left
  · simp only [Act.put, List.setIfInBounds_toArray, List.set_cons_zero, List.set_cons_succ]
    rfl
  refine take_ (i := 4) (N := some 59) (a' := ?_) (v := .agg (attrL a).toArray) #[true, true, true, true, true, false, false, false, false] rfl rfl (by kernel_rfl) (by first | exact fun _ _ _ h => h | exact fun _ _ _ h => hP _ _ _ _ _ h) (y_loadS rfl rfl rfl (by first | exact .head _ | exact .tail _ (.head _) | exact .tail _ (.tail _ (.head _)) | exact .tail _ (.tail _ (.tail _ (.head _))) | exact .tail _ (.tail _ (.tail _ (.tail _ (.head _)))) | exact .tail _ (.tail _ (.tail _ (.tail _ (.tail _ (.head _))))) | exact .tail _ (.tail _ (.tail _ (.tail _ (.tail _ (.tail _ (.head _)))))) | exact .tail _ (.tail _ (.tail _ (.tail _ (.tail _ (.tail _ (.tail _ (.head _)))))))) rfl Tryz.underlying33 rfl (by kernel_rfl)) hS ?_ ?_
  rotate_left
  · simp only [Act.put, List.setIfInBounds_toArray, List.set_cons_zero, List.set_cons_succ]
    rfl
  refine one_ (i := 5) (N := some 60) #[true, true, true, true, true, true, false, false, false] rfl rfl (by kernel_rfl) (by decide) (fun K hK => ?_)
  refine goes_ Tryz.func80 (by kernel_rfl) rfl #[.int .i64 c, .agg (attrL a).toArray] (by rfl) rfl rfl (by simp only [List.map_toArray, List.map_cons, List.map_nil]; rfl) ?_
  refine (blank_any c a _ (by omega)).mono ?_
  rintro e w5 ⟨v1, rfl, hO1, hB5⟩
  obtain ⟨A2, c2, rfl⟩ := hO1.slice
  have HO1 := hid hO1
  have HO2 := hid ((HO.out.below ((Below.refl _ _).drew)).below hB5)
  have HZ5 := hid (Nat.le_trans (show wr.heap.size ≤ wr.drew.heap.size from Nat.le_refl _) hB5.size)
  refine ⟨_, rfl, hK.out _ _ (hS.call hB5) (fun hS2 => ?_)⟩
  clear hK K hS hO1 hB5
  have hS := hS2
  clear hS2
  refine norm_ (a' := ?_) ?_ ?_
  rotate_left
  · simp only [Act.put, List.setIfInBounds_toArray, List.set_cons_zero, List.set_cons_succ]
    rfl
  refine one_ (i := 6) (N := some 61) #[true, true, true, true, true, true, true, false, false] rfl rfl (by kernel_rfl) (by decide) (fun K hK => ?_)
  refine y_app rfl rfl rfl B rfl HO2.out rfl HO1.out.rd (by rw [blankL_length]; omega) (Nat.le_trans hBr HZ5.out) (fun v' w6 hown hg => ?_)
  have hM6 := hS.app2 (B := B) (fun x hx => by
    rcases List.mem_cons.1 hx with rfl | hx
    · exact hlt.1
    rcases List.mem_cons.1 hx with rfl | hx
    · exact hlt.2.1
    rcases List.mem_cons.1 hx with rfl | hx
    · exact hlt.2.2.1
    rcases List.mem_cons.1 hx with rfl | hx
    · exact hlt.2.2.2
    · cases hx) hB HO2.out hg
  obtain ⟨A3, c3, rfl⟩ := hown.slice
  refine hK.out _ _ hM6 (fun hS2 => ?_)
  clear hK K hM6 hS
  have hS := hS2
  clear hS2
  refine norm_ (a' := ?_) ?_ ?_
  rotate_left
  · simp only [Act.put, List.setIfInBounds_toArray, List.set_cons_zero, List.set_cons_succ]
    rfl
  refine take_ (i := 7) (N := some 62) (a' := ?_) (v := .pointer (some ⟨b11, 2, none⟩)) #[true, true, true, true, true, true, true, true, false] rfl rfl (by kernel_rfl) (by first | exact fun _ _ _ h => h | exact fun _ _ _ h => hP _ _ _ _ _ h) (Or.inl ⟨by rfl, fun w' _ => by go_simp⟩) hS ?_ ?_
  rotate_left
  · simp only [Act.put, List.setIfInBounds_toArray, List.set_cons_zero, List.set_cons_succ]
    rfl
  refine last_ (i := 8) (N := none) #[true, true, true, true, true, true, true, true, true] rfl rfl (by kernel_rfl) (by decide) (fun K hK => ?_)
  refine y_store1 hS rfl rfl rfl rfl 0 rfl rfl rfl rfl (Nat.le_of_ble_eq_true rfl) (by kernel_rfl) (fun w7 hM7 hg7 => hK.out _ _ ?_)
  clear hK K
  refine done_ (by kernel_rfl) ?_
  exact hQ w7 _ _ _ _ _ _ _ _ _ _ _ hM7 (hown.kept hg7 (.inr fun e => by have := (hown.lt b11 e).1; have := hlt.1; omega)) (Nat.le_trans HZ5.out (Nat.le_trans hg.size hg7.size))
set_option maxRecDepth 100000 in
set_option maxHeartbeats 2000000 in
theorem vreg10_is {w wr : World} {b5 b9 b10 b11 c n1 c1 B ii : Nat} {r : Int} {A1 : Option Addr} {X N : List Cell} {a : Attr} {A0 : Option Addr} {n0 c0 : Nat} {Q : Exit → Act → World → Prop} (hM : Mem w wr [(b11, Row 31 (gridL r c (.slice A1 n1 c1))), (b10, Row 31 (gridL 0 0 (.slice none 0 0))), (b9, Row 33 (attrL a)), (b5, Row 31 (gridL r c (.slice A0 n0 c0)))])
    (hlt : b11 < B ∧ b10 < B ∧ b9 < B ∧ b5 < B) (hB : w.heap.size ≤ B) (hBr : B ≤ wr.heap.size) (hO : OwnC wr B (.slice A1 n1 c1) X) (hX : X.length + N.length ≤ 1000000)
    (hat : ∀ W, Below w.heap.size w W → Calls Tryz.prog 44 #[.agg (gridL r c (.slice A0 n0 c0)).toArray, .int .i64 ii] W fun e w' => ∃ v', e = .returned v' ∧ OwnC w' W.heap.size v' N ∧ Below W.heap.size W w')
    (hP : ∀ c a (d : Tmp) v w, Q (.panic c) (Act.put a (some d) v) w → Q (.panic c) a w) (u0 u1 u2 u3 u4 u6 u7 u8 u9 u10 u12 u14 u15 u16 u17 u18 u19 u20 u21 u22 u23 u24 u25 u26 u27 u28 u29 u30 u31 u32 u33 u34 u35 u36 u37 u38 u39 u40 u41 u42 u43 u44 u45 u46 u47 u48 u49 u50 u51 u52 u53 u54 u55 u56 u57 u58 u59 u60 u61 u62 u63 u64 u65 u66 u67 u68 u69 u70 : Value)
    (hQ : ∀ w' A2 n2 c2 (v63 v64 v65 v66 v67 v68 v69 : Value), Mem w w' [(b11, Row 31 (gridL r c (.slice A2 n2 c2))), (b10, Row 31 (gridL 0 0 (.slice none 0 0))), (b9, Row 33 (attrL a)), (b5, Row 31 (gridL r c (.slice A0 n0 c0)))] → OwnC w' B (.slice A2 n2 c2) (X ++ N) → wr.heap.size ≤ w'.heap.size →
      Q .normal ⟨#[u0, u1, u2, u3, u4, .pointer (some ⟨b5, 0, none⟩), u6, u7, u8, u9, u10, .pointer (some ⟨b11, 0, none⟩), u12, .int .i64 ii, u14, u15, u16, u17, u18, u19, u20, u21, u22, u23, u24, u25, u26, u27, u28, u29, u30, u31, u32, u33, u34, u35, u36, u37, u38, u39, u40, u41, u42, u43, u44, u45, u46, u47, u48, u49, u50, u51, u52, u53, u54, u55, u56, u57, u58, u59, u60, u61, u62, v63, v64, v65, v66, v67, v68, v69, u70], []⟩ w') :
    Code.wp Tryz.prog (vreg 10) Q ⟨#[u0, u1, u2, u3, u4, .pointer (some ⟨b5, 0, none⟩), u6, u7, u8, u9, u10, .pointer (some ⟨b11, 0, none⟩), u12, .int .i64 ii, u14, u15, u16, u17, u18, u19, u20, u21, u22, u23, u24, u25, u26, u27, u28, u29, u30, u31, u32, u33, u34, u35, u36, u37, u38, u39, u40, u41, u42, u43, u44, u45, u46, u47, u48, u49, u50, u51, u52, u53, u54, u55, u56, u57, u58, u59, u60, u61, u62, u63, u64, u65, u66, u67, u68, u69, u70], []⟩ wr := by
  have HM := hid hM
  have HO := hid hO
  have HAT := hid hat
  clear hM hO hat
  conv => arg 2; whnf
  conv => arg 4; zeta
  refine start_ (n := 8) (S := fun W => Mem w W [(b11, Row 31 (gridL r c (.slice A1 n1 c1))), (b10, Row 31 (gridL 0 0 (.slice none 0 0))), (b9, Row 33 (attrL a)), (b5, Row 31 (gridL r c (.slice A0 n0 c0)))]) (ds := [7]) #[false, false, false, false, false, false, false, false] (by kernel_rfl) rfl rfl HM.out.drew (fun hS => ?_)
  refine take_ (i := 0) (N := some 63) (a' := ?_) (v := .pointer (some ⟨b11, 2, none⟩)) #[true, false, false, false, false, false, false, false] rfl rfl (by kernel_rfl) (by first | exact fun _ _ _ h => h | exact fun _ _ _ h => hP _ _ _ _ _ h) (Or.inl ⟨by rfl, fun w' _ => by go_simp⟩) hS ?_ ?_
  rotate_left
  · simp only [Act.put, List.setIfInBounds_toArray, List.set_cons_zero, List.set_cons_succ]
    rfl
  refine take_ (i := 1) (N := some 64) (a' := ?_) (v := .slice A1 n1 c1) #[true, true, false, false, false, false, false, false] rfl rfl (by kernel_rfl) (by first | exact fun _ _ _ h => h | exact fun _ _ _ h => hP _ _ _ _ _ h) (y_load rfl rfl rfl (.head _) rfl Tryz.underlying29 rfl) hS ?_ ?_
  rotate_left
  · simp only [Act.put, List.setIfInBounds_toArray, List.set_cons_zero, List.set_cons_succ]
    rfl
  refine take_ (i := 2) (N := some 65) (a' := ?_) (v := .agg (gridL r c (.slice A0 n0 c0)).toArray) #[true, true, true, false, false, false, false, false] rfl rfl (by kernel_rfl) (by first | exact fun _ _ _ h => h | exact fun _ _ _ h => hP _ _ _ _ _ h) (y_loadS rfl rfl rfl (.tail _ (.tail _ (.tail _ (.head _)))) rfl Tryz.underlying31 rfl (by kernel_rfl)) hS ?_ ?_
  rotate_left
  · simp only [Act.put, List.setIfInBounds_toArray, List.set_cons_zero, List.set_cons_succ]
    rfl
  refine take_ (i := 3) (N := some 66) (a' := ?_) (v := .int .i64 ii) #[true, true, true, true, false, false, false, false] rfl rfl (by kernel_rfl) (by first | exact fun _ _ _ h => h | exact fun _ _ _ h => hP _ _ _ _ _ h) (Or.inl ⟨by rfl, fun w' _ => by go_simp⟩) hS ?_ ?_
  rotate_left
  · simp only [Act.put, List.setIfInBounds_toArray, List.set_cons_zero, List.set_cons_succ]
    rfl
  refine one_ (i := 4) (N := some 67) #[true, true, true, true, true, false, false, false] rfl rfl (by kernel_rfl) (by decide) (fun K hK => ?_)
  refine goes_ Tryz.func44 (by kernel_rfl) rfl #[.agg (gridL r c (.slice A0 n0 c0)).toArray, .int .i64 ii] (by rfl) rfl rfl (by simp only [List.map_toArray, List.map_cons, List.map_nil]; rfl) ?_
  refine (HAT.out _ hS.below).mono ?_
  rintro e w5 ⟨v1, rfl, hO1, hB5⟩
  obtain ⟨A2, c2, rfl⟩ := hO1.slice
  have HO1 := hid hO1
  have HO2 := hid ((HO.out.below ((Below.refl _ _).drew)).below hB5)
  have HZ5 := hid (Nat.le_trans (show wr.heap.size ≤ wr.drew.heap.size from Nat.le_refl _) hB5.size)
  refine ⟨_, rfl, hK.out _ _ (hS.call hB5) (fun hS2 => ?_)⟩
  clear hK K hS hO1 hB5
  have hS := hS2
  clear hS2
  refine norm_ (a' := ?_) ?_ ?_
  rotate_left
  · simp only [Act.put, List.setIfInBounds_toArray, List.set_cons_zero, List.set_cons_succ]
    rfl
  refine one_ (i := 5) (N := some 68) #[true, true, true, true, true, true, false, false] rfl rfl (by kernel_rfl) (by decide) (fun K hK => ?_)
  refine y_app rfl rfl rfl B rfl HO2.out rfl HO1.out.rd hX (Nat.le_trans hBr HZ5.out) (fun v' w6 hown hg => ?_)
  have hM6 := hS.app2 (B := B) (fun x hx => by
    rcases List.mem_cons.1 hx with rfl | hx
    · exact hlt.1
    rcases List.mem_cons.1 hx with rfl | hx
    · exact hlt.2.1
    rcases List.mem_cons.1 hx with rfl | hx
    · exact hlt.2.2.1
    rcases List.mem_cons.1 hx with rfl | hx
    · exact hlt.2.2.2
    · cases hx) hB HO2.out hg
  obtain ⟨A3, c3, rfl⟩ := hown.slice
  refine hK.out _ _ hM6 (fun hS2 => ?_)
  clear hK K hM6 hS
  have hS := hS2
  clear hS2
  refine norm_ (a' := ?_) ?_ ?_
  rotate_left
  · simp only [Act.put, List.setIfInBounds_toArray, List.set_cons_zero, List.set_cons_succ]
    rfl
  refine take_ (i := 6) (N := some 69) (a' := ?_) (v := .pointer (some ⟨b11, 2, none⟩)) #[true, true, true, true, true, true, true, false] rfl rfl (by kernel_rfl) (by first | exact fun _ _ _ h => h | exact fun _ _ _ h => hP _ _ _ _ _ h) (Or.inl ⟨by rfl, fun w' _ => by go_simp⟩) hS ?_ ?_
  rotate_left
  · simp only [Act.put, List.setIfInBounds_toArray, List.set_cons_zero, List.set_cons_succ]
    rfl
  refine last_ (i := 7) (N := none) #[true, true, true, true, true, true, true, true] rfl rfl (by kernel_rfl) (by decide) (fun K hK => ?_)
  refine y_store1 hS rfl rfl rfl rfl 0 rfl rfl rfl rfl (Nat.le_of_ble_eq_true rfl) (by kernel_rfl) (fun w7 hM7 hg7 => hK.out _ _ ?_)
  clear hK K
  refine done_ (by kernel_rfl) ?_
  exact hQ w7 _ _ _ _ _ _ _ _ _ _ hM7 (hown.kept hg7 (.inr fun e => by have := (hown.lt b11 e).1; have := hlt.1; omega)) (Nat.le_trans HZ5.out (Nat.le_trans hg.size hg7.size))
end Go.Proofs.YtpmfjombfcnhmaaGreatDoor
