import Derived.Test.YtpmfjombfcnhmaaGreatDoorEdGrid
import Derived.Test.YtpmfjombfcnhmaaGreatDoorEdRef3
set_option linter.unusedVariables false
set_option linter.unusedSimpArgs false
set_option linter.unnecessarySimpa false
/- The program's edits of a screen of one's own: a line. -/
namespace Go.Proofs.YtpmfjombfcnhmaaGreatDoor
open Go Go.RowKit Go.Proofs.YtpmfjombfcnhmaaGreatDoorW.PrintLast

theorem LineM {w0 w : World} {F : List Ent} {g p q cap c i P k : Nat} {ty : TypeId} {l : List Value} {M : List Cell} (hM : Mem w0 w F) (hG : F[k]? = some (p, Row ty l)) (hl1 : l[q + 1]? = some (.int .i64 (c : Int))) (hl2 : l[q + 2]? = some (sl g M.length cap)) (hP : i * c = P) (hPM : P + c ≤ cap) (hi : i ≤ 1000) (hc : c ≤ 1000) (hc1 : 1 ≤ c) :
    Calls Tryz.prog 66 #[.pointer (some ⟨p, q, none⟩), .int .i64 i] w fun e w' => e = .returned (.slice (some ⟨g, P * 6, none⟩) c c) ∧ Below w.heap.size w w' := by
  have h := line_any (g := p) (k := q) (b := g) (off := 0) (n := M.length) (cap := cap) (i := i) (c := c) (p := P) w (hM.cell (List.mem_of_getElem? hG) hl1) (hM.cell (List.mem_of_getElem? hG) hl2) hP hPM hi hc hc1
  rwa [Nat.zero_add] at h
theorem lt_rowsB {x y c q : Nat} (hq : q < c) : x * c + q < y * c ↔ x < y := by
  constructor
  · intro h
    rcases Nat.lt_or_ge x y with h1 | h1
    · exact h1
    · have := Nat.mul_le_mul_right c h1; omega
  · intro h
    have := Nat.mul_le_mul_right c (show x + 1 ≤ y from h)
    rw [Nat.succ_mul] at this
    omega
theorem le_rowsB {x y c q : Nat} (hq : q < c) : y * c ≤ x * c + q ↔ y ≤ x := by
  have := lt_rowsB (x := x) (y := y) hq
  omega
/-- a line erased: from the cursor, up to it, all -/
def lineL (n : Int) (col c : Nat) (a : Attr) (L : List Cell) : List Cell := if n = 0 then wipeL col c a L else if n = 1 then wipeL 0 (col + 1) a L else if n = 2 then wipeL 0 c a L else L
@[simp] theorem lineL_length (n : Int) (col c : Nat) (a : Attr) (L : List Cell) : (lineL n col c a L).length = L.length := by
  unfold lineL
  split
  · simp
  · split
    · simp
    · split <;> simp
noncomputable def lreg (n : Nat) : Code := ((Tryz.f68.body.bind (findRegion n)).getD .skip)
set_option maxRecDepth 100000 in
set_option maxHeartbeats 2000000 in
theorem lreg8_is {w0 wr : World} {F : List Ent} {s : Scr} {m o t : Value} {p g cap k j c row P low high q : Nat} {M : List Cell} {Q : Exit → Act → World → Prop} (hM : Mem w0 wr F) (hG : F[k]? = some (p, Row 38 (scrL s m o t))) (hF : F[j]? = some (g, entC M cap)) (hl1 : (scrL s m o t)[q + 1]? = some (.int .i64 (c : Int))) (hl2 : (scrL s m o t)[q + 2]? = some (sl g M.length cap))
    (hP : row * c = P) (hPM : P + c ≤ M.length) (hr : row ≤ 1000) (hc1 : 1 ≤ c) (hc : c ≤ 1000) (hm : M.length ≤ 1000000) (hh : high ≤ c)
    (hP' : ∀ c a (d : Tmp) v w, Q (.panic c) (Act.put a (some d) v) w → Q (.panic c) a w) (u2 u3 u4 u5 u9 u10 u11 u12 u13 u14 u15 u16 u17 u18 u19 u20 u21 u22 u23 u24 u25 u26 u27 u28 u29 u30 u31 u32 u33 u34 u35 u36 u37 u38 u39 u40 u41 u42 u43 : Value)
    (hQ : ∀ w' (v33 v34 v35 v36 v37 v38 v39 v40 v41 v42 v43 : Value), Mem w0 w' (F.set j (g, entC (onSub P c (wipeL low high s.cur.a) M) cap)) →
      Q .normal ⟨#[.pointer (some ⟨p, 0, none⟩), .int .i64 row, u2, u3, u4, u5, .pointer (some ⟨p, q, none⟩), .int .i64 low, .int .i64 high, u9, u10, u11, u12, u13, u14, u15, u16, u17, u18, u19, u20, u21, u22, u23, u24, u25, u26, u27, u28, u29, u30, u31, u32, v33, v34, v35, v36, v37, v38, v39, v40, v41, v42, v43], []⟩ w') :
    Code.wp Tryz.prog (lreg 8) Q ⟨#[.pointer (some ⟨p, 0, none⟩), .int .i64 row, u2, u3, u4, u5, .pointer (some ⟨p, q, none⟩), .int .i64 low, .int .i64 high, u9, u10, u11, u12, u13, u14, u15, u16, u17, u18, u19, u20, u21, u22, u23, u24, u25, u26, u27, u28, u29, u30, u31, u32, u33, u34, u35, u36, u37, u38, u39, u40, u41, u42, u43], []⟩ wr := by
  have hP := hP'
  have HM := hid hM
  have HG := hid hG
  have HF := hid hF
  have HLC := hid (hM.lenC (List.mem_of_getElem? hF))
  have HLM : Hid (∀ W, Mem w0 W F → Calls Tryz.prog 66 #[.pointer (some ⟨p, q, none⟩), .int .i64 row] W fun e w' => e = .returned (.slice (some ⟨g, P * 6, none⟩) c c) ∧ Below W.heap.size W w') := hid fun W hW => LineM hW hG hl1 hl2 (by assumption) (by have := hM.lenC (List.mem_of_getElem? hF); omega) hr hc hc1
  clear hM hG hF hl1 hl2 hP'
  conv => arg 2; whnf
  conv => arg 4; zeta
  refine start_ (n := 11) (S := fun W => Mem w0 W F) (ds := [10]) #[false, false, false, false, false, false, false, false, false, false, false] (by kernel_rfl) rfl rfl HM.out.drew (fun hS => ?_)
  refine take_ (i := 0) (N := some 33) (a' := ?_) (v := .pointer (some ⟨p, q, none⟩)) #[true, false, false, false, false, false, false, false, false, false, false] rfl rfl (by kernel_rfl) (by first | exact fun _ _ _ h => h | exact fun _ _ _ h => hP _ _ _ _ _ h) (Or.inl ⟨by rfl, fun w' _ => by go_simp⟩) hS ?_ ?_
  rotate_left
  · simp only [Act.put, List.setIfInBounds_toArray, List.set_cons_zero, List.set_cons_succ]
    rfl
  refine take_ (i := 1) (N := some 34) (a' := ?_) (v := .int .i64 row) #[true, true, false, false, false, false, false, false, false, false, false] rfl rfl (by kernel_rfl) (by first | exact fun _ _ _ h => h | exact fun _ _ _ h => hP _ _ _ _ _ h) (Or.inl ⟨by rfl, fun w' _ => by go_simp⟩) hS ?_ ?_
  rotate_left
  · simp only [Act.put, List.setIfInBounds_toArray, List.set_cons_zero, List.set_cons_succ]
    rfl
  refine take_ (i := 3) (N := some 36) (a' := ?_) (v := .int .i64 low) #[true, true, false, true, false, false, false, false, false, false, false] rfl rfl (by kernel_rfl) (by first | exact fun _ _ _ h => h | exact fun _ _ _ h => hP _ _ _ _ _ h) (Or.inl ⟨by rfl, fun w' _ => by go_simp⟩) hS ?_ ?_
  rotate_left
  · simp only [Act.put, List.setIfInBounds_toArray, List.set_cons_zero, List.set_cons_succ]
    rfl
  refine take_ (i := 4) (N := some 37) (a' := ?_) (v := .int .i64 high) #[true, true, false, true, true, false, false, false, false, false, false] rfl rfl (by kernel_rfl) (by first | exact fun _ _ _ h => h | exact fun _ _ _ h => hP _ _ _ _ _ h) (Or.inl ⟨by rfl, fun w' _ => by go_simp⟩) hS ?_ ?_
  rotate_left
  · simp only [Act.put, List.setIfInBounds_toArray, List.set_cons_zero, List.set_cons_succ]
    rfl
  refine take_ (i := 5) (N := some 38) (a' := ?_) (v := .pointer (some ⟨p, 0, none⟩)) #[true, true, false, true, true, true, false, false, false, false, false] rfl rfl (by kernel_rfl) (by first | exact fun _ _ _ h => h | exact fun _ _ _ h => hP _ _ _ _ _ h) (Or.inl ⟨by rfl, fun w' _ => by go_simp⟩) hS ?_ ?_
  rotate_left
  · simp only [Act.put, List.setIfInBounds_toArray, List.set_cons_zero, List.set_cons_succ]
    rfl
  refine take_ (i := 6) (N := some 39) (a' := ?_) (v := .pointer (some ⟨p, 0, none⟩)) #[true, true, false, true, true, true, true, false, false, false, false] rfl rfl (by kernel_rfl) (by first | exact fun _ _ _ h => h | exact fun _ _ _ h => hP _ _ _ _ _ h) (Or.inl ⟨by rfl, fun w' _ => by go_simp⟩) hS ?_ ?_
  rotate_left
  · simp only [Act.put, List.setIfInBounds_toArray, List.set_cons_zero, List.set_cons_succ]
    rfl
  refine take_ (i := 7) (N := some 40) (a' := ?_) (v := .pointer (some ⟨p, 7, none⟩)) #[true, true, false, true, true, true, true, true, false, false, false] rfl rfl (by kernel_rfl) (by first | exact fun _ _ _ h => h | exact fun _ _ _ h => hP _ _ _ _ _ h) (Or.inl ⟨by rfl, fun w' _ => by go_simp⟩) hS ?_ ?_
  rotate_left
  · simp only [Act.put, List.setIfInBounds_toArray, List.set_cons_zero, List.set_cons_succ]
    rfl
  refine take_ (i := 8) (N := some 41) (a' := ?_) (v := .pointer (some ⟨p, 10, none⟩)) #[true, true, false, true, true, true, true, true, true, false, false] rfl rfl (by kernel_rfl) (by first | exact fun _ _ _ h => h | exact fun _ _ _ h => hP _ _ _ _ _ h) (Or.inl ⟨by rfl, fun w' _ => by go_simp⟩) hS ?_ ?_
  rotate_left
  · simp only [Act.put, List.setIfInBounds_toArray, List.set_cons_zero, List.set_cons_succ]
    rfl
  refine take_ (i := 9) (N := some 42) (a' := ?_) (v := .agg (attrL s.cur.a).toArray) #[true, true, false, true, true, true, true, true, true, true, false] rfl rfl (by kernel_rfl) (by first | exact fun _ _ _ h => h | exact fun _ _ _ h => hP _ _ _ _ _ h) (y_loadS rfl rfl rfl (List.mem_of_getElem? HG.out) (show ((scrL s m o t).drop 10).take (attrL s.cur.a).length = attrL s.cur.a from rfl) Tryz.underlying33 rfl (by kernel_rfl)) hS ?_ ?_
  rotate_left
  · simp only [Act.put, List.setIfInBounds_toArray, List.set_cons_zero, List.set_cons_succ]
    rfl
  refine one_ (i := 2) (N := some 35) #[true, true, true, true, true, true, true, true, true, true, false] rfl rfl (by kernel_rfl) (by decide) (fun K hK => ?_)
  refine goes_ Tryz.func66 (by kernel_rfl) rfl #[.pointer (some ⟨p, q, none⟩), .int .i64 row] (by rfl) rfl rfl (by simp only [List.map_toArray, List.map_cons, List.map_nil]; rfl) ?_
  refine (HLM.out _ hS).mono ?_
  rintro e w4 ⟨rfl, hB⟩
  refine ⟨_, rfl, hK.out _ _ (hS.call hB) (fun hS2 => ?_)⟩
  clear hK K hS hB
  refine norm_ (a' := ?_) ?_ ?_
  rotate_left
  · simp only [Act.put, List.setIfInBounds_toArray, List.set_cons_zero, List.set_cons_succ]
    rfl
  refine last_ (i := 10) (N := some 43) #[true, true, true, true, true, true, true, true, true, true, true] rfl rfl (by kernel_rfl) (by decide) (fun K hK => ?_)
  refine goes_ Tryz.func69 (by kernel_rfl) rfl #[.slice (some ⟨g, P * 6, none⟩) c c, .int .i64 low, .int .i64 high, .agg (attrL s.cur.a).toArray] (by rfl) rfl rfl (by simp only [List.map_toArray, List.map_cons, List.map_nil]; rfl) ?_
  refine (wipe_any (o := P) (n := c) (c := c) hS2 HF.out rfl hPM hm (Nat.le_refl _) hh (by omega)).mono ?_
  rintro e w5 ⟨rfl, hM5⟩
  refine ⟨_, rfl, hK.out _ _ ?_⟩
  clear hK K
  refine norm_ (a' := ?_) ?_ ?_
  rotate_left
  · simp only [Act.put, List.setIfInBounds_toArray, List.set_cons_zero, List.set_cons_succ]
    rfl
  refine done_ (by kernel_rfl) ?_
  exact hQ w5 _ _ _ _ _ _ _ _ _ _ _ hM5
set_option maxRecDepth 100000 in
set_option maxHeartbeats 2000000 in
theorem eline_any {w0 w : World} {F : List Ent} {s : Scr} {m o t : Value} {p g cap k j c row P col : Nat} {n : Int} {M : List Cell} (hM : Mem w0 w F) (hG : F[k]? = some (p, Row 38 (scrL s m o t))) (hF : F[j]? = some (g, entC M cap)) (hl1 : (scrL s m o t)[seenO s + 1]? = some (.int .i64 (c : Int))) (hl2 : (scrL s m o t)[seenO s + 2]? = some (sl g M.length cap))
    (hP : row * c = P) (hPM : P + c ≤ M.length) (hr : row ≤ 1000) (hc1 : 1 ≤ c) (hc : c ≤ 1000) (hm : M.length ≤ 1000000) (hcol : s.cur.col = (col : Int)) (hcc : col < c) :
    Calls Tryz.prog 68 #[.pointer (some ⟨p, 0, none⟩), .int .i64 row, .int .i64 n] w fun e w' => e = .returned (.tuple #[]) ∧ Mem w0 w' (F.set j (g, entC (onSub P c (lineL n col c s.cur.a) M) cap)) := by
  have HM := hid hM
  have HG := hid hG
  have HF := hid hF
  have HL1 := hid hl1
  have HL2 := hid hl2
  have HPP := hid hP
  have HC1 := hid (show (scrL s m o t)[8]? = some (.int .i64 (col : Int)) by rw [← hcol]; rfl)
  have HSN : Hid (∀ W, Mem w0 W F → Calls Tryz.prog 65 #[.pointer (some ⟨p, 0, none⟩)] W fun e w' => e = .returned (.pointer (some ⟨p, seenO s, none⟩)) ∧ W = w') := hid fun W hW => Seen_any hW hG
  obtain ⟨q, hq⟩ : ∃ q, seenO s = q := ⟨_, rfl⟩
  rw [hq] at HL1 HL2 HSN
  have s1 : IntKind.i64.wrap ((col : Int) + 1) = (col : Int) + 1 := IntWalk.i64_in _ (by omega)
  have e1 : (col : Int) + 1 = ((col + 1 : Nat) : Int) := by omega
  have HCE := hid e1
  clear hM hG hF hl1 hl2 hq hcol hP e1
  go_enter Tryz.func68, Tryz.ntmps68
  go_upto_region 1 with (go_at_call 65; (with_reducible refine (HSN.out _ HM.out).mono ?_); rintro e w4 ⟨rfl, rfl⟩)
  refine m_quiet HM.out (by kernel_rfl) (by kernel_rfl) (fun hne => ?_)
  repeat (first | (go_big_quiet_want; refine mq_load rfl rfl (List.mem_of_getElem? HG.out) HL1.out Tryz.underlying3 rfl ?_; simp only [Act.put, List.setIfInBounds_toArray, List.set_cons_zero, List.set_cons_succ]; go_big_quiet_on) | go_big_quiet_step (fail))
  refine wpQuiet_nil ?_
  intro wq hM
  clear HM hne
  have HM := hid hM
  clear hM
  by_cases h0 : n = 0
  · subst h0
    have HE := hid (show lineL 0 col c s.cur.a = wipeL col c s.cur.a by funext L; rfl)
    go_upto_region 8 with (first | ((with_reducible refine wl_id ?_); refine m_load HM.out rfl rfl rfl (List.mem_of_getElem? HG.out) HC1.out Tryz.underlying3 rfl ?_; simp only [Act.put, List.setIfInBounds_toArray, List.set_cons_zero, List.set_cons_succ]))
    refine lreg8_is HM.out HG.out HF.out HL1.out HL2.out HPP.out hPM hr hc1 hc hm (Nat.le_refl _) (fun _ _ _ _ _ h => by simp +zetaDelta only [Exit.then, Exit.inBlock] at h ⊢; exact h) _ _ _ _ _ _ _ _ _ _ _ _ _ _ _ _ _ _ _ _ _ _ _ _ _ _ _ _ _ _ _ _ _ _ _ _ _ _ _ ?_
    rintro w8 v33 v34 v35 v36 v37 v38 v39 v40 v41 v42 v43 hM
    conv => zeta
    rw [HE.out]
    go_wp2
    go_end0
    exact ⟨rfl, hM⟩
  · have h0b : (n == 0) = false := wd_ne h0
    by_cases h1 : n = 1
    · subst h1
      have HE := hid (show lineL 1 col c s.cur.a = wipeL 0 (col + 1) s.cur.a by funext L; rfl)
      go_upto_region 8 with (first | ((with_reducible refine wl_id ?_); refine m_load HM.out rfl rfl rfl (List.mem_of_getElem? HG.out) HC1.out Tryz.underlying3 rfl ?_; simp only [Act.put, List.setIfInBounds_toArray, List.set_cons_zero, List.set_cons_succ]))
      rw [HCE.out]
      refine lreg8_is (low := 0) HM.out HG.out HF.out HL1.out HL2.out HPP.out hPM hr hc1 hc hm (by omega) (fun _ _ _ _ _ h => by simp +zetaDelta only [Exit.then, Exit.inBlock] at h ⊢; exact h) _ _ _ _ _ _ _ _ _ _ _ _ _ _ _ _ _ _ _ _ _ _ _ _ _ _ _ _ _ _ _ _ _ _ _ _ _ _ _ ?_
      rintro w8 v33 v34 v35 v36 v37 v38 v39 v40 v41 v42 v43 hM
      conv => zeta
      rw [HE.out]
      go_wp2
      go_end0
      exact ⟨rfl, hM⟩
    · have h1b : (n == 1) = false := wd_ne h1
      by_cases h2 : n = 2
      · subst h2
        have HE := hid (show lineL 2 col c s.cur.a = wipeL 0 c s.cur.a by funext L; rfl)
        go_upto_region 8 with (fail)
        refine lreg8_is (low := 0) HM.out HG.out HF.out HL1.out HL2.out HPP.out hPM hr hc1 hc hm (Nat.le_refl _) (fun _ _ _ _ _ h => by simp +zetaDelta only [Exit.then, Exit.inBlock] at h ⊢; exact h) _ _ _ _ _ _ _ _ _ _ _ _ _ _ _ _ _ _ _ _ _ _ _ _ _ _ _ _ _ _ _ _ _ _ _ _ _ _ _ ?_
        rintro w8 v33 v34 v35 v36 v37 v38 v39 v40 v41 v42 v43 hM
        conv => zeta
        rw [HE.out]
        go_wp2
        go_end0
        exact ⟨rfl, hM⟩
      · have h2b : (n == 2) = false := wd_ne h2
        have HE := hid (show lineL n col c s.cur.a = id by funext L; simp only [lineL, if_neg h0, if_neg h1, if_neg h2]; rfl)
        go_wp2
        (refine bodyPost_ret (results_none rfl _ _ _) rfl ?_)
        refine ⟨rfl, ?_⟩
        rw [HE.out, onSub_id rfl, set_same HF.out]
        exact HM.out
end Go.Proofs.YtpmfjombfcnhmaaGreatDoor

/- The program's edits of a screen of one's own: all lines, rows. -/
namespace Go.Proofs.YtpmfjombfcnhmaaGreatDoor
open Go Go.RowKit Go.Proofs.YtpmfjombfcnhmaaGreatDoorW.PrintLast

/-- each row turned -/
def rowsL (c : Nat) (f : Nat → List Cell → List Cell) (M : List Cell) : List Cell := tab M.length fun j => at_ (f (j / c) (sub (j / c * c) c M)) (j % c)
@[simp] theorem rowsL_length (c : Nat) (f : Nat → List Cell → List Cell) (M : List Cell) : (rowsL c f M).length = M.length := by simp [rowsL]
theorem at_rowsL {c : Nat} {f : Nat → List Cell → List Cell} {M : List Cell} {i q : Nat} (hq : q < c) (hj : i * c + q < M.length) : at_ (rowsL c f M) (i * c + q) = at_ (f i (sub (i * c) c M)) q := by
  have e1 : (i * c + q) / c = i := by rw [Nat.mul_comm, Nat.mul_add_div (by omega), Nat.div_eq_of_lt hq]; rfl
  have e2 : (i * c + q) % c = q := by rw [Nat.mul_comm, Nat.mul_add_mod, Nat.mod_eq_of_lt hq]
  rw [rowsL, at_tab hj, e1, e2]
theorem row_inE {r c i : Nat} (hi : i < r) : i * c + c ≤ r * c := by rw [← Nat.succ_mul]; exact Nat.mul_le_mul_right _ hi
theorem ext_rows {r c : Nat} {X Y : List Cell} (hX : X.length = r * c) (hY : Y.length = r * c) (hc : 1 ≤ c) (h : ∀ i q, i < r → q < c → at_ X (i * c + q) = at_ Y (i * c + q)) : X = Y := by
  apply ext_at (by omega)
  intro j hj
  have hq : j % c < c := Nat.mod_lt _ (by omega)
  have hjd : j / c * c + j % c = j := by rw [Nat.mul_comm]; exact Nat.div_add_mod j c
  have hi : j / c < r := by
    rcases Nat.lt_or_ge (j / c) r with h1 | h1
    · exact h1
    · have := Nat.mul_le_mul_right c h1; omega
  rw [← hjd]
  exact h _ _ hi hq
theorem sub_rowsL {r c i : Nat} {f : Nat → List Cell → List Cell} {M : List Cell} (hM : M.length = r * c) (hi : i < r) (hf : (f i (sub (i * c) c M)).length = c) : sub (i * c) c (rowsL c f M) = f i (sub (i * c) c M) := by
  have := row_inE (c := c) hi
  apply ext_at
  · rw [sub_length, hf]
  · intro q hq
    rw [sub_length] at hq
    rw [sub_at hq, at_rowsL hq (by omega)]
theorem rowsL_step {r c i : Nat} {f : Nat → List Cell → List Cell} {h : List Cell → List Cell} {M : List Cell} (hM : M.length = r * c) (hi : i < r) (hc : 1 ≤ c) (hf : (f i (sub (i * c) c M)).length = c) : onSub (i * c) c h (rowsL c f M) = rowsL c (fun k L => if k = i then h (f k L) else f k L) M := by
  refine ext_rows (r := r) (c := c) (by simpa using hM) (by simpa using hM) hc fun k q hk hq => ?_
  have h1 := row_inE (c := c) hk
  have hR := at_rowsL (f := fun k L => if k = i then h (f k L) else f k L) (M := M) (i := k) hq (by omega)
  have hL := at_rowsL (f := f) (M := M) (i := k) hq (by omega)
  rw [at_onSub (by rw [rowsL_length]; omega), hR]
  have e1 := le_rowsB (x := k) (y := i) hq
  have e2 := lt_rowsB (x := k) (y := i + 1) hq
  rw [Nat.succ_mul] at e2
  by_cases hki : k = i
  · subst hki
    have c1 : k * c ≤ k * c + q ∧ k * c + q < k * c + c := by omega
    simp only [if_pos c1, if_true]
    rw [sub_rowsL hM hi hf, show k * c + q - k * c = q by omega]
  · have c1 : ¬ (i * c ≤ k * c + q ∧ k * c + q < i * c + c) := fun hx => hki (by have := e1.1 hx.1; have := e2.1 hx.2; omega)
    simp only [if_neg c1, if_neg hki]
    exact hL
theorem rowsL_congr {r c : Nat} {f g : Nat → List Cell → List Cell} {M : List Cell} (hM : M.length = r * c) (hc : 1 ≤ c) (h : ∀ k L, k < r → L.length = c → f k L = g k L) : rowsL c f M = rowsL c g M := by
  refine ext_rows (r := r) (c := c) (by simpa using hM) (by simpa using hM) hc fun k q hk hq => ?_
  have h1 := row_inE (c := c) hk
  rw [at_rowsL hq (by omega), at_rowsL hq (by omega), h k _ hk (sub_length _ _ _)]
theorem rowsL_id {r c : Nat} {M : List Cell} (hM : M.length = r * c) (hc : 1 ≤ c) : rowsL c (fun _ L => L) M = M := by
  refine ext_rows (r := r) (c := c) (by simpa using hM) hM hc fun k q hk hq => ?_
  have h1 := row_inE (c := c) hk
  rw [at_rowsL hq (by omega), sub_at hq]
theorem wipe_all {c : Nat} {a : Attr} {L : List Cell} (hL : L.length = c) (hc : 1 ≤ c) : wipeL 0 c a L = tab c fun _ => bare a := by
  apply ext_at
  · simp [hL]
  · intro j hj
    rw [wipeL_length, hL] at hj
    rw [wipeL, if_pos (by omega), at_onSub (by simp; omega), if_pos (by omega), at_fillL (by rw [sub_length]; omega), at_tab hj]
/-- whether J erases all of a row -/
def jc (n : Int) (row k : Nat) : Prop := n = 2 ∨ (n = 0 ∧ row < k) ∨ (n = 1 ∧ k < row)
instance (n : Int) (row k : Nat) : Decidable (jc n row k) := by unfold jc; exact inferInstance
def jT (n : Int) (row col c : Nat) (a : Attr) (i k : Nat) (L : List Cell) : List Cell := if k < i ∧ jc n row k then wipeL 0 c a L else if k = row then lineL n col c a L else L
@[simp] theorem jT_length (n : Int) (row col c : Nat) (a : Attr) (i k : Nat) (L : List Cell) : (jT n row col c a i k L).length = L.length := by
  unfold jT
  split
  · simp
  · split <;> simp
theorem jT_start {n : Int} {r row col c : Nat} {a : Attr} {M : List Cell} (hM : M.length = r * c) (hc : 1 ≤ c) (hr : row < r) : onSub (row * c) c (lineL n col c a) M = rowsL c (jT n row col c a 0) M := by
  have h := rowsL_step (h := lineL n col c a) (f := fun _ L => L) hM hr hc (sub_length _ _ _)
  rw [rowsL_id hM hc] at h
  rw [h]
  refine rowsL_congr hM hc fun k L _ _ => ?_
  have e : ¬ (k < 0 ∧ jc n row k) := fun hx => absurd hx.1 (by omega)
  simp only [jT, if_neg e]
theorem jT_yes {n : Int} {r row col c i : Nat} {a : Attr} {M : List Cell} (hM : M.length = r * c) (hc : 1 ≤ c) (hi : i < r) (hj : jc n row i) : onSub (i * c) c (lineL 2 col c a) (rowsL c (jT n row col c a i) M) = rowsL c (jT n row col c a (i + 1)) M := by
  rw [rowsL_step hM hi hc (by simp)]
  refine rowsL_congr hM hc fun k L _ hL => ?_
  by_cases hk : k = i
  · subst hk
    rw [if_pos rfl, show lineL 2 col c a (jT n row col c a k k L) = wipeL 0 c a (jT n row col c a k k L) from rfl, wipe_all (by simpa using hL) hc]
    unfold jT
    rw [if_pos ⟨by omega, hj⟩, wipe_all hL hc]
  · rw [if_neg hk]
    by_cases h2 : k < i ∧ jc n row k
    · have h3 : k < i + 1 ∧ jc n row k := ⟨by omega, h2.2⟩
      simp only [jT, if_pos h2, if_pos h3]
    · have h3 : ¬ (k < i + 1 ∧ jc n row k) := fun hx => h2 ⟨by omega, hx.2⟩
      simp only [jT, if_neg h2, if_neg h3]
theorem jT_no {n : Int} {r row col c i : Nat} {a : Attr} {M : List Cell} (hM : M.length = r * c) (hc : 1 ≤ c) (hj : ¬ jc n row i) : rowsL c (jT n row col c a i) M = rowsL c (jT n row col c a (i + 1)) M := by
  refine rowsL_congr hM hc fun k L _ hL => ?_
  by_cases h2 : k < i ∧ jc n row k
  · have h3 : k < i + 1 ∧ jc n row k := ⟨by omega, h2.2⟩
    simp only [jT, if_pos h2, if_pos h3]
  · have h3 : ¬ (k < i + 1 ∧ jc n row k) := fun hx => by
      by_cases hk : k = i
      · subst hk; exact hj hx.2
      · exact h2 ⟨by omega, hx.2⟩
    simp only [jT, if_neg h2, if_neg h3]
set_option maxRecDepth 100000 in
set_option maxHeartbeats 4000000 in
theorem eall_any {w0 w : World} {F : List Ent} {s : Scr} {m o t : Value} {p g cap k j c r row col : Nat} {n : Int} {M : List Cell} (hM : Mem w0 w F) (hG : F[k]? = some (p, Row 38 (scrL s m o t))) (hF : F[j]? = some (g, entC M cap)) (hl0 : (scrL s m o t)[seenO s]? = some (.int .i64 (r : Int))) (hl1 : (scrL s m o t)[seenO s + 1]? = some (.int .i64 (c : Int))) (hl2 : (scrL s m o t)[seenO s + 2]? = some (sl g M.length cap))
    (hMl : M.length = r * c) (hr : r ≤ 1000) (hc1 : 1 ≤ c) (hc : c ≤ 1000) (hm : M.length ≤ 1000000) (hcol : s.cur.col = (col : Int)) (hcc : col < c) (hrow : s.cur.row = (row : Int)) (hrr : row < r) :
    Calls Tryz.prog 67 #[.pointer (some ⟨p, 0, none⟩), .int .i64 n] w fun e w' => e = .returned (.tuple #[]) ∧ Mem w0 w' (F.set j (g, entC (rowsL c (jT n row col c s.cur.a r) M) cap)) := by
  have HM := hid hM
  have HG := hid hG
  have HF := hid hF
  have HL0 := hid hl0
  have HC0 := hid (show (scrL s m o t)[7]? = some (.int .i64 (row : Int)) by rw [← hrow]; rfl)
  have HSN : Hid (∀ (X : List Cell) W, Mem w0 W (F.set j (g, entC X cap)) → k ≠ j → Calls Tryz.prog 65 #[.pointer (some ⟨p, 0, none⟩)] W fun e w' => e = .returned (.pointer (some ⟨p, seenO s, none⟩)) ∧ W = w') := hid fun X W hW hkj => Seen_any hW (by rw [List.getElem?_set_ne (fun h => hkj h.symm)]; exact hG)
  have hkj : k ≠ j := fun e => by
    subst e
    rw [hG] at hF
    obtain ⟨_, ob, hob, hp⟩ := hM.here _ (List.mem_of_getElem? hG)
    have h1 := Option.some.inj hF
    have h2 : Row 38 (scrL s m o t) = entC M cap := (Prod.mk.inj h1).2
    have h3 : entC M cap ob := h2 ▸ hp
    obtain ⟨_, cur, h4, _⟩ := h3
    have h5 : ob = .cells (scrL s m o t).toArray 38 (0, 0) := hp
    rw [h4] at h5
    simp at h5
  have HKJ := hid hkj
  have HEL : Hid (∀ (X : List Cell) W (n' : Int) (i : Nat), X.length = M.length → i < r → Mem w0 W (F.set j (g, entC X cap)) → Calls Tryz.prog 68 #[.pointer (some ⟨p, 0, none⟩), .int .i64 i, .int .i64 n'] W fun e w' => e = .returned (.tuple #[]) ∧ Mem w0 w' (F.set j (g, entC (onSub (i * c) c (lineL n' col c s.cur.a) X) cap))) := hid fun X W n' i hX hi hW => by
    have := eline_any (n := n') (row := i) hW (k := k) (by rw [List.getElem?_set_ne (fun h => hkj h.symm)]; exact hG) (set_get hF) hl1 (by rw [hX]; exact hl2) rfl (by rw [hX, hMl]; exact row_inE hi) (by omega) hc1 hc (by omega) hcol hcc
    rwa [List.set_set] at this
  have HG2 : Hid (∀ (X : List Cell), (F.set j (g, entC X cap))[k]? = some (p, Row 38 (scrL s m o t))) := hid fun X => by rw [List.getElem?_set_ne (fun h => hkj h.symm)]; exact hG
  have HMS := hid (show Mem w0 w (F.set j (g, entC M cap)) by rw [set_same hF]; exact hM)
  obtain ⟨q, hq⟩ : ∃ q, seenO s = q := ⟨_, rfl⟩
  rw [hq] at HL0 HSN
  have HST := hid (jT_start (n := n) (col := col) (a := s.cur.a) hMl hc1 hrr)
  have HYES := hid (fun i (hi : i < r) (hj : jc n row i) => jT_yes (col := col) (a := s.cur.a) hMl hc1 hi hj)
  have HNO := hid (fun i (hj : ¬ jc n row i) => jT_no (col := col) (a := s.cur.a) hMl hc1 hj)
  clear hM hG hF hl0 hl1 hl2 hq hcol hrow hkj hMl HM
  have HM := HMS
  clear HMS
  go_enter Tryz.func67, Tryz.ntmps67
  go_upto_region 1 with (first | ((with_reducible refine wl_id ?_); refine m_load HM.out rfl rfl rfl (List.mem_of_getElem? (HG2.out M)) HC0.out Tryz.underlying3 rfl ?_; simp only [Act.put, List.setIfInBounds_toArray, List.set_cons_zero, List.set_cons_succ]) | (go_at_call 68; (with_reducible refine (HEL.out M _ n row rfl hrr HM.out).mono ?_); rintro e w1 ⟨rfl, hM⟩; rw [HST.out] at hM; have HM1 := hid hM; clear hM))
  clear HM
  have HM := HM1
  clear HM1
  go_wp2_with (first | (go_at_call 65; (with_reducible refine (HSN.out _ _ HM.out HKJ.out).mono ?_); rintro e w2 ⟨rfl, rfl⟩) | ((with_reducible refine wl_id ?_); refine m_load HM.out rfl rfl rfl (List.mem_of_getElem? (HG2.out _)) HL0.out Tryz.underlying3 rfl ?_; simp only [Act.put, List.setIfInBounds_toArray, List.set_cons_zero, List.set_cons_succ]))
  obtain ⟨wo, rfl⟩ : ∃ wo : World, wo = w1 := ⟨_, rfl⟩
  go_loopw [18] (fun x wr => ∃ i : Nat, x = .int .i64 i ∧ i ≤ r ∧ Hid (Mem w0 wr (F.set j (g, entC (rowsL c (jT n row col c s.cur.a i) M) cap)))) (fun x _ => r - (intOf x).toNat)
  case atStart => exact ⟨0, rfl, Nat.zero_le _, HM⟩
  case round =>
    obtain ⟨i, rfl, hi1, HMr⟩ := hrel
    clear HM
    have HM := HMr
    clear HMr
    by_cases hlt : i < r
    · have hlt2 : (i : Int) < (r : Int) := by omega
      have hcr : wr.cell? ⟨p, 7, none⟩ = some (.int .i64 row) := HM.out.cell (List.mem_of_getElem? (HG2.out _)) HC0.out
      by_cases hj : jc n row i
      · have HY := hid (HYES.out i hlt hj)
        rcases hj with rfl | ⟨rfl, hk⟩ | ⟨rfl, hk⟩
        · go_wp2_with (go_at_call 68; (with_reducible refine (HEL.out _ _ 2 i (by simp) hlt HM.out).mono ?_); rintro e w3 ⟨rfl, hM⟩; rw [HY.out] at hM; have HM3 := hid hM; clear hM)
          go_roundw
          case rel => exact ⟨i + 1, by go_num, by omega, HM3⟩
          case measure => simp [intOf]; omega
        · have hk2 : (row : Int) < (i : Int) := by omega
          go_wp2_with (go_at_call 68; (with_reducible refine (HEL.out _ _ 2 i (by simp) hlt HM.out).mono ?_); rintro e w3 ⟨rfl, hM⟩; rw [HY.out] at hM; have HM3 := hid hM; clear hM)
          go_roundw
          case rel => exact ⟨i + 1, by go_num, by omega, HM3⟩
          case measure => simp [intOf]; omega
        · have hk2 : (i : Int) < (row : Int) := by omega
          go_wp2_with (go_at_call 68; (with_reducible refine (HEL.out _ _ 2 i (by simp) hlt HM.out).mono ?_); rintro e w3 ⟨rfl, hM⟩; rw [HY.out] at hM; have HM3 := hid hM; clear hM)
          go_roundw
          case rel => exact ⟨i + 1, by go_num, by omega, HM3⟩
          case measure => simp [intOf]; omega
      · have HN := hid (HNO.out i hj)
        have h2 : ¬ n = 2 := fun e => hj (.inl e)
        have h2b : (n == 2) = false := wd_ne h2
        by_cases h0 : n = 0
        · subst h0
          have hk2 : ¬ (row : Int) < (i : Int) := fun e => hj (.inr (.inl ⟨rfl, by omega⟩))
          clear hj h2 h2b
          go_wp2; go_roundw; (case rel => exact ⟨i + 1, by go_num, by omega, hid (by have := HM.out; rwa [HN.out] at this)⟩); (case measure => simp [intOf]; omega)
        · have h0b : (n == 0) = false := wd_ne h0
          by_cases h1 : n = 1
          · subst h1
            have hk2 : ¬ (i : Int) < (row : Int) := fun e => hj (.inr (.inr ⟨rfl, by omega⟩))
            clear hj h2 h2b h0 h0b
            go_wp2; go_roundw; (case rel => exact ⟨i + 1, by go_num, by omega, hid (by have := HM.out; rwa [HN.out] at this)⟩); (case measure => simp [intOf]; omega)
          · have h1b : (n == 1) = false := wd_ne h1
            clear hj
            go_wp2; go_roundw; (case rel => exact ⟨i + 1, by go_num, by omega, hid (by have := HM.out; rwa [HN.out] at this)⟩); (case measure => simp [intOf]; omega)
    · have hlt2 : ¬ (i : Int) < (r : Int) := by omega
      obtain rfl : i = r := by omega
      go_wp2
      go_end0
      exact ⟨rfl, HM.out⟩
end Go.Proofs.YtpmfjombfcnhmaaGreatDoor

/- The program's edits of a screen of one's own: edit.rows, edit.Edit key by key. -/
namespace Go.Proofs.YtpmfjombfcnhmaaGreatDoor
open Go Go.RowKit Go.Proofs.YtpmfjombfcnhmaaGreatDoorW.PrintLast

/-- what an edit's walk knows of a screen and of the cells that are seen -/
structure EdH (s : Scr) (m o t : Value) (g cap r c row col top bot : Nat) (M : List Cell) : Prop where
  l0 : (scrL s m o t)[seenO s]? = some (.int .i64 (r : Int))
  l1 : (scrL s m o t)[seenO s + 1]? = some (.int .i64 (c : Int))
  l2 : (scrL s m o t)[seenO s + 2]? = some (sl g M.length cap)
  ml : M.length = r * c
  r40 : r ≤ 40
  c1 : 1 ≤ c
  c40 : c ≤ 40
  hrow : s.cur.row = (row : Int)
  rr : row < r
  hcol : s.cur.col = (col : Int)
  cc : col < c
  htop : s.top = (top : Int)
  hbot : s.bot = (bot : Int)
  tb : top ≤ bot
  br : bot < r
namespace EdH
variable {s : Scr} {m o t : Value} {g cap r c row col top bot : Nat} {M : List Cell}
theorem noW (h : EdH s m o t g cap r c row col top bot M) : EdH (noWrap s) m o t g cap r c row col top bot M := by
  have e : seenO (noWrap s) = seenO s := rfl
  cases hs : s.sw with
  | true =>
    have e2 : seenO s = 3 := by rw [seenO, if_pos hs]
    refine ⟨?_, ?_, ?_, h.ml, h.r40, h.c1, h.c40, h.hrow, h.rr, h.hcol, h.cc, h.htop, h.hbot, h.tb, h.br⟩
    · have := h.l0; rw [e, e2]; rw [e2] at this; exact this
    · have := h.l1; rw [e, e2]; rw [e2] at this; exact this
    · have := h.l2; rw [e, e2]; rw [e2] at this; exact this
  | false =>
    have e2 : seenO s = 0 := by rw [seenO, if_neg (by simp [hs])]
    refine ⟨?_, ?_, ?_, h.ml, h.r40, h.c1, h.c40, h.hrow, h.rr, h.hcol, h.cc, h.htop, h.hbot, h.tb, h.br⟩
    · have := h.l0; rw [e, e2]; rw [e2] at this; exact this
    · have := h.l1; rw [e, e2]; rw [e2] at this; exact this
    · have := h.l2; rw [e, e2]; rw [e2] at this; exact this
theorem len (h : EdH s m o t g cap r c row col top bot M) : M.length ≤ 1600 := by rw [h.ml]; exact mul_le40 h.r40 h.c40
theorem rowIn (h : EdH s m o t g cap r c row col top bot M) : row * c + c ≤ M.length := by rw [h.ml]; exact row_inE h.rr
theorem pos (h : EdH s m o t g cap r c row col top bot M) : 0 < M.length := by have := h.rowIn; have := h.c1; omega
end EdH
theorem Kj {w0 w : World} {F : List Ent} {p g cap k j : Nat} {l : List Value} {M : List Cell} (hM : Mem w0 w F) (hG : F[k]? = some (p, Row 38 l)) (hF : F[j]? = some (g, entC M cap)) : k ≠ j := fun e => by
  subst e
  rw [hG] at hF
  obtain ⟨_, ob, hob, hp⟩ := hM.here _ (List.mem_of_getElem? hG)
  have h2 : Row 38 l = entC M cap := (Prod.mk.inj (Option.some.inj hF)).2
  have h3 : entC M cap ob := h2 ▸ hp
  obtain ⟨_, cur, h4, _⟩ := h3
  have h5 : ob = .cells l.toArray 38 (0, 0) := hp
  rw [h4] at h5
  simp at h5
set_option maxRecDepth 100000 in
set_option maxHeartbeats 2000000 in
theorem scrU {s : Scr} {m o t : Value} {g cap r c row col top bot : Nat} {M : List Cell} (E : EdH s m o t g cap r c row col top bot M) {w0 w : World} {F : List Ent} {p k j tp b : Nat} {a : Attr} (hM : Mem w0 w F) (hG : F[k]? = some (p, Row 38 (scrL s m o t))) (hF : F[j]? = some (g, entC M cap)) (htb : tp ≤ bot) (hb : 1 ≤ b ∧ b ≤ 9999) :
    Calls Tryz.prog 73 #[.pointer (some ⟨p, seenO s, none⟩), .int .i64 tp, .int .i64 bot, .int .i64 b, .agg (attrL a).toArray] w fun e w' => e = .returned (.tuple #[]) ∧ Mem w0 w' (F.set j (g, entC (onSub (tp * c) ((bot + 1) * c - tp * c) (upL (min b (bot - tp + 1) * c) a) M) cap)) :=
  scrollUp_any hM hF hG E.l1 E.l2 rfl rfl rfl rfl hb htb (by have := E.br; have := E.r40; omega) E.c1 (by have := E.c40; omega) (by rw [E.ml]; exact Nat.mul_le_mul_right _ E.br) (by have := E.len; omega)
theorem scrD {s : Scr} {m o t : Value} {g cap r c row col top bot : Nat} {M : List Cell} (E : EdH s m o t g cap r c row col top bot M) {w0 w : World} {F : List Ent} {p k j tp b : Nat} {a : Attr} (hM : Mem w0 w F) (hG : F[k]? = some (p, Row 38 (scrL s m o t))) (hF : F[j]? = some (g, entC M cap)) (htb : tp ≤ bot) (hb : 1 ≤ b ∧ b ≤ 9999) :
    Calls Tryz.prog 73 #[.pointer (some ⟨p, seenO s, none⟩), .int .i64 tp, .int .i64 bot, .int .i64 (-(b : Int)), .agg (attrL a).toArray] w fun e w' => e = .returned (.tuple #[]) ∧ Mem w0 w' (F.set j (g, entC (onSub (tp * c) ((bot + 1) * c - tp * c) (downL (min b (bot - tp + 1) * c) a) M) cap)) :=
  scrollDown_any hM hF hG E.l1 E.l2 rfl rfl rfl rfl hb htb (by have := E.br; have := E.r40; omega) E.c1 (by have := E.c40; omega) (by rw [E.ml]; exact Nat.mul_le_mul_right _ E.br) (by have := E.len; omega)
noncomputable def rwreg (n : Nat) : Code := ((Tryz.f72.body.bind (findRegion n)).getD .skip)
set_option maxRecDepth 100000 in
set_option maxHeartbeats 2000000 in
theorem rwreg1_is {w0 wr : World} {F F' : List Ent} {s : Scr} {m o t : Value} {p k q : Nat} {b row bot : Int} {a : Attr} {Q : Exit → Act → World → Prop} (hM : Mem w0 wr F) (hG : F[k]? = some (p, Row 38 (scrL s m o t))) (hrow : s.cur.row = row) (hbot : s.bot = bot) (ha : s.cur.a = a) (hq : seenO s = q)
    (hsc : ∀ W, Mem w0 W F → Calls Tryz.prog 73 #[.pointer (some ⟨p, q, none⟩), .int .i64 row, .int .i64 bot, .int .i64 b, .agg (attrL a).toArray] W fun e w' => e = .returned (.tuple #[]) ∧ Mem w0 w' F')
    (hP : ∀ c a (d : Tmp) v w, Q (.panic c) (Act.put a (some d) v) w → Q (.panic c) a w) (u2 u3 u4 u5 u6 u7 u8 u9 u10 u11 u12 u13 u14 u15 u16 u17 u18 u19 u20 u21 u22 u23 u24 u25 u26 u27 u28 u29 u30 u31 u32 u33 u34 u35 u36 u37 u38 u39 u40 u41 u42 u43 u44 u45 u46 u47 : Value)
    (hQ : ∀ w' (v26 v27 v28 v29 v30 v31 v32 v33 v34 v35 v36 v37 v38 v39 v40 v41 v42 v43 : Value), Mem w0 w' F' → Q .normal ⟨#[.pointer (some ⟨p, 0, none⟩), .int .i64 b, u2, u3, u4, u5, u6, u7, u8, u9, u10, u11, u12, u13, u14, u15, u16, u17, u18, u19, u20, u21, u22, u23, u24, u25, v26, v27, v28, v29, v30, v31, v32, v33, v34, v35, v36, v37, v38, v39, v40, v41, v42, v43, u44, u45, u46, u47], []⟩ w') :
    Code.wp Tryz.prog (rwreg 1) Q ⟨#[.pointer (some ⟨p, 0, none⟩), .int .i64 b, u2, u3, u4, u5, u6, u7, u8, u9, u10, u11, u12, u13, u14, u15, u16, u17, u18, u19, u20, u21, u22, u23, u24, u25, u26, u27, u28, u29, u30, u31, u32, u33, u34, u35, u36, u37, u38, u39, u40, u41, u42, u43, u44, u45, u46, u47], []⟩ wr := by
  subst hrow hbot ha
  have HM := hid hM
  have HG := hid hG
  have HSC := hid hsc
  have HSN : Hid (∀ W, Mem w0 W F → Calls Tryz.prog 65 #[.pointer (some ⟨p, 0, none⟩)] W fun e w' => e = .returned (.pointer (some ⟨p, q, none⟩)) ∧ W = w') := hid fun W hW => by rw [← hq]; exact Seen_any hW hG
  clear hM hG hsc hq
  conv => arg 2; whnf
  conv => arg 4; zeta
  refine start_ (n := 18) (S := fun W => Mem w0 W F) (ds := [17]) #[false, false, false, false, false, false, false, false, false, false, false, false, false, false, false, false, false, false] (by kernel_rfl) rfl rfl HM.out.drew (fun hS => ?_)
  refine take_ (i := 0) (N := some 26) (a' := ?_) (v := .pointer (some ⟨p, 0, none⟩)) #[true, false, false, false, false, false, false, false, false, false, false, false, false, false, false, false, false, false] rfl rfl (by kernel_rfl) (by first | exact fun _ _ _ h => h | exact fun _ _ _ h => hP _ _ _ _ _ h) (Or.inl ⟨by rfl, fun w' _ => by go_simp⟩) hS ?_ ?_
  rotate_left
  · simp only [Act.put, List.setIfInBounds_toArray, List.set_cons_zero, List.set_cons_succ]
    rfl
  refine take_ (i := 2) (N := some 28) (a' := ?_) (v := .pointer (some ⟨p, 0, none⟩)) #[true, false, true, false, false, false, false, false, false, false, false, false, false, false, false, false, false, false] rfl rfl (by kernel_rfl) (by first | exact fun _ _ _ h => h | exact fun _ _ _ h => hP _ _ _ _ _ h) (Or.inl ⟨by rfl, fun w' _ => by go_simp⟩) hS ?_ ?_
  rotate_left
  · simp only [Act.put, List.setIfInBounds_toArray, List.set_cons_zero, List.set_cons_succ]
    rfl
  refine take_ (i := 3) (N := some 29) (a' := ?_) (v := .pointer (some ⟨p, 0, none⟩)) #[true, false, true, true, false, false, false, false, false, false, false, false, false, false, false, false, false, false] rfl rfl (by kernel_rfl) (by first | exact fun _ _ _ h => h | exact fun _ _ _ h => hP _ _ _ _ _ h) (Or.inl ⟨by rfl, fun w' _ => by go_simp⟩) hS ?_ ?_
  rotate_left
  · simp only [Act.put, List.setIfInBounds_toArray, List.set_cons_zero, List.set_cons_succ]
    rfl
  refine take_ (i := 4) (N := some 30) (a' := ?_) (v := .pointer (some ⟨p, 7, none⟩)) #[true, false, true, true, true, false, false, false, false, false, false, false, false, false, false, false, false, false] rfl rfl (by kernel_rfl) (by first | exact fun _ _ _ h => h | exact fun _ _ _ h => hP _ _ _ _ _ h) (Or.inl ⟨by rfl, fun w' _ => by go_simp⟩) hS ?_ ?_
  rotate_left
  · simp only [Act.put, List.setIfInBounds_toArray, List.set_cons_zero, List.set_cons_succ]
    rfl
  refine take_ (i := 5) (N := some 31) (a' := ?_) (v := .pointer (some ⟨p, 7, none⟩)) #[true, false, true, true, true, true, false, false, false, false, false, false, false, false, false, false, false, false] rfl rfl (by kernel_rfl) (by first | exact fun _ _ _ h => h | exact fun _ _ _ h => hP _ _ _ _ _ h) (Or.inl ⟨by rfl, fun w' _ => by go_simp⟩) hS ?_ ?_
  rotate_left
  · simp only [Act.put, List.setIfInBounds_toArray, List.set_cons_zero, List.set_cons_succ]
    rfl
  refine take_ (i := 6) (N := some 32) (a' := ?_) (v := .int .i64 s.cur.row) #[true, false, true, true, true, true, true, false, false, false, false, false, false, false, false, false, false, false] rfl rfl (by kernel_rfl) (by first | exact fun _ _ _ h => h | exact fun _ _ _ h => hP _ _ _ _ _ h) (y_load rfl rfl rfl (List.mem_of_getElem? HG.out) rfl Tryz.underlying3 rfl) hS ?_ ?_
  rotate_left
  · simp only [Act.put, List.setIfInBounds_toArray, List.set_cons_zero, List.set_cons_succ]
    rfl
  refine take_ (i := 7) (N := some 33) (a' := ?_) (v := .pointer (some ⟨p, 0, none⟩)) #[true, false, true, true, true, true, true, true, false, false, false, false, false, false, false, false, false, false] rfl rfl (by kernel_rfl) (by first | exact fun _ _ _ h => h | exact fun _ _ _ h => hP _ _ _ _ _ h) (Or.inl ⟨by rfl, fun w' _ => by go_simp⟩) hS ?_ ?_
  rotate_left
  · simp only [Act.put, List.setIfInBounds_toArray, List.set_cons_zero, List.set_cons_succ]
    rfl
  refine take_ (i := 8) (N := some 34) (a' := ?_) (v := .pointer (some ⟨p, 0, none⟩)) #[true, false, true, true, true, true, true, true, true, false, false, false, false, false, false, false, false, false] rfl rfl (by kernel_rfl) (by first | exact fun _ _ _ h => h | exact fun _ _ _ h => hP _ _ _ _ _ h) (Or.inl ⟨by rfl, fun w' _ => by go_simp⟩) hS ?_ ?_
  rotate_left
  · simp only [Act.put, List.setIfInBounds_toArray, List.set_cons_zero, List.set_cons_succ]
    rfl
  refine take_ (i := 9) (N := some 35) (a' := ?_) (v := .pointer (some ⟨p, 38, none⟩)) #[true, false, true, true, true, true, true, true, true, true, false, false, false, false, false, false, false, false] rfl rfl (by kernel_rfl) (by first | exact fun _ _ _ h => h | exact fun _ _ _ h => hP _ _ _ _ _ h) (Or.inl ⟨by rfl, fun w' _ => by go_simp⟩) hS ?_ ?_
  rotate_left
  · simp only [Act.put, List.setIfInBounds_toArray, List.set_cons_zero, List.set_cons_succ]
    rfl
  refine take_ (i := 10) (N := some 36) (a' := ?_) (v := .int .i64 s.bot) #[true, false, true, true, true, true, true, true, true, true, true, false, false, false, false, false, false, false] rfl rfl (by kernel_rfl) (by first | exact fun _ _ _ h => h | exact fun _ _ _ h => hP _ _ _ _ _ h) (y_load rfl rfl rfl (List.mem_of_getElem? HG.out) rfl Tryz.underlying3 rfl) hS ?_ ?_
  rotate_left
  · simp only [Act.put, List.setIfInBounds_toArray, List.set_cons_zero, List.set_cons_succ]
    rfl
  refine take_ (i := 11) (N := some 37) (a' := ?_) (v := .int .i64 b) #[true, false, true, true, true, true, true, true, true, true, true, true, false, false, false, false, false, false] rfl rfl (by kernel_rfl) (by first | exact fun _ _ _ h => h | exact fun _ _ _ h => hP _ _ _ _ _ h) (Or.inl ⟨by rfl, fun w' _ => by go_simp⟩) hS ?_ ?_
  rotate_left
  · simp only [Act.put, List.setIfInBounds_toArray, List.set_cons_zero, List.set_cons_succ]
    rfl
  refine take_ (i := 12) (N := some 38) (a' := ?_) (v := .pointer (some ⟨p, 0, none⟩)) #[true, false, true, true, true, true, true, true, true, true, true, true, true, false, false, false, false, false] rfl rfl (by kernel_rfl) (by first | exact fun _ _ _ h => h | exact fun _ _ _ h => hP _ _ _ _ _ h) (Or.inl ⟨by rfl, fun w' _ => by go_simp⟩) hS ?_ ?_
  rotate_left
  · simp only [Act.put, List.setIfInBounds_toArray, List.set_cons_zero, List.set_cons_succ]
    rfl
  refine take_ (i := 13) (N := some 39) (a' := ?_) (v := .pointer (some ⟨p, 0, none⟩)) #[true, false, true, true, true, true, true, true, true, true, true, true, true, true, false, false, false, false] rfl rfl (by kernel_rfl) (by first | exact fun _ _ _ h => h | exact fun _ _ _ h => hP _ _ _ _ _ h) (Or.inl ⟨by rfl, fun w' _ => by go_simp⟩) hS ?_ ?_
  rotate_left
  · simp only [Act.put, List.setIfInBounds_toArray, List.set_cons_zero, List.set_cons_succ]
    rfl
  refine take_ (i := 14) (N := some 40) (a' := ?_) (v := .pointer (some ⟨p, 7, none⟩)) #[true, false, true, true, true, true, true, true, true, true, true, true, true, true, true, false, false, false] rfl rfl (by kernel_rfl) (by first | exact fun _ _ _ h => h | exact fun _ _ _ h => hP _ _ _ _ _ h) (Or.inl ⟨by rfl, fun w' _ => by go_simp⟩) hS ?_ ?_
  rotate_left
  · simp only [Act.put, List.setIfInBounds_toArray, List.set_cons_zero, List.set_cons_succ]
    rfl
  refine take_ (i := 15) (N := some 41) (a' := ?_) (v := .pointer (some ⟨p, 10, none⟩)) #[true, false, true, true, true, true, true, true, true, true, true, true, true, true, true, true, false, false] rfl rfl (by kernel_rfl) (by first | exact fun _ _ _ h => h | exact fun _ _ _ h => hP _ _ _ _ _ h) (Or.inl ⟨by rfl, fun w' _ => by go_simp⟩) hS ?_ ?_
  rotate_left
  · simp only [Act.put, List.setIfInBounds_toArray, List.set_cons_zero, List.set_cons_succ]
    rfl
  refine take_ (i := 16) (N := some 42) (a' := ?_) (v := .agg (attrL s.cur.a).toArray) #[true, false, true, true, true, true, true, true, true, true, true, true, true, true, true, true, true, false] rfl rfl (by kernel_rfl) (by first | exact fun _ _ _ h => h | exact fun _ _ _ h => hP _ _ _ _ _ h) (y_loadS rfl rfl rfl (List.mem_of_getElem? HG.out) (show ((scrL s m o t).drop 10).take (attrL s.cur.a).length = attrL s.cur.a from rfl) Tryz.underlying33 rfl (by kernel_rfl)) hS ?_ ?_
  rotate_left
  · simp only [Act.put, List.setIfInBounds_toArray, List.set_cons_zero, List.set_cons_succ]
    rfl
  refine one_ (i := 1) (N := some 27) #[true, true, true, true, true, true, true, true, true, true, true, true, true, true, true, true, true, false] rfl rfl (by kernel_rfl) (by decide) (fun K hK => ?_)
  refine goes_ Tryz.func65 (by kernel_rfl) rfl #[.pointer (some ⟨p, 0, none⟩)] (by rfl) rfl rfl (by simp only [List.map_toArray, List.map_cons, List.map_nil]; rfl) ?_
  refine (HSN.out _ hS).mono ?_
  rintro e w4 ⟨rfl, rfl⟩
  refine ⟨_, rfl, hK.out _ _ hS (fun hS2 => ?_)⟩
  clear hK K hS
  refine norm_ (a' := ?_) ?_ ?_
  rotate_left
  · simp only [Act.put, List.setIfInBounds_toArray, List.set_cons_zero, List.set_cons_succ]
    rfl
  refine last_ (i := 17) (N := some 43) #[true, true, true, true, true, true, true, true, true, true, true, true, true, true, true, true, true, true] rfl rfl (by kernel_rfl) (by decide) (fun K hK => ?_)
  refine goes_ Tryz.func73 (by kernel_rfl) rfl #[.pointer (some ⟨p, q, none⟩), .int .i64 s.cur.row, .int .i64 s.bot, .int .i64 b, .agg (attrL s.cur.a).toArray] (by rfl) rfl rfl (by simp only [List.map_toArray, List.map_cons, List.map_nil]; rfl) ?_
  refine (HSC.out _ hS2).mono ?_
  rintro e w5 ⟨rfl, hM5⟩
  refine ⟨_, rfl, hK.out _ _ ?_⟩
  clear hK K
  refine norm_ (a' := ?_) ?_ ?_
  rotate_left
  · simp only [Act.put, List.setIfInBounds_toArray, List.set_cons_zero, List.set_cons_succ]
    rfl
  refine done_ (by kernel_rfl) ?_
  exact hQ w5 _ _ _ _ _ _ _ _ _ _ _ _ _ _ _ _ _ _ hM5
set_option maxRecDepth 100000 in
set_option maxHeartbeats 2000000 in
theorem erows_in {w0 w : World} {F F' : List Ent} {s : Scr} {m o t : Value} {p k : Nat} {b row bot top : Int} {a : Attr} (hM : Mem w0 w F) (hG : F[k]? = some (p, Row 38 (scrL s m o t))) (hrow : s.cur.row = row) (hbot : s.bot = bot) (htop : s.top = top) (ha : s.cur.a = a) (hin : top ≤ row ∧ row ≤ bot)
    (hsc : ∀ W, Mem w0 W F → Calls Tryz.prog 73 #[.pointer (some ⟨p, seenO s, none⟩), .int .i64 row, .int .i64 bot, .int .i64 b, .agg (attrL a).toArray] W fun e w' => e = .returned (.tuple #[]) ∧ Mem w0 w' F') (hG' : F'[k]? = some (p, Row 38 (scrL s m o t))) :
    Calls Tryz.prog 72 #[.pointer (some ⟨p, 0, none⟩), .int .i64 b] w fun e w' => e = .returned (.tuple #[]) ∧ Mem w0 w' (F'.set k (p, Row 38 (scrL (atCol s 0) m o t))) := by
  have HM := hid hM
  have HG := hid hG
  have HG2 := hid hG'
  have HSC := hid hsc
  obtain ⟨q, hq⟩ : ∃ q, seenO s = q := ⟨_, rfl⟩
  rw [hq] at HSC
  have HQ := hid hq
  have HR1 := hid hrow
  have HR2 := hid hbot
  have HR3 := hid ha
  have HV1 := hid (show (scrL s m o t)[7]? = some (.int .i64 row) by rw [← hrow]; rfl)
  have HV2 := hid (show (scrL s m o t)[37]? = some (.int .i64 top) by rw [← htop]; rfl)
  have HV3 := hid (show (scrL s m o t)[38]? = some (.int .i64 bot) by rw [← hbot]; rfl)
  obtain ⟨h1, h2⟩ := hin
  clear hM hG hG' hsc hq hrow hbot htop ha
  go_enter Tryz.func72, Tryz.ntmps72
  go_upto_region 0 with (fail)
  refine m_quiet HM.out (by kernel_rfl) (by kernel_rfl) (fun hne => ?_)
  repeat (first | (go_big_quiet_want; refine mq_load rfl rfl (List.mem_of_getElem? HG.out) HV1.out Tryz.underlying3 rfl ?_; simp only [Act.put, List.setIfInBounds_toArray, List.set_cons_zero, List.set_cons_succ]; go_big_quiet_on) | (go_big_quiet_want; refine mq_load rfl rfl (List.mem_of_getElem? HG.out) HV2.out Tryz.underlying3 rfl ?_; simp only [Act.put, List.setIfInBounds_toArray, List.set_cons_zero, List.set_cons_succ]; go_big_quiet_on) | (go_big_quiet_want; refine mq_load rfl rfl (List.mem_of_getElem? HG.out) HV3.out Tryz.underlying3 rfl ?_; simp only [Act.put, List.setIfInBounds_toArray, List.set_cons_zero, List.set_cons_succ]; go_big_quiet_on) | go_big_quiet_step (fail))
  refine wpQuiet_nil ?_
  intro wq hM
  clear HM hne
  have HM := hid hM
  clear hM
  go_upto_region 1 with (fail)
  refine rwreg1_is HM.out HG.out HR1.out HR2.out HR3.out HQ.out HSC.out (fun _ _ _ _ _ h => by simp +zetaDelta only [Exit.then, Exit.inBlock] at h ⊢; exact h) _ _ _ _ _ _ _ _ _ _ _ _ _ _ _ _ _ _ _ _ _ _ _ _ _ _ _ _ _ _ _ _ _ _ _ _ _ _ _ _ _ _ _ _ _ _ ?_
  rintro w1 v26 v27 v28 v29 v30 v31 v32 v33 v34 v35 v36 v37 v38 v39 v40 v41 v42 v43 hM
  conv => zeta
  have HM1 := hid hM
  clear hM
  go_wp2_with (first | ((with_reducible refine wl_id ?_); refine m_store HM1.out rfl rfl rfl k HG2.out rfl rfl rfl (Nat.le_of_ble_eq_true rfl) (by kernel_rfl) ?_; intro w2 hM; simp only [Act.put, List.setIfInBounds_toArray, List.set_cons_zero, List.set_cons_succ]; have HM2 := hid hM; clear hM))
  go_end0
  exact ⟨rfl, HM2.out⟩
set_option maxRecDepth 100000 in
set_option maxHeartbeats 2000000 in
theorem erows_out {w0 w : World} {F : List Ent} {s : Scr} {m o t : Value} {p k : Nat} {b row bot top : Int} (hM : Mem w0 w F) (hG : F[k]? = some (p, Row 38 (scrL s m o t))) (hrow : s.cur.row = row) (hbot : s.bot = bot) (htop : s.top = top) (hin : ¬ (top ≤ row ∧ row ≤ bot)) :
    Calls Tryz.prog 72 #[.pointer (some ⟨p, 0, none⟩), .int .i64 b] w fun e w' => e = .returned (.tuple #[]) ∧ Mem w0 w' F := by
  have HM := hid hM
  have HG := hid hG
  have HV1 := hid (show (scrL s m o t)[7]? = some (.int .i64 row) by rw [← hrow]; rfl)
  have HV2 := hid (show (scrL s m o t)[37]? = some (.int .i64 top) by rw [← htop]; rfl)
  have HV3 := hid (show (scrL s m o t)[38]? = some (.int .i64 bot) by rw [← hbot]; rfl)
  clear hM hG hrow hbot htop
  by_cases h1 : top ≤ row
  · have h2 : ¬ row ≤ bot := fun h => hin ⟨h1, h⟩
    clear hin
    go_enter Tryz.func72, Tryz.ntmps72
    go_upto_region 0 with (fail)
    refine m_quiet HM.out (by kernel_rfl) (by kernel_rfl) (fun hne => ?_)
    repeat (first | (go_big_quiet_want; refine mq_load rfl rfl (List.mem_of_getElem? HG.out) HV1.out Tryz.underlying3 rfl ?_; simp only [Act.put, List.setIfInBounds_toArray, List.set_cons_zero, List.set_cons_succ]; go_big_quiet_on) | (go_big_quiet_want; refine mq_load rfl rfl (List.mem_of_getElem? HG.out) HV2.out Tryz.underlying3 rfl ?_; simp only [Act.put, List.setIfInBounds_toArray, List.set_cons_zero, List.set_cons_succ]; go_big_quiet_on) | (go_big_quiet_want; refine mq_load rfl rfl (List.mem_of_getElem? HG.out) HV3.out Tryz.underlying3 rfl ?_; simp only [Act.put, List.setIfInBounds_toArray, List.set_cons_zero, List.set_cons_succ]; go_big_quiet_on) | go_big_quiet_step (fail))
    refine wpQuiet_nil ?_
    intro wq hM
    clear HM hne
    have HM := hid hM
    clear hM
    go_wp2
    go_end0
    exact ⟨rfl, HM.out⟩
  · clear hin
    go_enter Tryz.func72, Tryz.ntmps72
    go_upto_region 0 with (fail)
    refine m_quiet HM.out (by kernel_rfl) (by kernel_rfl) (fun hne => ?_)
    repeat (first | (go_big_quiet_want; refine mq_load rfl rfl (List.mem_of_getElem? HG.out) HV1.out Tryz.underlying3 rfl ?_; simp only [Act.put, List.setIfInBounds_toArray, List.set_cons_zero, List.set_cons_succ]; go_big_quiet_on) | (go_big_quiet_want; refine mq_load rfl rfl (List.mem_of_getElem? HG.out) HV2.out Tryz.underlying3 rfl ?_; simp only [Act.put, List.setIfInBounds_toArray, List.set_cons_zero, List.set_cons_succ]; go_big_quiet_on) | (go_big_quiet_want; refine mq_load rfl rfl (List.mem_of_getElem? HG.out) HV3.out Tryz.underlying3 rfl ?_; simp only [Act.put, List.setIfInBounds_toArray, List.set_cons_zero, List.set_cons_succ]; go_big_quiet_on) | go_big_quiet_step (fail))
    refine wpQuiet_nil ?_
    intro wq hM
    clear HM hne
    have HM := hid hM
    clear hM
    go_wp2
    go_end0
    exact ⟨rfl, HM.out⟩
end Go.Proofs.YtpmfjombfcnhmaaGreatDoor
