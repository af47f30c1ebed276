/- CursorKeeps: the regions whose order is open. -/
import Derived.Test.YtbjckahaalbpaaaDoorRKeep
import Derived.Test.YtbjckahaalbpaaaDoorSameA
set_option linter.unusedVariables false
set_option linter.unusedSimpArgs false
set_option linter.unnecessarySimpa false
namespace Go.Proofs.YtbjckahaalbpaaaDoor
open Go Go.RowKit Go.Proofs.YtbjckahaalbpaaaDoorW.PrintLast

theorem scrB_keep {s : Scr} (h : scrB s = true) : scrB (keepS s) = true := by
  simp only [scrB, Bool.and_eq_true] at h
  obtain ⟨⟨hg, hc⟩, hr⟩ := h
  simp only [cursOk, Bool.and_eq_true] at hc
  unfold keepS
  split
  · simp only [scrB, Bool.and_eq_true]
    exact ⟨⟨hg, by simp only [cursOk, Bool.and_eq_true]; exact ⟨⟨hc.1.1, hc.1.2⟩, hc.1.1⟩⟩, hr⟩
  · simp only [scrB, Bool.and_eq_true]
    exact ⟨⟨hg, by simp only [cursOk, Bool.and_eq_true]; exact ⟨⟨hc.1.1, hc.1.1⟩, hc.2⟩⟩, hr⟩
theorem kept_keep (s : Scr) : (backS (keepS s)).cur = s.cur := by
  unfold backS keptC keepS putCur
  cases h : s.sw <;> simp [h]
theorem scrB_zS : scrB zS = false := by
  cases h : scrB zS with
  | false => rfl
  | true => exact absurd (scrB_facts h).1.mr.1 (by decide)
theorem small_keep {s : Scr} (h : s.small) : (keepS s).small := by
  unfold keepS
  split <;> exact h
theorem small_back {s : Scr} (h : s.small) : (backS s).small := h

noncomputable def kR (s x : Scr) : Scr := if scrB s = true then x else zS
noncomputable def kE (s : Scr) : Int := if scrB s = true then 0 else 1
theorem kR_small {s x : Scr} (h : x.small) : (kR s x).small := by
  unfold kR
  split
  · exact h
  · exact zS_small
theorem kHome {s : Scr} {mi oi ti : Value} {W : World} (hr : RdScr W s mi oi ti) (hT : U8 W) : Calls Tryd.prog 31 #[.agg (scrL s mi oi ti).toArray] W fun e w' => KeepPost W (kR s (toS s 72 1 1)) (kE s) e w' := by
  cases h : scrB s with
  | true => rw [kR, kE, if_pos h, if_pos h]; exact Home_out fun W' hW => (done_Homed (hr.below hW) (hT.below hW) h).mono fun _ _ hh => KeepPost.good hh
  | false => rw [kR, kE, if_neg (by simp [h]), if_neg (by simp [h])]; exact Home_out fun W' hW => (done_bad (hr.below hW) (hT.below hW) h).mono fun _ _ hh => KeepPost.bad hh
theorem kSave {s : Scr} {mi oi ti : Value} {W : World} (hr : RdScr W s mi oi ti) (hT : U8 W) : Calls Tryd.prog 32 #[.agg (scrL s mi oi ti).toArray] W fun e w' => KeepPost W (kR s (keepS s)) (kE s) e w' := by
  cases h : scrB s with
  | true => rw [kR, kE, if_pos h, if_pos h]; exact Save_out fun W' hW => (done_Keep (hr.below hW) (hT.below hW) h).mono fun _ _ hh => KeepPost.good hh
  | false => rw [kR, kE, if_neg (by simp [h]), if_neg (by simp [h])]; exact Save_out fun W' hW => (done_bad (hr.below hW) (hT.below hW) h).mono fun _ _ hh => KeepPost.bad hh
theorem kRest {s : Scr} {mi oi ti : Value} {W : World} (hr : RdScr W s mi oi ti) (hT : U8 W) : Calls Tryd.prog 33 #[.agg (scrL s mi oi ti).toArray] W fun e w' => KeepPost W (kR s (backS s)) (kE s) e w' := by
  cases h : scrB s with
  | true => rw [kR, kE, if_pos h, if_pos h]; exact Restore_out fun W' hW => (done_Again (hr.below hW) (hT.below hW) h).mono fun _ _ hh => KeepPost.good hh
  | false => rw [kR, kE, if_neg (by simp [h]), if_neg (by simp [h])]; exact Restore_out fun W' hW => (done_bad (hr.below hW) (hT.below hW) h).mono fun _ _ hh => KeepPost.bad hh
theorem OwnScr.put {w wy wx : World} {base b : Nat} {s : Scr} {m o t : Value} (h : OwnScr w base s m o t) (hb : w.heap.size ≤ b) (hB : Below w.heap.size w wy) (hg : wy.grownBy wx (some b)) : OwnScr wx base s m o t :=
  have h1 := h.below hB
  ⟨h1.hm.kept hg (own_lt h.hm hb), h1.ho.kept hg (own_lt h.ho hb), h1.ht.kept hg (own_lt h.ht hb), h.mo, h.mt, h.ot⟩
theorem put_below {w w8 wy wx : World} {b : Nat} (h : Below w.heap.size w w8) (hb : w8.heap.size ≤ b) (hB : Below w8.heap.size w8 wy) (hg : wy.grownBy wx (some b)) : Below w.heap.size w wx :=
  below_of_grown (h.trans (hB.mono h.size)) hg (fun q hq => by cases hq; have := h.size; omega)
theorem sameK {s R : Scr} {may : Bool} {ec : Int} {mx ox tx mw ow tw mi oi ti m o t : Value} {wB w : World} (hd : (may = true ∧ ec = 0) ∨ (may = false ∧ ec = 1 ∧ R = zS)) (hB : Below wB.heap.size wB w) (hO : OwnScr w wB.heap.size R mx ox tx) (hr : R.small) (hw : RdScr w R mw ow tw) (hi : RdScr wB s mi oi ti) (hs : RdScr wB s m o t) :
    Calls Tryd.prog 37 #[.agg (scrL R mx ox tx).toArray, .int .i64 ec, .bool may, .agg (scrL R mw ow tw).toArray, .agg (scrL s mi oi ti).toArray, .agg (scrL s m o t).toArray] w fun e w' => e = .returned (.bool true) ∧ Apart3 w w' mx ox tx := by
  rcases hd with ⟨rfl, rfl⟩ | ⟨rfl, rfl, rfl⟩
  · exact same_mayA hB hO hr hw hi hs
  · exact same_notA hB hO hi hs
def KP2 (w wB : World) (F : List Ent) (bD : Nat) (RD : Scr) (md od td mz oz tz : Value) (W : World) : Prop := Mem w W F ∧ Below wB.heap.size wB W ∧ OwnScr W bD RD md od td ∧ OwnScr W bD RD mz oz tz
def KP1 (w wB : World) (F : List Ent) (bB : Nat) (RB : Scr) (mb ob tb my oy ty : Value) (bD : Nat) (RD : Scr) (md od td mz oz tz : Value) (W : World) : Prop := KP2 w wB F bD RD md od td mz oz tz W ∧ OwnScr W bB RB mb ob tb ∧ OwnScr W bB RB my oy ty
theorem keeps_looks {w wB w8 w9 W0 : World} {F : List Ent} {s RA RB RD : Scr} {may : Bool} {ec : Int} {mi oi ti m o t ma oa ta mb ob tb md od td mx ox tx my oy ty mz oz tz : Value}
    (hd : (may = true ∧ ec = 0) ∨ (may = false ∧ ec = 1 ∧ RA = zS ∧ RB = zS ∧ RD = zS)) (hM : Mem w W0 F) (hwB : w.heap.size ≤ wB.heap.size) (h8 : wB.heap.size ≤ w8.heap.size) (h9 : w8.heap.size ≤ w9.heap.size)
    (hF : ∀ x ∈ F, ∃ ty l, x.2 = Row ty l ∧ (91 == ty) = false ∧ (4 == ty) = false) (hB : Below wB.heap.size wB W0) (hi : RdScr wB s mi oi ti) (hs : RdScr wB s m o t)
    (hA8 : OwnScr w8 wB.heap.size RA ma oa ta) (hB9 : OwnScr w9 w8.heap.size RB mb ob tb) (hA : OwnScr W0 wB.heap.size RA ma oa ta) (hX : RdScr W0 RA mx ox tx)
    (hBB : OwnScr W0 w8.heap.size RB mb ob tb) (hY : OwnScr W0 w8.heap.size RB my oy ty) (hD : OwnScr W0 w9.heap.size RD md od td) (hZ : OwnScr W0 w9.heap.size RD mz oz tz) (sA : RA.small) (sB : RB.small) (sD : RD.small) :
    (Calls Tryd.prog 37 #[.agg (scrL RA ma oa ta).toArray, .int .i64 ec, .bool may, .agg (scrL RA mx ox tx).toArray, .agg (scrL s mi oi ti).toArray, .agg (scrL s m o t).toArray] W0 fun e w' => e = .returned (.bool true) ∧ KP1 w wB F w8.heap.size RB mb ob tb my oy ty w9.heap.size RD md od td mz oz tz w') ∧
    (∀ W, KP1 w wB F w8.heap.size RB mb ob tb my oy ty w9.heap.size RD md od td mz oz tz W → Calls Tryd.prog 37 #[.agg (scrL RB mb ob tb).toArray, .int .i64 ec, .bool may, .agg (scrL RB my oy ty).toArray, .agg (scrL s mi oi ti).toArray, .agg (scrL s m o t).toArray] W fun e w' => e = .returned (.bool true) ∧ KP2 w wB F w9.heap.size RD md od td mz oz tz w') ∧
    (∀ W, KP2 w wB F w9.heap.size RD md od td mz oz tz W → Calls Tryd.prog 37 #[.agg (scrL RD md od td).toArray, .int .i64 ec, .bool may, .agg (scrL RD mz oz tz).toArray, .agg (scrL s mi oi ti).toArray, .agg (scrL s m o t).toArray] W fun e w' => e = .returned (.bool true) ∧ Mem w w' F) := by
  refine ⟨?_, fun W hW => ?_, fun W hW => ?_⟩
  · refine (sameK (hd.imp id fun h => ⟨h.1, h.2.1, h.2.2.1⟩) hB hA sA hX hi hs).mono ?_
    rintro e w' ⟨he, ha⟩
    exact ⟨he, ⟨hM.apart3 ha hA hwB hF, hB.trans (ha.below hA hB.size), hD.apart3 ha hA8 h9, hZ.apart3 ha hA8 h9⟩, hBB.apart3 ha hA8 (Nat.le_refl _), hY.apart3 ha hA8 (Nat.le_refl _)⟩
  · obtain ⟨⟨hM, hB, hD, hZ⟩, hBB, hY⟩ := hW
    have hb2 : OwnScr W wB.heap.size RB mb ob tb := hBB.low h8
    refine (sameK (hd.imp id fun h => ⟨h.1, h.2.1, h.2.2.2.1⟩) hB hb2 sB (hY.rd sB) hi hs).mono ?_
    rintro e w' ⟨he, ha⟩
    exact ⟨he, hM.apart3 ha hb2 hwB hF, hB.trans (ha.below hb2 hB.size), hD.apart3 ha hB9 (Nat.le_refl _), hZ.apart3 ha hB9 (Nat.le_refl _)⟩
  · obtain ⟨hM, hB, hD, hZ⟩ := hW
    have hd2 : OwnScr W wB.heap.size RD md od td := hD.low (Nat.le_trans h8 h9)
    refine (sameK (hd.imp id fun h => ⟨h.1, h.2.1, h.2.2.2.2⟩) hB hd2 sD (hZ.rd sD) hi hs).mono ?_
    rintro e w' ⟨he, ha⟩
    exact ⟨he, hM.apart3 ha hd2 hwB hF⟩

noncomputable def qreg (n : Nat) : Code := ((Tryd.f20.body.bind (findRegion n)).getD .skip)
theorem mb_quiet {P : Program} {w0 w : World} {Q : Exit → Act → World → Prop} {F : List Ent} {a : Act} {id : Nat} {l : List Oper} (hM : Mem w0 w F) (hm : P.follows .mixedOrders = true) (hB : Region.lexB .any l.toArray = true)
    (h : Nonempty (MemB w0 w F) → wpQuiet P l.toArray (fun w' => ∃ x : MemB w0 w F, w' = x.W) (fun a' => ∀ w', Mem w0 w' F → Below w.heap.size w w' → Q .normal a' w') l a) : (Code.region id l.toArray true).wp P Q a w :=
  wp_region_quiet (C := fun w' => ∃ x : MemB w0 w F, w' = x.W) hm hB ⟨⟨_, hM.drew, (Below.refl _ _).drew⟩, rfl⟩ (wpQuiet_monoQ (fun a' h' w' hw' => by obtain ⟨x, rfl⟩ := hw'; exact h' _ x.h x.k) _ _ (by simpa using h ⟨⟨w, hM, Below.refl _ _⟩⟩))
theorem neqc (x : Cur) (w : World) : (binOp .neq 34 (.agg (curL x).toArray) (.agg (curL x).toArray)).run Tryd.prog w = .ok (.bool false) w := by
  have := neq_cur x x w
  rw [curSame_iff.2 rfl] at this
  exact this
theorem load_cu {w : World} {c : Cur} {b q : Nat} (h : ∀ j u, (curL c)[j]? = some u → w.cell? ⟨b, q + j, none⟩ = some u) : (Instr.loadAt 34 (.pointer (some ⟨b, q, none⟩))).run Tryd.prog w = .ok (.agg (curL c).toArray) w :=
  run_loadAt_mid w b q 34 (curL c) _ h Tryd.underlying34 rfl (by kernel_rfl)
set_option maxRecDepth 100000 in
set_option maxHeartbeats 4000000 in
/-- the reference's answers -/
theorem qreg14_is {m0 o0 t0 : Value} {n m k r : Int} {s X Y Z : Scr} {la lb ld l12 li : List Value} {w wr wz : World} {b b5 b6 b8 b10 b12 b14 b15 b16 sb so sl_ sc ii : Nat} {Q : Exit → Act → World → Prop}
    (hM : Mem w wr [(b16, Row 37 zL), (b15, Row 37 zL), (b14, Row 37 zL), (b12, Row 37 l12), (b10, Row 37 ld), (b8, Row 37 lb), (b6, Row 37 la), (b5, Row 37 li), (b, Row 24 (askL (.slice (some ⟨sb, so, none⟩) sl_ sc) n m k r))]) (hii : ii < sl_)
    (hel : ∀ W, Below w.heap.size w W → ∀ q u, (scrL s m0 o0 t0)[q]? = some u → W.cell? ⟨sb, so + ii * 43 + q, none⟩ = some u)
    (hz : Below wz.heap.size wz wr) (h14 : wz.heap.size ≤ b14) (h15 : wz.heap.size ≤ b15) (h16 : wz.heap.size ≤ b16)
    (hx : ∀ W, Below w.heap.size w W → Calls Tryd.prog 34 #[.agg (scrL s m0 o0 t0).toArray] W fun e w' => RefPost W X e w')
    (hy : ∀ W, Below w.heap.size w W → Calls Tryd.prog 35 #[.agg (scrL s m0 o0 t0).toArray] W fun e w' => RefPost W Y e w')
    (hw : ∀ W, Below w.heap.size w W → Calls Tryd.prog 36 #[.agg (scrL s m0 o0 t0).toArray] W fun e w' => RefPost W Z e w')
    (hP : ∀ c a (d : Tmp) v w, Q (.panic c) (Act.put a (some d) v) w → Q (.panic c) a w) (u0 u2 u4 u5 u6 u7 u8 u9 u10 u11 u12 u13 u17 u18 u19 u20 u21 u22 u23 u24 u25 u26 u27 u28 u29 u30 u31 u32 u33 u34 u35 u36 u37 u38 u39 u40 u41 u42 u43 u44 u45 u46 u47 u48 u49 u50 u51 u52 u53 u54 u55 u56 u57 u58 u59 u60 u61 u62 u63 u64 u65 u66 u67 u68 u69 u70 u71 u72 u73 u74 u75 u76 u77 u78 u79 u80 u81 u82 u83 u84 u85 u86 u87 u88 u89 u90 u91 u92 u93 u94 u95 u96 u97 u98 u99 u100 u101 u102 u103 u104 u105 u106 u107 u108 u109 u110 u111 u112 u113 u114 u115 u116 u117 u118 u119 u120 u121 u122 u123 u124 u125 u126 u127 u128 u129 u130 u131 u132 u133 u134 u135 : Value)
    (hQ : ∀ w' x1 x2 x3 x4 x5 x6 y1 y2 y3 y4 y5 y6 z1 z2 z3 z4 z5 z6 (v63 v64 v65 v66 v67 v68 v69 v70 v71 v72 v73 v74 v75 v76 v77 v78 v79 v80 : Value), Mem w w' [(b16, Row 37 (scrL Z (.slice z1 Z.ms.length z2) (.slice z3 Z.os.length z4) (.slice z5 Z.tabs.length z6))), (b15, Row 37 (scrL Y (.slice y1 Y.ms.length y2) (.slice y3 Y.os.length y4) (.slice y5 Y.tabs.length y6))), (b14, Row 37 (scrL X (.slice x1 X.ms.length x2) (.slice x3 X.os.length x4) (.slice x5 X.tabs.length x6))), (b12, Row 37 l12), (b10, Row 37 ld), (b8, Row 37 lb), (b6, Row 37 la), (b5, Row 37 li), (b, Row 24 (askL (.slice (some ⟨sb, so, none⟩) sl_ sc) n m k r))] →
      OwnScr w' wr.heap.size X (.slice x1 X.ms.length x2) (.slice x3 X.os.length x4) (.slice x5 X.tabs.length x6) → OwnScr w' wr.heap.size Y (.slice y1 Y.ms.length y2) (.slice y3 Y.os.length y4) (.slice y5 Y.tabs.length y6) → OwnScr w' wr.heap.size Z (.slice z1 Z.ms.length z2) (.slice z3 Z.os.length z4) (.slice z5 Z.tabs.length z6) → Below wz.heap.size wz w' →
      Q .normal ⟨#[u0, .pointer (some ⟨b, 0, none⟩), u2, .int .i64 ii, u4, u5, u6, u7, u8, u9, u10, u11, u12, u13, .pointer (some ⟨b14, 0, none⟩), .pointer (some ⟨b15, 0, none⟩), .pointer (some ⟨b16, 0, none⟩), u17, u18, u19, u20, u21, u22, u23, u24, u25, u26, u27, u28, u29, u30, u31, u32, u33, u34, u35, u36, u37, u38, u39, u40, u41, u42, u43, u44, u45, u46, u47, u48, u49, u50, u51, u52, u53, u54, u55, u56, u57, u58, u59, u60, u61, u62, v63, v64, v65, v66, v67, v68, v69, v70, v71, v72, v73, v74, v75, v76, v77, v78, v79, v80, u81, u82, u83, u84, u85, u86, u87, u88, u89, u90, u91, u92, u93, u94, u95, u96, u97, u98, u99, u100, u101, u102, u103, u104, u105, u106, u107, u108, u109, u110, u111, u112, u113, u114, u115, u116, u117, u118, u119, u120, u121, u122, u123, u124, u125, u126, u127, u128, u129, u130, u131, u132, u133, u134, u135], []⟩ w') :
    Code.wp Tryd.prog (qreg 14) Q ⟨#[u0, .pointer (some ⟨b, 0, none⟩), u2, .int .i64 ii, u4, u5, u6, u7, u8, u9, u10, u11, u12, u13, .pointer (some ⟨b14, 0, none⟩), .pointer (some ⟨b15, 0, none⟩), .pointer (some ⟨b16, 0, none⟩), u17, u18, u19, u20, u21, u22, u23, u24, u25, u26, u27, u28, u29, u30, u31, u32, u33, u34, u35, u36, u37, u38, u39, u40, u41, u42, u43, u44, u45, u46, u47, u48, u49, u50, u51, u52, u53, u54, u55, u56, u57, u58, u59, u60, u61, u62, u63, u64, u65, u66, u67, u68, u69, u70, u71, u72, u73, u74, u75, u76, u77, u78, u79, u80, u81, u82, u83, u84, u85, u86, u87, u88, u89, u90, u91, u92, u93, u94, u95, u96, u97, u98, u99, u100, u101, u102, u103, u104, u105, u106, u107, u108, u109, u110, u111, u112, u113, u114, u115, u116, u117, u118, u119, u120, u121, u122, u123, u124, u125, u126, u127, u128, u129, u130, u131, u132, u133, u134, u135], []⟩ wr := by
  have HM := hid hM
  have HEL := hid hel
  have hii2 : (ii : Int) < (sl_ : Int) := by omega
  have HRX := hid hx
  have HRY := hid hy
  have HRZ := hid hw
  have HL14 := hid (hM.lt (.tail _ (.tail _ (.head _))))
  have HL15 := hid (hM.lt (.tail _ (.head _)))
  have HL16 := hid (hM.lt (.head _))
  clear hM hel hx hy hw
  conv => arg 2; whnf
  conv => arg 4; zeta
  refine start_ (n := 21) (S := fun W => Mem w W [(b16, Row 37 zL), (b15, Row 37 zL), (b14, Row 37 zL), (b12, Row 37 l12), (b10, Row 37 ld), (b8, Row 37 lb), (b6, Row 37 la), (b5, Row 37 li), (b, Row 24 (askL (.slice (some ⟨sb, so, none⟩) sl_ sc) n m k r))]) (ds := [18, 19, 20]) #[false, false, false, false, false, false, false, false, false, false, false, false, false, false, false, false, false, false, false, false, false] (by kernel_rfl) rfl rfl HM.out.drew (fun hS => ?_)
  refine take_ (i := 0) (N := some 63) (a' := ?_) (v := .pointer (some ⟨b, 0, none⟩)) #[true, false, false, false, false, false, false, false, false, false, false, false, false, false, false, false, false, false, false, false, false] rfl rfl (by kernel_rfl) (by first | exact fun _ _ _ h => h | exact fun _ _ _ h => hP _ _ _ _ _ h) (Or.inl ⟨by rfl, fun w' _ => by go_simp⟩) hS ?_ ?_
  rotate_left
  · simp only [Act.put, List.setIfInBounds_toArray, List.set_cons_zero, List.set_cons_succ]
    rfl
  refine take_ (i := 1) (N := some 64) (a' := ?_) (v := .slice (some ⟨sb, so, none⟩) sl_ sc) #[true, true, false, false, false, false, false, false, false, false, false, false, false, false, false, false, false, false, false, false, false] rfl rfl (by kernel_rfl) (by first | exact fun _ _ _ h => h | exact fun _ _ _ h => hP _ _ _ _ _ h) (y_load rfl rfl rfl (by first | exact .head _ | exact .tail _ (.head _) | exact .tail _ (.tail _ (.head _)) | exact .tail _ (.tail _ (.tail _ (.head _))) | exact .tail _ (.tail _ (.tail _ (.tail _ (.head _)))) | exact .tail _ (.tail _ (.tail _ (.tail _ (.tail _ (.head _))))) | exact .tail _ (.tail _ (.tail _ (.tail _ (.tail _ (.tail _ (.head _)))))) | exact .tail _ (.tail _ (.tail _ (.tail _ (.tail _ (.tail _ (.tail _ (.head _))))))) | exact .tail _ (.tail _ (.tail _ (.tail _ (.tail _ (.tail _ (.tail _ (.tail _ (.head _))))))))) rfl Tryd.underlying22 rfl) hS ?_ ?_
  rotate_left
  · simp only [Act.put, List.setIfInBounds_toArray, List.set_cons_zero, List.set_cons_succ]
    rfl
  refine take_ (i := 2) (N := some 65) (a' := ?_) (v := .int .i64 ii) #[true, true, true, false, false, false, false, false, false, false, false, false, false, false, false, false, false, false, false, false, false] rfl rfl (by kernel_rfl) (by first | exact fun _ _ _ h => h | exact fun _ _ _ h => hP _ _ _ _ _ h) (Or.inl ⟨by rfl, fun w' _ => by go_simp⟩) hS ?_ ?_
  rotate_left
  · simp only [Act.put, List.setIfInBounds_toArray, List.set_cons_zero, List.set_cons_succ]
    rfl
  refine take_ (i := 3) (N := some 66) (a' := ?_) (v := .pointer (some ⟨sb, so + ii * 43, none⟩)) #[true, true, true, true, false, false, false, false, false, false, false, false, false, false, false, false, false, false, false, false, false] rfl rfl (by kernel_rfl) (by first | exact fun _ _ _ h => h | exact fun _ _ _ h => hP _ _ _ _ _ h) (Or.inl ⟨by rfl, fun w' _ => by go_simp⟩) hS ?_ ?_
  rotate_left
  · simp only [Act.put, List.setIfInBounds_toArray, List.set_cons_zero, List.set_cons_succ]
    rfl
  refine take_ (i := 4) (N := some 67) (a' := ?_) (v := .agg (scrL s m0 o0 t0).toArray) #[true, true, true, true, true, false, false, false, false, false, false, false, false, false, false, false, false, false, false, false, false] rfl rfl (by kernel_rfl) (by first | exact fun _ _ _ h => h | exact fun _ _ _ h => hP _ _ _ _ _ h) (y_any rfl rfl rfl (fun W hW => load_sl (HEL.out W hW.below))) hS ?_ ?_
  rotate_left
  · simp only [Act.put, List.setIfInBounds_toArray, List.set_cons_zero, List.set_cons_succ]
    rfl
  refine take_ (i := 6) (N := some 69) (a' := ?_) (v := .pointer (some ⟨b, 0, none⟩)) #[true, true, true, true, true, false, true, false, false, false, false, false, false, false, false, false, false, false, false, false, false] rfl rfl (by kernel_rfl) (by first | exact fun _ _ _ h => h | exact fun _ _ _ h => hP _ _ _ _ _ h) (Or.inl ⟨by rfl, fun w' _ => by go_simp⟩) hS ?_ ?_
  rotate_left
  · simp only [Act.put, List.setIfInBounds_toArray, List.set_cons_zero, List.set_cons_succ]
    rfl
  refine take_ (i := 7) (N := some 70) (a' := ?_) (v := .slice (some ⟨sb, so, none⟩) sl_ sc) #[true, true, true, true, true, false, true, true, false, false, false, false, false, false, false, false, false, false, false, false, false] rfl rfl (by kernel_rfl) (by first | exact fun _ _ _ h => h | exact fun _ _ _ h => hP _ _ _ _ _ h) (y_load rfl rfl rfl (by first | exact .head _ | exact .tail _ (.head _) | exact .tail _ (.tail _ (.head _)) | exact .tail _ (.tail _ (.tail _ (.head _))) | exact .tail _ (.tail _ (.tail _ (.tail _ (.head _)))) | exact .tail _ (.tail _ (.tail _ (.tail _ (.tail _ (.head _))))) | exact .tail _ (.tail _ (.tail _ (.tail _ (.tail _ (.tail _ (.head _)))))) | exact .tail _ (.tail _ (.tail _ (.tail _ (.tail _ (.tail _ (.tail _ (.head _))))))) | exact .tail _ (.tail _ (.tail _ (.tail _ (.tail _ (.tail _ (.tail _ (.tail _ (.head _))))))))) rfl Tryd.underlying22 rfl) hS ?_ ?_
  rotate_left
  · simp only [Act.put, List.setIfInBounds_toArray, List.set_cons_zero, List.set_cons_succ]
    rfl
  refine take_ (i := 8) (N := some 71) (a' := ?_) (v := .int .i64 ii) #[true, true, true, true, true, false, true, true, true, false, false, false, false, false, false, false, false, false, false, false, false] rfl rfl (by kernel_rfl) (by first | exact fun _ _ _ h => h | exact fun _ _ _ h => hP _ _ _ _ _ h) (Or.inl ⟨by rfl, fun w' _ => by go_simp⟩) hS ?_ ?_
  rotate_left
  · simp only [Act.put, List.setIfInBounds_toArray, List.set_cons_zero, List.set_cons_succ]
    rfl
  refine take_ (i := 9) (N := some 72) (a' := ?_) (v := .pointer (some ⟨sb, so + ii * 43, none⟩)) #[true, true, true, true, true, false, true, true, true, true, false, false, false, false, false, false, false, false, false, false, false] rfl rfl (by kernel_rfl) (by first | exact fun _ _ _ h => h | exact fun _ _ _ h => hP _ _ _ _ _ h) (Or.inl ⟨by rfl, fun w' _ => by go_simp⟩) hS ?_ ?_
  rotate_left
  · simp only [Act.put, List.setIfInBounds_toArray, List.set_cons_zero, List.set_cons_succ]
    rfl
  refine take_ (i := 10) (N := some 73) (a' := ?_) (v := .agg (scrL s m0 o0 t0).toArray) #[true, true, true, true, true, false, true, true, true, true, true, false, false, false, false, false, false, false, false, false, false] rfl rfl (by kernel_rfl) (by first | exact fun _ _ _ h => h | exact fun _ _ _ h => hP _ _ _ _ _ h) (y_any rfl rfl rfl (fun W hW => load_sl (HEL.out W hW.below))) hS ?_ ?_
  rotate_left
  · simp only [Act.put, List.setIfInBounds_toArray, List.set_cons_zero, List.set_cons_succ]
    rfl
  refine take_ (i := 12) (N := some 75) (a' := ?_) (v := .pointer (some ⟨b, 0, none⟩)) #[true, true, true, true, true, false, true, true, true, true, true, false, true, false, false, false, false, false, false, false, false] rfl rfl (by kernel_rfl) (by first | exact fun _ _ _ h => h | exact fun _ _ _ h => hP _ _ _ _ _ h) (Or.inl ⟨by rfl, fun w' _ => by go_simp⟩) hS ?_ ?_
  rotate_left
  · simp only [Act.put, List.setIfInBounds_toArray, List.set_cons_zero, List.set_cons_succ]
    rfl
  refine take_ (i := 13) (N := some 76) (a' := ?_) (v := .slice (some ⟨sb, so, none⟩) sl_ sc) #[true, true, true, true, true, false, true, true, true, true, true, false, true, true, false, false, false, false, false, false, false] rfl rfl (by kernel_rfl) (by first | exact fun _ _ _ h => h | exact fun _ _ _ h => hP _ _ _ _ _ h) (y_load rfl rfl rfl (by first | exact .head _ | exact .tail _ (.head _) | exact .tail _ (.tail _ (.head _)) | exact .tail _ (.tail _ (.tail _ (.head _))) | exact .tail _ (.tail _ (.tail _ (.tail _ (.head _)))) | exact .tail _ (.tail _ (.tail _ (.tail _ (.tail _ (.head _))))) | exact .tail _ (.tail _ (.tail _ (.tail _ (.tail _ (.tail _ (.head _)))))) | exact .tail _ (.tail _ (.tail _ (.tail _ (.tail _ (.tail _ (.tail _ (.head _))))))) | exact .tail _ (.tail _ (.tail _ (.tail _ (.tail _ (.tail _ (.tail _ (.tail _ (.head _))))))))) rfl Tryd.underlying22 rfl) hS ?_ ?_
  rotate_left
  · simp only [Act.put, List.setIfInBounds_toArray, List.set_cons_zero, List.set_cons_succ]
    rfl
  refine take_ (i := 14) (N := some 77) (a' := ?_) (v := .int .i64 ii) #[true, true, true, true, true, false, true, true, true, true, true, false, true, true, true, false, false, false, false, false, false] rfl rfl (by kernel_rfl) (by first | exact fun _ _ _ h => h | exact fun _ _ _ h => hP _ _ _ _ _ h) (Or.inl ⟨by rfl, fun w' _ => by go_simp⟩) hS ?_ ?_
  rotate_left
  · simp only [Act.put, List.setIfInBounds_toArray, List.set_cons_zero, List.set_cons_succ]
    rfl
  refine take_ (i := 15) (N := some 78) (a' := ?_) (v := .pointer (some ⟨sb, so + ii * 43, none⟩)) #[true, true, true, true, true, false, true, true, true, true, true, false, true, true, true, true, false, false, false, false, false] rfl rfl (by kernel_rfl) (by first | exact fun _ _ _ h => h | exact fun _ _ _ h => hP _ _ _ _ _ h) (Or.inl ⟨by rfl, fun w' _ => by go_simp⟩) hS ?_ ?_
  rotate_left
  · simp only [Act.put, List.setIfInBounds_toArray, List.set_cons_zero, List.set_cons_succ]
    rfl
  refine take_ (i := 16) (N := some 79) (a' := ?_) (v := .agg (scrL s m0 o0 t0).toArray) #[true, true, true, true, true, false, true, true, true, true, true, false, true, true, true, true, true, false, false, false, false] rfl rfl (by kernel_rfl) (by first | exact fun _ _ _ h => h | exact fun _ _ _ h => hP _ _ _ _ _ h) (y_any rfl rfl rfl (fun W hW => load_sl (HEL.out W hW.below))) hS ?_ ?_
  rotate_left
  · simp only [Act.put, List.setIfInBounds_toArray, List.set_cons_zero, List.set_cons_succ]
    rfl
  refine one_ (i := 5) (N := some 68) #[true, true, true, true, true, true, true, true, true, true, true, false, true, true, true, true, true, false, false, false, false] rfl rfl (by kernel_rfl) (by decide) (fun K hK => ?_)
  refine goes_ Tryd.func34 (by kernel_rfl) rfl #[.agg (scrL s m0 o0 t0).toArray] (by rfl) rfl rfl (by simp only [List.map_toArray, List.map_cons, List.map_nil]; rfl) ?_
  refine (HRX.out _ hS.below).mono ?_
  rintro e w4 ⟨m', o', t', rfl, hO, hB⟩
  obtain ⟨x1, x2, rfl⟩ := hO.hm.slice
  obtain ⟨x3, x4, rfl⟩ := hO.ho.slice
  obtain ⟨x5, x6, rfl⟩ := ownB_slice hO.ht
  have HOX := hid hO
  have HBX := hid ((Below.refl wr.heap.size wr).drew.trans hB)
  refine ⟨_, rfl, hK.out _ _ (hS.call hB) (fun hS2 => ?_)⟩
  clear hK K hS hO hB
  have hS := hS2
  clear hS2
  refine norm_ (a' := ?_) ?_ ?_
  rotate_left
  · simp only [Act.put, List.setIfInBounds_toArray, List.set_cons_zero, List.set_cons_succ]
    rfl
  refine one_ (i := 11) (N := some 74) #[true, true, true, true, true, true, true, true, true, true, true, true, true, true, true, true, true, false, false, false, false] rfl rfl (by kernel_rfl) (by decide) (fun K hK => ?_)
  refine goes_ Tryd.func35 (by kernel_rfl) rfl #[.agg (scrL s m0 o0 t0).toArray] (by rfl) rfl rfl (by simp only [List.map_toArray, List.map_cons, List.map_nil]; rfl) ?_
  refine (HRY.out _ hS.below).mono ?_
  rintro e w5 ⟨m', o', t', rfl, hO, hB⟩
  obtain ⟨y1, y2, rfl⟩ := hO.hm.slice
  obtain ⟨y3, y4, rfl⟩ := hO.ho.slice
  obtain ⟨y5, y6, rfl⟩ := ownB_slice hO.ht
  have HOY := hid hO
  have HOX2 := hid (HOX.out.below hB)
  have HBY := hid (HBX.out.trans (hB.mono HBX.out.size))
  refine ⟨_, rfl, hK.out _ _ (hS.call hB) (fun hS2 => ?_)⟩
  clear hK K hS hO hB HOX
  have hS := hS2
  clear hS2
  refine norm_ (a' := ?_) ?_ ?_
  rotate_left
  · simp only [Act.put, List.setIfInBounds_toArray, List.set_cons_zero, List.set_cons_succ]
    rfl
  refine one_ (i := 17) (N := some 80) #[true, true, true, true, true, true, true, true, true, true, true, true, true, true, true, true, true, true, false, false, false] rfl rfl (by kernel_rfl) (by decide) (fun K hK => ?_)
  refine goes_ Tryd.func36 (by kernel_rfl) rfl #[.agg (scrL s m0 o0 t0).toArray] (by rfl) rfl rfl (by simp only [List.map_toArray, List.map_cons, List.map_nil]; rfl) ?_
  refine (HRZ.out _ hS.below).mono ?_
  rintro e w6 ⟨m', o', t', rfl, hO, hB⟩
  obtain ⟨z1, z2, rfl⟩ := hO.hm.slice
  obtain ⟨z3, z4, rfl⟩ := hO.ho.slice
  obtain ⟨z5, z6, rfl⟩ := ownB_slice hO.ht
  have HOZ := hid (hO.low HBY.out.size)
  have HOX3 := hid (HOX2.out.below hB)
  have HOY2 := hid ((HOY.out.below hB).low HBX.out.size)
  have HBZ := hid (HBY.out.trans (hB.mono HBY.out.size))
  refine ⟨_, rfl, hK.out _ _ (hS.call hB) (fun hS2 => ?_)⟩
  clear hK K hS hO hB HOX2 HOY
  have hM := hS2
  clear hS2
  refine norm_ (a' := ?_) ?_ ?_
  rotate_left
  · simp only [Act.put, List.setIfInBounds_toArray, List.set_cons_zero, List.set_cons_succ]
    rfl
  refine last_ (i := 18) (N := none) #[true, true, true, true, true, true, true, true, true, true, true, true, true, true, true, true, true, true, true, false, false] rfl rfl (by kernel_rfl) (by decide) (fun K hK => ?_)
  refine y_storeA hM rfl rfl rfl rfl 2 rfl rfl rfl (by kernel_rfl) rfl (fun w7 hM7 hg7 => hK.out _ _ ?_)
  clear hK K
  refine last_ (i := 19) (N := none) #[true, true, true, true, true, true, true, true, true, true, true, true, true, true, true, true, true, true, true, true, false] rfl rfl (by kernel_rfl) (by decide) (fun K hK => ?_)
  refine y_storeA hM7 rfl rfl rfl rfl 1 rfl rfl rfl (by kernel_rfl) rfl (fun w8 hM8 hg8 => hK.out _ _ ?_)
  clear hK K
  refine last_ (i := 20) (N := none) #[true, true, true, true, true, true, true, true, true, true, true, true, true, true, true, true, true, true, true, true, true] rfl rfl (by kernel_rfl) (by decide) (fun K hK => ?_)
  refine y_storeA hM8 rfl rfl rfl rfl 0 rfl rfl rfl (by kernel_rfl) rfl (fun w9 hM9 hg9 => hK.out _ _ ?_)
  clear hK K
  refine done_ (by kernel_rfl) ?_
  have hzz := hz.trans (HBZ.out.mono hz.size)
  have e1 := below_of_grown hzz hg7 (fun q hq => by cases hq; exact h14)
  have e2 := below_of_grown e1 hg8 (fun q hq => by cases hq; exact h15)
  have e3 := below_of_grown e2 hg9 (fun q hq => by cases hq; exact h16)
  exact hQ w9 _ _ _ _ _ _ _ _ _ _ _ _ _ _ _ _ _ _ _ _ _ _ _ _ _ _ _ _ _ _ _ _ _ _ _ _ hM9 (((HOX3.out.kept_lt hg7 HL14.out).kept_lt hg8 HL15.out).kept_lt hg9 HL16.out) (((HOY2.out.kept_lt hg7 HL14.out).kept_lt hg8 HL15.out).kept_lt hg9 HL16.out) (((HOZ.out.kept_lt hg7 HL14.out).kept_lt hg8 HL15.out).kept_lt hg9 HL16.out) e3
set_option maxRecDepth 100000 in
set_option maxHeartbeats 4000000 in
/-- what was kept is got back -/
theorem qreg15_is {m0 o0 t0 x1 x2 x3 : Value} {n m k r : Int} {s R : Scr} {la lb ld li lx ly lz : List Value} {w wr : World} {b b5 b6 b8 b10 b12 b14 b15 b16 sb so sl_ sc ii : Nat} {Q : Exit → Act → World → Prop}
    (hM : Mem w wr [(b16, Row 37 lz), (b15, Row 37 ly), (b14, Row 37 lx), (b12, Row 37 (scrL R x1 x2 x3)), (b10, Row 37 ld), (b8, Row 37 lb), (b6, Row 37 la), (b5, Row 37 li), (b, Row 24 (askL (.slice (some ⟨sb, so, none⟩) sl_ sc) n m k r))]) (hii : ii < sl_)
    (hel : ∀ W, Below w.heap.size w W → ∀ q u, (scrL s m0 o0 t0)[q]? = some u → W.cell? ⟨sb, so + ii * 43 + q, none⟩ = some u) (hc : R.cur = s.cur)
    (u0 u2 u4 u5 u6 u7 u8 u9 u10 u11 u14 u15 u16 u17 u18 u19 u20 u21 u22 u23 u24 u25 u26 u27 u28 u29 u30 u31 u32 u33 u34 u35 u36 u37 u38 u39 u40 u41 u42 u43 u44 u45 u46 u47 u48 u49 u50 u51 u52 u53 u54 u55 u56 u57 u58 u59 u60 u61 u62 u63 u64 u65 u66 u67 u68 u69 u70 u71 u72 u73 u74 u75 u76 u77 u78 u79 u80 u81 u82 u83 u84 u85 u86 u87 u88 u89 u90 u91 u92 u93 u94 u95 u96 u97 u98 u99 u100 u101 u102 u103 u104 u105 u106 u107 u108 u109 u110 u111 u112 u113 u114 u115 u116 u117 u118 u119 u120 u121 u122 u123 u124 u125 u126 u127 u128 u129 u130 u131 u132 u133 u134 u135 : Value)
    (hQ : ∀ w' (v81 v82 v83 v84 v85 v86 v87 v88 v89 v90 v91 v92 v93 : Value), Mem w w' [(b16, Row 37 lz), (b15, Row 37 ly), (b14, Row 37 lx), (b12, Row 37 (scrL R x1 x2 x3)), (b10, Row 37 ld), (b8, Row 37 lb), (b6, Row 37 la), (b5, Row 37 li), (b, Row 24 (askL (.slice (some ⟨sb, so, none⟩) sl_ sc) n m k r))] → Below wr.heap.size wr w' →
      Q .normal ⟨#[u0, .pointer (some ⟨b, 0, none⟩), u2, .int .i64 ii, u4, u5, u6, u7, u8, u9, u10, u11, .pointer (some ⟨b12, 0, none⟩), .int .i64 0, u14, u15, u16, u17, u18, u19, u20, u21, u22, u23, u24, u25, u26, u27, u28, u29, u30, u31, u32, u33, u34, u35, u36, u37, u38, u39, u40, u41, u42, u43, u44, u45, u46, u47, u48, u49, u50, u51, u52, u53, u54, u55, u56, u57, u58, u59, u60, u61, u62, u63, u64, u65, u66, u67, u68, u69, u70, u71, u72, u73, u74, u75, u76, u77, u78, u79, u80, v81, v82, v83, v84, v85, v86, v87, v88, v89, v90, v91, v92, v93, .bool false, u95, u96, u97, u98, u99, u100, u101, u102, u103, u104, u105, u106, u107, u108, u109, u110, u111, u112, u113, u114, u115, u116, u117, u118, u119, u120, u121, u122, u123, u124, u125, u126, u127, u128, u129, u130, u131, u132, u133, u134, u135], []⟩ w') :
    Code.wp Tryd.prog (qreg 15) Q ⟨#[u0, .pointer (some ⟨b, 0, none⟩), u2, .int .i64 ii, u4, u5, u6, u7, u8, u9, u10, u11, .pointer (some ⟨b12, 0, none⟩), .int .i64 0, u14, u15, u16, u17, u18, u19, u20, u21, u22, u23, u24, u25, u26, u27, u28, u29, u30, u31, u32, u33, u34, u35, u36, u37, u38, u39, u40, u41, u42, u43, u44, u45, u46, u47, u48, u49, u50, u51, u52, u53, u54, u55, u56, u57, u58, u59, u60, u61, u62, u63, u64, u65, u66, u67, u68, u69, u70, u71, u72, u73, u74, u75, u76, u77, u78, u79, u80, u81, u82, u83, u84, u85, u86, u87, u88, u89, u90, u91, u92, u93, u94, u95, u96, u97, u98, u99, u100, u101, u102, u103, u104, u105, u106, u107, u108, u109, u110, u111, u112, u113, u114, u115, u116, u117, u118, u119, u120, u121, u122, u123, u124, u125, u126, u127, u128, u129, u130, u131, u132, u133, u134, u135], []⟩ wr := by
  have HM := hid hM
  have hii2 : (ii : Int) < (sl_ : Int) := by omega
  have HEL : Hid (∀ W, Below w.heap.size w W → ∀ q u, (curL s.cur)[q]? = some u → W.cell? ⟨sb, so + ii * 43 + 7 + q, none⟩ = some u) := hid fun W hW q u hq => by
    have h1 : q < 10 := (List.getElem?_eq_some_iff.1 hq).1
    rw [show so + ii * 43 + 7 + q = so + ii * 43 + (7 + q) by omega]
    refine hel W hW _ _ ?_
    rw [← hq]
    match q, h1 with
    | 0, _ => rfl
    | 1, _ => rfl
    | 2, _ => rfl
    | 3, _ => rfl
    | 4, _ => rfl
    | 5, _ => rfl
    | 6, _ => rfl
    | 7, _ => rfl
    | 8, _ => rfl
    | 9, _ => rfl
  have HC := hid (show ((scrL R x1 x2 x3).drop 7).take (curL s.cur).length = curL s.cur by rw [← hc]; rfl)
  have hne := fun w => neqc s.cur w
  clear hM hel hc
  conv => arg 2; whnf
  conv => arg 4; zeta
  refine mb_quiet HM.out (by kernel_rfl) (by kernel_rfl) (fun hne2 => ?_)
  repeat (first | (go_big_quiet_want; refine mb_load rfl rfl (by first | exact .head _ | exact .tail _ (.head _) | exact .tail _ (.tail _ (.head _)) | exact .tail _ (.tail _ (.tail _ (.head _))) | exact .tail _ (.tail _ (.tail _ (.tail _ (.head _)))) | exact .tail _ (.tail _ (.tail _ (.tail _ (.tail _ (.head _))))) | exact .tail _ (.tail _ (.tail _ (.tail _ (.tail _ (.tail _ (.head _)))))) | exact .tail _ (.tail _ (.tail _ (.tail _ (.tail _ (.tail _ (.tail _ (.head _))))))) | exact .tail _ (.tail _ (.tail _ (.tail _ (.tail _ (.tail _ (.tail _ (.tail _ (.head _))))))))) rfl Tryd.underlying22 rfl ?_; simp only [Act.put, List.setIfInBounds_toArray, List.set_cons_zero, List.set_cons_succ]; go_big_quiet_on) | (go_big_quiet_want; refine mq_any rfl rfl (fun W hW => by obtain ⟨y, rfl⟩ := hW; exact run_loadAt_rowS y.h (.tail _ (.tail _ (.tail _ (.head _)))) (curL s.cur) HC.out Tryd.underlying34 rfl (by kernel_rfl)) ?_; simp only [Act.put, List.setIfInBounds_toArray, List.set_cons_zero, List.set_cons_succ]; go_big_quiet_on) | (go_big_quiet_want; refine mq_any rfl rfl (fun W hW => by obtain ⟨y, rfl⟩ := hW; exact load_cu (HEL.out _ y.h.below)) ?_; simp only [Act.put, List.setIfInBounds_toArray, List.set_cons_zero, List.set_cons_succ]; go_big_quiet_on) | go_big_quiet_step ((first | (go_at_call 26; with_reducible exact mb_still _ (num10_any _ _)))))
  refine wpQuiet_nil ?_
  intro wq hMq hBq
  exact hQ wq _ _ _ _ _ _ _ _ _ _ _ _ _ hMq hBq
set_option maxRecDepth 100000 in
set_option maxHeartbeats 4000000 in
/-- the looks -/
theorem qreg17_is {m0 o0 t0 : Value} {n m k r ec : Int} {s : Scr} {may : Bool} {la lb ld l12 li lx ly lz : List Value} {w wr : World} {b b5 b6 b8 b10 b12 b14 b15 b16 sb so sl_ sc ii : Nat} {Q : Exit → Act → World → Prop} {P1 P2 P3 : World → Prop}
    (hM : Mem w wr [(b16, Row 37 lz), (b15, Row 37 ly), (b14, Row 37 lx), (b12, Row 37 l12), (b10, Row 37 ld), (b8, Row 37 lb), (b6, Row 37 la), (b5, Row 37 li), (b, Row 24 (askL (.slice (some ⟨sb, so, none⟩) sl_ sc) n m k r))]) (hii : ii < sl_)
    (ha43 : la.length = 43) (hb43 : lb.length = 43) (hd43 : ld.length = 43) (hi43 : li.length = 43) (hx43 : lx.length = 43) (hy43 : ly.length = 43) (hz43 : lz.length = 43)
    (hel : ∀ W, Below w.heap.size w W → ∀ q u, (scrL s m0 o0 t0)[q]? = some u → W.cell? ⟨sb, so + ii * 43 + q, none⟩ = some u)
    (hs1 : Calls Tryd.prog 37 #[.agg la.toArray, .int .i64 ec, .bool may, .agg lx.toArray, .agg li.toArray, .agg (scrL s m0 o0 t0).toArray] wr.drew fun e w' => e = .returned (.bool true) ∧ P1 w')
    (hs2 : ∀ W, P1 W → Calls Tryd.prog 37 #[.agg lb.toArray, .int .i64 ec, .bool may, .agg ly.toArray, .agg li.toArray, .agg (scrL s m0 o0 t0).toArray] W fun e w' => e = .returned (.bool true) ∧ P2 w')
    (hs3 : ∀ W, P2 W → Calls Tryd.prog 37 #[.agg ld.toArray, .int .i64 ec, .bool may, .agg lz.toArray, .agg li.toArray, .agg (scrL s m0 o0 t0).toArray] W fun e w' => e = .returned (.bool true) ∧ P3 w')
    (hp1 : ∀ W, P1 W → Mem w W [(b16, Row 37 lz), (b15, Row 37 ly), (b14, Row 37 lx), (b12, Row 37 l12), (b10, Row 37 ld), (b8, Row 37 lb), (b6, Row 37 la), (b5, Row 37 li), (b, Row 24 (askL (.slice (some ⟨sb, so, none⟩) sl_ sc) n m k r))])
    (hp2 : ∀ W, P2 W → Mem w W [(b16, Row 37 lz), (b15, Row 37 ly), (b14, Row 37 lx), (b12, Row 37 l12), (b10, Row 37 ld), (b8, Row 37 lb), (b6, Row 37 la), (b5, Row 37 li), (b, Row 24 (askL (.slice (some ⟨sb, so, none⟩) sl_ sc) n m k r))])
    (hP : ∀ c a (d : Tmp) v w, Q (.panic c) (Act.put a (some d) v) w → Q (.panic c) a w) (u0 u2 u12 u13 u17 u18 u19 u20 u21 u22 u23 u24 u25 u26 u27 u28 u29 u30 u31 u32 u33 u34 u35 u36 u37 u38 u39 u40 u41 u42 u43 u44 u45 u46 u47 u48 u49 u50 u51 u52 u53 u54 u55 u56 u57 u58 u59 u60 u61 u62 u63 u64 u65 u66 u67 u68 u69 u70 u71 u72 u73 u74 u75 u76 u77 u78 u79 u80 u81 u82 u83 u84 u85 u86 u87 u88 u89 u90 u91 u92 u93 u94 u95 u96 u97 u98 u99 u100 u101 u102 u103 u104 u105 u106 u107 u108 u109 u110 u111 u112 u113 u114 u115 u116 u117 u118 u119 u120 u121 u122 u123 u124 u125 u126 u127 u128 u129 u130 u131 u132 u133 u134 u135 : Value)
    (hQ : ∀ w' (v95 v96 v97 v98 v99 v100 v101 v102 v103 v104 v105 v106 v107 v108 v109 v110 v111 v112 v113 v114 v115 v116 v117 v118 v119 v120 v121 v122 v123 v124 v125 v126 v127 v128 v129 v130 v131 v132 v133 : Value), P3 w' →
      Q .normal ⟨#[u0, .pointer (some ⟨b, 0, none⟩), u2, .int .i64 ii, .bool may, .pointer (some ⟨b5, 0, none⟩), .pointer (some ⟨b6, 0, none⟩), .int .i64 ec, .pointer (some ⟨b8, 0, none⟩), .int .i64 ec, .pointer (some ⟨b10, 0, none⟩), .int .i64 ec, u12, u13, .pointer (some ⟨b14, 0, none⟩), .pointer (some ⟨b15, 0, none⟩), .pointer (some ⟨b16, 0, none⟩), u17, u18, u19, u20, u21, u22, u23, u24, u25, u26, u27, u28, u29, u30, u31, u32, u33, u34, u35, u36, u37, u38, u39, u40, u41, u42, u43, u44, u45, u46, u47, u48, u49, u50, u51, u52, u53, u54, u55, u56, u57, u58, u59, u60, u61, u62, u63, u64, u65, u66, u67, u68, u69, u70, u71, u72, u73, u74, u75, u76, u77, u78, u79, u80, u81, u82, u83, u84, u85, u86, u87, u88, u89, u90, u91, u92, u93, u94, v95, v96, v97, v98, v99, v100, v101, v102, v103, v104, v105, v106, v107, v108, v109, v110, v111, v112, v113, v114, v115, v116, v117, v118, v119, v120, v121, v122, v123, v124, v125, v126, v127, v128, v129, v130, v131, v132, v133, .bool false, u135], []⟩ w') :
    Code.wp Tryd.prog (qreg 17) Q ⟨#[u0, .pointer (some ⟨b, 0, none⟩), u2, .int .i64 ii, .bool may, .pointer (some ⟨b5, 0, none⟩), .pointer (some ⟨b6, 0, none⟩), .int .i64 ec, .pointer (some ⟨b8, 0, none⟩), .int .i64 ec, .pointer (some ⟨b10, 0, none⟩), .int .i64 ec, u12, u13, .pointer (some ⟨b14, 0, none⟩), .pointer (some ⟨b15, 0, none⟩), .pointer (some ⟨b16, 0, none⟩), u17, u18, u19, u20, u21, u22, u23, u24, u25, u26, u27, u28, u29, u30, u31, u32, u33, u34, u35, u36, u37, u38, u39, u40, u41, u42, u43, u44, u45, u46, u47, u48, u49, u50, u51, u52, u53, u54, u55, u56, u57, u58, u59, u60, u61, u62, u63, u64, u65, u66, u67, u68, u69, u70, u71, u72, u73, u74, u75, u76, u77, u78, u79, u80, u81, u82, u83, u84, u85, u86, u87, u88, u89, u90, u91, u92, u93, u94, u95, u96, u97, u98, u99, u100, u101, u102, u103, u104, u105, u106, u107, u108, u109, u110, u111, u112, u113, u114, u115, u116, u117, u118, u119, u120, u121, u122, u123, u124, u125, u126, u127, u128, u129, u130, u131, u132, u133, u134, u135], []⟩ wr := by
  have HM := hid hM
  have HEL := hid hel
  have HS1 := hid hs1
  have HS2 := hid hs2
  have HS3 := hid hs3
  have HP1 := hid hp1
  have HP2 := hid hp2
  have hii2 : (ii : Int) < (sl_ : Int) := by omega
  have hall : ∀ l : List Value, l.length = 43 → (l.drop 0).take l.length = l ∧ (Tryd.prog.info? 37).map (·.size) = some l.length := fun l hl => ⟨by simp, by rw [hl]; kernel_rfl⟩
  have HA := hid (hall _ ha43)
  have HB := hid (hall _ hb43)
  have HD := hid (hall _ hd43)
  have HI := hid (hall _ hi43)
  have HX := hid (hall _ hx43)
  have HY := hid (hall _ hy43)
  have HZ := hid (hall _ hz43)
  clear hM hel hs1 hs2 hs3 hp1 hp2 hall ha43 hb43 hd43 hi43 hx43 hy43 hz43
  conv => arg 2; whnf
  conv => arg 4; zeta
  refine start_ (n := 40) (S := fun W => Mem w W [(b16, Row 37 lz), (b15, Row 37 ly), (b14, Row 37 lx), (b12, Row 37 l12), (b10, Row 37 ld), (b8, Row 37 lb), (b6, Row 37 la), (b5, Row 37 li), (b, Row 24 (askL (.slice (some ⟨sb, so, none⟩) sl_ sc) n m k r))]) (ds := [37]) #[false, false, false, false, false, false, false, false, false, false, false, false, false, false, false, false, false, false, false, false, false, false, false, false, false, false, false, false, false, false, false, false, false, false, false, false, false, false, false, false] (by kernel_rfl) rfl rfl HM.out.drew (fun hS => ?_)
  refine take_ (i := 0) (N := some 95) (a' := ?_) (v := .agg la.toArray) #[true, false, false, false, false, false, false, false, false, false, false, false, false, false, false, false, false, false, false, false, false, false, false, false, false, false, false, false, false, false, false, false, false, false, false, false, false, false, false, false] rfl rfl (by kernel_rfl) (by first | exact fun _ _ _ h => h | exact fun _ _ _ h => hP _ _ _ _ _ h) (y_loadS rfl rfl rfl (.tail _ (.tail _ (.tail _ (.tail _ (.tail _ (.tail _ (.head _))))))) HA.out.1 Tryd.underlying37 rfl HA.out.2) hS ?_ ?_
  rotate_left
  · simp only [Act.put, List.setIfInBounds_toArray, List.set_cons_zero, List.set_cons_succ]
    rfl
  refine take_ (i := 1) (N := some 96) (a' := ?_) (v := .int .i64 ec) #[true, true, false, false, false, false, false, false, false, false, false, false, false, false, false, false, false, false, false, false, false, false, false, false, false, false, false, false, false, false, false, false, false, false, false, false, false, false, false, false] rfl rfl (by kernel_rfl) (by first | exact fun _ _ _ h => h | exact fun _ _ _ h => hP _ _ _ _ _ h) (Or.inl ⟨by rfl, fun w' _ => by go_simp⟩) hS ?_ ?_
  rotate_left
  · simp only [Act.put, List.setIfInBounds_toArray, List.set_cons_zero, List.set_cons_succ]
    rfl
  refine take_ (i := 2) (N := some 97) (a' := ?_) (v := .bool may) #[true, true, true, false, false, false, false, false, false, false, false, false, false, false, false, false, false, false, false, false, false, false, false, false, false, false, false, false, false, false, false, false, false, false, false, false, false, false, false, false] rfl rfl (by kernel_rfl) (by first | exact fun _ _ _ h => h | exact fun _ _ _ h => hP _ _ _ _ _ h) (Or.inl ⟨by rfl, fun w' _ => by go_simp⟩) hS ?_ ?_
  rotate_left
  · simp only [Act.put, List.setIfInBounds_toArray, List.set_cons_zero, List.set_cons_succ]
    rfl
  refine take_ (i := 3) (N := some 98) (a' := ?_) (v := .agg lx.toArray) #[true, true, true, true, false, false, false, false, false, false, false, false, false, false, false, false, false, false, false, false, false, false, false, false, false, false, false, false, false, false, false, false, false, false, false, false, false, false, false, false] rfl rfl (by kernel_rfl) (by first | exact fun _ _ _ h => h | exact fun _ _ _ h => hP _ _ _ _ _ h) (y_loadS rfl rfl rfl (.tail _ (.tail _ (.head _))) HX.out.1 Tryd.underlying37 rfl HX.out.2) hS ?_ ?_
  rotate_left
  · simp only [Act.put, List.setIfInBounds_toArray, List.set_cons_zero, List.set_cons_succ]
    rfl
  refine take_ (i := 4) (N := some 99) (a' := ?_) (v := .agg li.toArray) #[true, true, true, true, true, false, false, false, false, false, false, false, false, false, false, false, false, false, false, false, false, false, false, false, false, false, false, false, false, false, false, false, false, false, false, false, false, false, false, false] rfl rfl (by kernel_rfl) (by first | exact fun _ _ _ h => h | exact fun _ _ _ h => hP _ _ _ _ _ h) (y_loadS rfl rfl rfl (.tail _ (.tail _ (.tail _ (.tail _ (.tail _ (.tail _ (.tail _ (.head _)))))))) HI.out.1 Tryd.underlying37 rfl HI.out.2) hS ?_ ?_
  rotate_left
  · simp only [Act.put, List.setIfInBounds_toArray, List.set_cons_zero, List.set_cons_succ]
    rfl
  refine take_ (i := 5) (N := some 100) (a' := ?_) (v := .pointer (some ⟨b, 0, none⟩)) #[true, true, true, true, true, true, false, false, false, false, false, false, false, false, false, false, false, false, false, false, false, false, false, false, false, false, false, false, false, false, false, false, false, false, false, false, false, false, false, false] rfl rfl (by kernel_rfl) (by first | exact fun _ _ _ h => h | exact fun _ _ _ h => hP _ _ _ _ _ h) (Or.inl ⟨by rfl, fun w' _ => by go_simp⟩) hS ?_ ?_
  rotate_left
  · simp only [Act.put, List.setIfInBounds_toArray, List.set_cons_zero, List.set_cons_succ]
    rfl
  refine take_ (i := 6) (N := some 101) (a' := ?_) (v := .slice (some ⟨sb, so, none⟩) sl_ sc) #[true, true, true, true, true, true, true, false, false, false, false, false, false, false, false, false, false, false, false, false, false, false, false, false, false, false, false, false, false, false, false, false, false, false, false, false, false, false, false, false] rfl rfl (by kernel_rfl) (by first | exact fun _ _ _ h => h | exact fun _ _ _ h => hP _ _ _ _ _ h) (y_load rfl rfl rfl (by first | exact .head _ | exact .tail _ (.head _) | exact .tail _ (.tail _ (.head _)) | exact .tail _ (.tail _ (.tail _ (.head _))) | exact .tail _ (.tail _ (.tail _ (.tail _ (.head _)))) | exact .tail _ (.tail _ (.tail _ (.tail _ (.tail _ (.head _))))) | exact .tail _ (.tail _ (.tail _ (.tail _ (.tail _ (.tail _ (.head _)))))) | exact .tail _ (.tail _ (.tail _ (.tail _ (.tail _ (.tail _ (.tail _ (.head _))))))) | exact .tail _ (.tail _ (.tail _ (.tail _ (.tail _ (.tail _ (.tail _ (.tail _ (.head _))))))))) rfl Tryd.underlying22 rfl) hS ?_ ?_
  rotate_left
  · simp only [Act.put, List.setIfInBounds_toArray, List.set_cons_zero, List.set_cons_succ]
    rfl
  refine take_ (i := 7) (N := some 102) (a' := ?_) (v := .int .i64 ii) #[true, true, true, true, true, true, true, true, false, false, false, false, false, false, false, false, false, false, false, false, false, false, false, false, false, false, false, false, false, false, false, false, false, false, false, false, false, false, false, false] rfl rfl (by kernel_rfl) (by first | exact fun _ _ _ h => h | exact fun _ _ _ h => hP _ _ _ _ _ h) (Or.inl ⟨by rfl, fun w' _ => by go_simp⟩) hS ?_ ?_
  rotate_left
  · simp only [Act.put, List.setIfInBounds_toArray, List.set_cons_zero, List.set_cons_succ]
    rfl
  refine take_ (i := 8) (N := some 103) (a' := ?_) (v := .pointer (some ⟨sb, so + ii * 43, none⟩)) #[true, true, true, true, true, true, true, true, true, false, false, false, false, false, false, false, false, false, false, false, false, false, false, false, false, false, false, false, false, false, false, false, false, false, false, false, false, false, false, false] rfl rfl (by kernel_rfl) (by first | exact fun _ _ _ h => h | exact fun _ _ _ h => hP _ _ _ _ _ h) (Or.inl ⟨by rfl, fun w' _ => by go_simp⟩) hS ?_ ?_
  rotate_left
  · simp only [Act.put, List.setIfInBounds_toArray, List.set_cons_zero, List.set_cons_succ]
    rfl
  refine take_ (i := 9) (N := some 104) (a' := ?_) (v := .agg (scrL s m0 o0 t0).toArray) #[true, true, true, true, true, true, true, true, true, true, false, false, false, false, false, false, false, false, false, false, false, false, false, false, false, false, false, false, false, false, false, false, false, false, false, false, false, false, false, false] rfl rfl (by kernel_rfl) (by first | exact fun _ _ _ h => h | exact fun _ _ _ h => hP _ _ _ _ _ h) (y_any rfl rfl rfl (fun W hW => load_sl (HEL.out W hW.below))) hS ?_ ?_
  rotate_left
  · simp only [Act.put, List.setIfInBounds_toArray, List.set_cons_zero, List.set_cons_succ]
    rfl
  refine one_ (i := 10) (N := some 105) #[true, true, true, true, true, true, true, true, true, true, true, false, false, false, false, false, false, false, false, false, false, false, false, false, false, false, false, false, false, false, false, false, false, false, false, false, false, false, false, false] rfl rfl (by kernel_rfl) (by decide) (fun K hK => ?_)
  refine goes_ Tryd.func37 (by kernel_rfl) rfl #[.agg la.toArray, .int .i64 ec, .bool may, .agg lx.toArray, .agg li.toArray, .agg (scrL s m0 o0 t0).toArray] (by rfl) rfl rfl (by simp only [List.map_toArray, List.map_cons, List.map_nil]; rfl) ?_
  refine HS1.out.mono ?_
  rintro e w4 ⟨rfl, hP1⟩
  have HW1 := hid hP1
  refine ⟨_, rfl, hK.out _ _ (HP1.out _ hP1) (fun hS2 => ?_)⟩
  clear hK K hS hP1
  have hS := hS2
  clear hS2
  refine norm_ (a' := ?_) ?_ ?_
  rotate_left
  · simp only [Act.put, List.setIfInBounds_toArray, List.set_cons_zero, List.set_cons_succ]
    rfl
  refine pure_ (i := 11) (N := some 106) (a' := ?_) (v := .bool false) #[true, true, true, true, true, true, true, true, true, true, true, true, false, false, false, false, false, false, false, false, false, false, false, false, false, false, false, false, false, false, false, false, false, false, false, false, false, false, false, false] rfl rfl (by kernel_rfl) (by first | exact fun _ _ _ h => h | exact fun _ _ _ h => hP _ _ _ _ _ h) (Or.inl ⟨by rfl, fun w' => by go_simp⟩) ?_ ?_
  rotate_left
  · simp only [Act.put, List.setIfInBounds_toArray, List.set_cons_zero, List.set_cons_succ]
    rfl
  refine pure_ (i := 12) (N := some 107) (a' := ?_) (v := .bool false) #[true, true, true, true, true, true, true, true, true, true, true, true, true, false, false, false, false, false, false, false, false, false, false, false, false, false, false, false, false, false, false, false, false, false, false, false, false, false, false, false] rfl rfl (by kernel_rfl) (by first | exact fun _ _ _ h => h | exact fun _ _ _ h => hP _ _ _ _ _ h) (Or.inl ⟨by rfl, fun w' => by go_simp⟩) ?_ ?_
  rotate_left
  · simp only [Act.put, List.setIfInBounds_toArray, List.set_cons_zero, List.set_cons_succ]
    rfl
  refine take_ (i := 13) (N := some 108) (a' := ?_) (v := .agg lb.toArray) #[true, true, true, true, true, true, true, true, true, true, true, true, true, true, false, false, false, false, false, false, false, false, false, false, false, false, false, false, false, false, false, false, false, false, false, false, false, false, false, false] rfl rfl (by kernel_rfl) (by first | exact fun _ _ _ h => h | exact fun _ _ _ h => hP _ _ _ _ _ h) (y_loadS rfl rfl rfl (.tail _ (.tail _ (.tail _ (.tail _ (.tail _ (.head _)))))) HB.out.1 Tryd.underlying37 rfl HB.out.2) hS ?_ ?_
  rotate_left
  · simp only [Act.put, List.setIfInBounds_toArray, List.set_cons_zero, List.set_cons_succ]
    rfl
  refine take_ (i := 14) (N := some 109) (a' := ?_) (v := .int .i64 ec) #[true, true, true, true, true, true, true, true, true, true, true, true, true, true, true, false, false, false, false, false, false, false, false, false, false, false, false, false, false, false, false, false, false, false, false, false, false, false, false, false] rfl rfl (by kernel_rfl) (by first | exact fun _ _ _ h => h | exact fun _ _ _ h => hP _ _ _ _ _ h) (Or.inl ⟨by rfl, fun w' _ => by go_simp⟩) hS ?_ ?_
  rotate_left
  · simp only [Act.put, List.setIfInBounds_toArray, List.set_cons_zero, List.set_cons_succ]
    rfl
  refine take_ (i := 15) (N := some 110) (a' := ?_) (v := .bool may) #[true, true, true, true, true, true, true, true, true, true, true, true, true, true, true, true, false, false, false, false, false, false, false, false, false, false, false, false, false, false, false, false, false, false, false, false, false, false, false, false] rfl rfl (by kernel_rfl) (by first | exact fun _ _ _ h => h | exact fun _ _ _ h => hP _ _ _ _ _ h) (Or.inl ⟨by rfl, fun w' _ => by go_simp⟩) hS ?_ ?_
  rotate_left
  · simp only [Act.put, List.setIfInBounds_toArray, List.set_cons_zero, List.set_cons_succ]
    rfl
  refine take_ (i := 16) (N := some 111) (a' := ?_) (v := .agg ly.toArray) #[true, true, true, true, true, true, true, true, true, true, true, true, true, true, true, true, true, false, false, false, false, false, false, false, false, false, false, false, false, false, false, false, false, false, false, false, false, false, false, false] rfl rfl (by kernel_rfl) (by first | exact fun _ _ _ h => h | exact fun _ _ _ h => hP _ _ _ _ _ h) (y_loadS rfl rfl rfl (.tail _ (.head _)) HY.out.1 Tryd.underlying37 rfl HY.out.2) hS ?_ ?_
  rotate_left
  · simp only [Act.put, List.setIfInBounds_toArray, List.set_cons_zero, List.set_cons_succ]
    rfl
  refine take_ (i := 17) (N := some 112) (a' := ?_) (v := .agg li.toArray) #[true, true, true, true, true, true, true, true, true, true, true, true, true, true, true, true, true, true, false, false, false, false, false, false, false, false, false, false, false, false, false, false, false, false, false, false, false, false, false, false] rfl rfl (by kernel_rfl) (by first | exact fun _ _ _ h => h | exact fun _ _ _ h => hP _ _ _ _ _ h) (y_loadS rfl rfl rfl (.tail _ (.tail _ (.tail _ (.tail _ (.tail _ (.tail _ (.tail _ (.head _)))))))) HI.out.1 Tryd.underlying37 rfl HI.out.2) hS ?_ ?_
  rotate_left
  · simp only [Act.put, List.setIfInBounds_toArray, List.set_cons_zero, List.set_cons_succ]
    rfl
  refine take_ (i := 18) (N := some 113) (a' := ?_) (v := .pointer (some ⟨b, 0, none⟩)) #[true, true, true, true, true, true, true, true, true, true, true, true, true, true, true, true, true, true, true, false, false, false, false, false, false, false, false, false, false, false, false, false, false, false, false, false, false, false, false, false] rfl rfl (by kernel_rfl) (by first | exact fun _ _ _ h => h | exact fun _ _ _ h => hP _ _ _ _ _ h) (Or.inl ⟨by rfl, fun w' _ => by go_simp⟩) hS ?_ ?_
  rotate_left
  · simp only [Act.put, List.setIfInBounds_toArray, List.set_cons_zero, List.set_cons_succ]
    rfl
  refine take_ (i := 19) (N := some 114) (a' := ?_) (v := .slice (some ⟨sb, so, none⟩) sl_ sc) #[true, true, true, true, true, true, true, true, true, true, true, true, true, true, true, true, true, true, true, true, false, false, false, false, false, false, false, false, false, false, false, false, false, false, false, false, false, false, false, false] rfl rfl (by kernel_rfl) (by first | exact fun _ _ _ h => h | exact fun _ _ _ h => hP _ _ _ _ _ h) (y_load rfl rfl rfl (by first | exact .head _ | exact .tail _ (.head _) | exact .tail _ (.tail _ (.head _)) | exact .tail _ (.tail _ (.tail _ (.head _))) | exact .tail _ (.tail _ (.tail _ (.tail _ (.head _)))) | exact .tail _ (.tail _ (.tail _ (.tail _ (.tail _ (.head _))))) | exact .tail _ (.tail _ (.tail _ (.tail _ (.tail _ (.tail _ (.head _)))))) | exact .tail _ (.tail _ (.tail _ (.tail _ (.tail _ (.tail _ (.tail _ (.head _))))))) | exact .tail _ (.tail _ (.tail _ (.tail _ (.tail _ (.tail _ (.tail _ (.tail _ (.head _))))))))) rfl Tryd.underlying22 rfl) hS ?_ ?_
  rotate_left
  · simp only [Act.put, List.setIfInBounds_toArray, List.set_cons_zero, List.set_cons_succ]
    rfl
  refine take_ (i := 20) (N := some 115) (a' := ?_) (v := .int .i64 ii) #[true, true, true, true, true, true, true, true, true, true, true, true, true, true, true, true, true, true, true, true, true, false, false, false, false, false, false, false, false, false, false, false, false, false, false, false, false, false, false, false] rfl rfl (by kernel_rfl) (by first | exact fun _ _ _ h => h | exact fun _ _ _ h => hP _ _ _ _ _ h) (Or.inl ⟨by rfl, fun w' _ => by go_simp⟩) hS ?_ ?_
  rotate_left
  · simp only [Act.put, List.setIfInBounds_toArray, List.set_cons_zero, List.set_cons_succ]
    rfl
  refine take_ (i := 21) (N := some 116) (a' := ?_) (v := .pointer (some ⟨sb, so + ii * 43, none⟩)) #[true, true, true, true, true, true, true, true, true, true, true, true, true, true, true, true, true, true, true, true, true, true, false, false, false, false, false, false, false, false, false, false, false, false, false, false, false, false, false, false] rfl rfl (by kernel_rfl) (by first | exact fun _ _ _ h => h | exact fun _ _ _ h => hP _ _ _ _ _ h) (Or.inl ⟨by rfl, fun w' _ => by go_simp⟩) hS ?_ ?_
  rotate_left
  · simp only [Act.put, List.setIfInBounds_toArray, List.set_cons_zero, List.set_cons_succ]
    rfl
  refine take_ (i := 22) (N := some 117) (a' := ?_) (v := .agg (scrL s m0 o0 t0).toArray) #[true, true, true, true, true, true, true, true, true, true, true, true, true, true, true, true, true, true, true, true, true, true, true, false, false, false, false, false, false, false, false, false, false, false, false, false, false, false, false, false] rfl rfl (by kernel_rfl) (by first | exact fun _ _ _ h => h | exact fun _ _ _ h => hP _ _ _ _ _ h) (y_any rfl rfl rfl (fun W hW => load_sl (HEL.out W hW.below))) hS ?_ ?_
  rotate_left
  · simp only [Act.put, List.setIfInBounds_toArray, List.set_cons_zero, List.set_cons_succ]
    rfl
  refine one_ (i := 23) (N := some 118) #[true, true, true, true, true, true, true, true, true, true, true, true, true, true, true, true, true, true, true, true, true, true, true, true, false, false, false, false, false, false, false, false, false, false, false, false, false, false, false, false] rfl rfl (by kernel_rfl) (by decide) (fun K hK => ?_)
  refine goes_ Tryd.func37 (by kernel_rfl) rfl #[.agg lb.toArray, .int .i64 ec, .bool may, .agg ly.toArray, .agg li.toArray, .agg (scrL s m0 o0 t0).toArray] (by rfl) rfl rfl (by simp only [List.map_toArray, List.map_cons, List.map_nil]; rfl) ?_
  refine (HS2.out _ HW1.out).mono ?_
  rintro e w5 ⟨rfl, hP2⟩
  have HW2 := hid hP2
  refine ⟨_, rfl, hK.out _ _ (HP2.out _ hP2) (fun hS2 => ?_)⟩
  clear hK K hS hP2
  have hS := hS2
  clear hS2
  refine norm_ (a' := ?_) ?_ ?_
  rotate_left
  · simp only [Act.put, List.setIfInBounds_toArray, List.set_cons_zero, List.set_cons_succ]
    rfl
  refine pure_ (i := 24) (N := some 119) (a' := ?_) (v := .bool false) #[true, true, true, true, true, true, true, true, true, true, true, true, true, true, true, true, true, true, true, true, true, true, true, true, true, false, false, false, false, false, false, false, false, false, false, false, false, false, false, false] rfl rfl (by kernel_rfl) (by first | exact fun _ _ _ h => h | exact fun _ _ _ h => hP _ _ _ _ _ h) (Or.inl ⟨by rfl, fun w' => by go_simp⟩) ?_ ?_
  rotate_left
  · simp only [Act.put, List.setIfInBounds_toArray, List.set_cons_zero, List.set_cons_succ]
    rfl
  refine pure_ (i := 25) (N := some 120) (a' := ?_) (v := .bool false) #[true, true, true, true, true, true, true, true, true, true, true, true, true, true, true, true, true, true, true, true, true, true, true, true, true, true, false, false, false, false, false, false, false, false, false, false, false, false, false, false] rfl rfl (by kernel_rfl) (by first | exact fun _ _ _ h => h | exact fun _ _ _ h => hP _ _ _ _ _ h) (Or.inl ⟨by rfl, fun w' => by go_simp⟩) ?_ ?_
  rotate_left
  · simp only [Act.put, List.setIfInBounds_toArray, List.set_cons_zero, List.set_cons_succ]
    rfl
  refine pure_ (i := 26) (N := some 121) (a' := ?_) (v := .bool false) #[true, true, true, true, true, true, true, true, true, true, true, true, true, true, true, true, true, true, true, true, true, true, true, true, true, true, true, false, false, false, false, false, false, false, false, false, false, false, false, false] rfl rfl (by kernel_rfl) (by first | exact fun _ _ _ h => h | exact fun _ _ _ h => hP _ _ _ _ _ h) (Or.inl ⟨by rfl, fun w' => by go_simp⟩) ?_ ?_
  rotate_left
  · simp only [Act.put, List.setIfInBounds_toArray, List.set_cons_zero, List.set_cons_succ]
    rfl
  refine take_ (i := 27) (N := some 122) (a' := ?_) (v := .agg ld.toArray) #[true, true, true, true, true, true, true, true, true, true, true, true, true, true, true, true, true, true, true, true, true, true, true, true, true, true, true, true, false, false, false, false, false, false, false, false, false, false, false, false] rfl rfl (by kernel_rfl) (by first | exact fun _ _ _ h => h | exact fun _ _ _ h => hP _ _ _ _ _ h) (y_loadS rfl rfl rfl (.tail _ (.tail _ (.tail _ (.tail _ (.head _))))) HD.out.1 Tryd.underlying37 rfl HD.out.2) hS ?_ ?_
  rotate_left
  · simp only [Act.put, List.setIfInBounds_toArray, List.set_cons_zero, List.set_cons_succ]
    rfl
  refine take_ (i := 28) (N := some 123) (a' := ?_) (v := .int .i64 ec) #[true, true, true, true, true, true, true, true, true, true, true, true, true, true, true, true, true, true, true, true, true, true, true, true, true, true, true, true, true, false, false, false, false, false, false, false, false, false, false, false] rfl rfl (by kernel_rfl) (by first | exact fun _ _ _ h => h | exact fun _ _ _ h => hP _ _ _ _ _ h) (Or.inl ⟨by rfl, fun w' _ => by go_simp⟩) hS ?_ ?_
  rotate_left
  · simp only [Act.put, List.setIfInBounds_toArray, List.set_cons_zero, List.set_cons_succ]
    rfl
  refine take_ (i := 29) (N := some 124) (a' := ?_) (v := .bool may) #[true, true, true, true, true, true, true, true, true, true, true, true, true, true, true, true, true, true, true, true, true, true, true, true, true, true, true, true, true, true, false, false, false, false, false, false, false, false, false, false] rfl rfl (by kernel_rfl) (by first | exact fun _ _ _ h => h | exact fun _ _ _ h => hP _ _ _ _ _ h) (Or.inl ⟨by rfl, fun w' _ => by go_simp⟩) hS ?_ ?_
  rotate_left
  · simp only [Act.put, List.setIfInBounds_toArray, List.set_cons_zero, List.set_cons_succ]
    rfl
  refine take_ (i := 30) (N := some 125) (a' := ?_) (v := .agg lz.toArray) #[true, true, true, true, true, true, true, true, true, true, true, true, true, true, true, true, true, true, true, true, true, true, true, true, true, true, true, true, true, true, true, false, false, false, false, false, false, false, false, false] rfl rfl (by kernel_rfl) (by first | exact fun _ _ _ h => h | exact fun _ _ _ h => hP _ _ _ _ _ h) (y_loadS rfl rfl rfl (.head _) HZ.out.1 Tryd.underlying37 rfl HZ.out.2) hS ?_ ?_
  rotate_left
  · simp only [Act.put, List.setIfInBounds_toArray, List.set_cons_zero, List.set_cons_succ]
    rfl
  refine take_ (i := 31) (N := some 126) (a' := ?_) (v := .agg li.toArray) #[true, true, true, true, true, true, true, true, true, true, true, true, true, true, true, true, true, true, true, true, true, true, true, true, true, true, true, true, true, true, true, true, false, false, false, false, false, false, false, false] rfl rfl (by kernel_rfl) (by first | exact fun _ _ _ h => h | exact fun _ _ _ h => hP _ _ _ _ _ h) (y_loadS rfl rfl rfl (.tail _ (.tail _ (.tail _ (.tail _ (.tail _ (.tail _ (.tail _ (.head _)))))))) HI.out.1 Tryd.underlying37 rfl HI.out.2) hS ?_ ?_
  rotate_left
  · simp only [Act.put, List.setIfInBounds_toArray, List.set_cons_zero, List.set_cons_succ]
    rfl
  refine take_ (i := 32) (N := some 127) (a' := ?_) (v := .pointer (some ⟨b, 0, none⟩)) #[true, true, true, true, true, true, true, true, true, true, true, true, true, true, true, true, true, true, true, true, true, true, true, true, true, true, true, true, true, true, true, true, true, false, false, false, false, false, false, false] rfl rfl (by kernel_rfl) (by first | exact fun _ _ _ h => h | exact fun _ _ _ h => hP _ _ _ _ _ h) (Or.inl ⟨by rfl, fun w' _ => by go_simp⟩) hS ?_ ?_
  rotate_left
  · simp only [Act.put, List.setIfInBounds_toArray, List.set_cons_zero, List.set_cons_succ]
    rfl
  refine take_ (i := 33) (N := some 128) (a' := ?_) (v := .slice (some ⟨sb, so, none⟩) sl_ sc) #[true, true, true, true, true, true, true, true, true, true, true, true, true, true, true, true, true, true, true, true, true, true, true, true, true, true, true, true, true, true, true, true, true, true, false, false, false, false, false, false] rfl rfl (by kernel_rfl) (by first | exact fun _ _ _ h => h | exact fun _ _ _ h => hP _ _ _ _ _ h) (y_load rfl rfl rfl (by first | exact .head _ | exact .tail _ (.head _) | exact .tail _ (.tail _ (.head _)) | exact .tail _ (.tail _ (.tail _ (.head _))) | exact .tail _ (.tail _ (.tail _ (.tail _ (.head _)))) | exact .tail _ (.tail _ (.tail _ (.tail _ (.tail _ (.head _))))) | exact .tail _ (.tail _ (.tail _ (.tail _ (.tail _ (.tail _ (.head _)))))) | exact .tail _ (.tail _ (.tail _ (.tail _ (.tail _ (.tail _ (.tail _ (.head _))))))) | exact .tail _ (.tail _ (.tail _ (.tail _ (.tail _ (.tail _ (.tail _ (.tail _ (.head _))))))))) rfl Tryd.underlying22 rfl) hS ?_ ?_
  rotate_left
  · simp only [Act.put, List.setIfInBounds_toArray, List.set_cons_zero, List.set_cons_succ]
    rfl
  refine take_ (i := 34) (N := some 129) (a' := ?_) (v := .int .i64 ii) #[true, true, true, true, true, true, true, true, true, true, true, true, true, true, true, true, true, true, true, true, true, true, true, true, true, true, true, true, true, true, true, true, true, true, true, false, false, false, false, false] rfl rfl (by kernel_rfl) (by first | exact fun _ _ _ h => h | exact fun _ _ _ h => hP _ _ _ _ _ h) (Or.inl ⟨by rfl, fun w' _ => by go_simp⟩) hS ?_ ?_
  rotate_left
  · simp only [Act.put, List.setIfInBounds_toArray, List.set_cons_zero, List.set_cons_succ]
    rfl
  refine take_ (i := 35) (N := some 130) (a' := ?_) (v := .pointer (some ⟨sb, so + ii * 43, none⟩)) #[true, true, true, true, true, true, true, true, true, true, true, true, true, true, true, true, true, true, true, true, true, true, true, true, true, true, true, true, true, true, true, true, true, true, true, true, false, false, false, false] rfl rfl (by kernel_rfl) (by first | exact fun _ _ _ h => h | exact fun _ _ _ h => hP _ _ _ _ _ h) (Or.inl ⟨by rfl, fun w' _ => by go_simp⟩) hS ?_ ?_
  rotate_left
  · simp only [Act.put, List.setIfInBounds_toArray, List.set_cons_zero, List.set_cons_succ]
    rfl
  refine take_ (i := 36) (N := some 131) (a' := ?_) (v := .agg (scrL s m0 o0 t0).toArray) #[true, true, true, true, true, true, true, true, true, true, true, true, true, true, true, true, true, true, true, true, true, true, true, true, true, true, true, true, true, true, true, true, true, true, true, true, true, false, false, false] rfl rfl (by kernel_rfl) (by first | exact fun _ _ _ h => h | exact fun _ _ _ h => hP _ _ _ _ _ h) (y_any rfl rfl rfl (fun W hW => load_sl (HEL.out W hW.below))) hS ?_ ?_
  rotate_left
  · simp only [Act.put, List.setIfInBounds_toArray, List.set_cons_zero, List.set_cons_succ]
    rfl
  refine last_ (i := 37) (N := some 132) #[true, true, true, true, true, true, true, true, true, true, true, true, true, true, true, true, true, true, true, true, true, true, true, true, true, true, true, true, true, true, true, true, true, true, true, true, true, true, false, false] rfl rfl (by kernel_rfl) (by decide) (fun K hK => ?_)
  refine goes_ Tryd.func37 (by kernel_rfl) rfl #[.agg ld.toArray, .int .i64 ec, .bool may, .agg lz.toArray, .agg li.toArray, .agg (scrL s m0 o0 t0).toArray] (by rfl) rfl rfl (by simp only [List.map_toArray, List.map_cons, List.map_nil]; rfl) ?_
  refine (HS3.out _ HW2.out).mono ?_
  rintro e w6 ⟨rfl, hP3⟩
  refine ⟨_, rfl, hK.out _ _ ?_⟩
  clear hK K
  refine norm_ (a' := ?_) ?_ ?_
  rotate_left
  · simp only [Act.put, List.setIfInBounds_toArray, List.set_cons_zero, List.set_cons_succ]
    rfl
  refine pure_ (i := 38) (N := some 133) (a' := ?_) (v := .bool false) #[true, true, true, true, true, true, true, true, true, true, true, true, true, true, true, true, true, true, true, true, true, true, true, true, true, true, true, true, true, true, true, true, true, true, true, true, true, true, true, false] rfl rfl (by kernel_rfl) (by first | exact fun _ _ _ h => h | exact fun _ _ _ h => hP _ _ _ _ _ h) (Or.inl ⟨by rfl, fun w' => by go_simp⟩) ?_ ?_
  rotate_left
  · simp only [Act.put, List.setIfInBounds_toArray, List.set_cons_zero, List.set_cons_succ]
    rfl
  refine pure_ (i := 39) (N := some 134) (a' := ?_) (v := .bool false) #[true, true, true, true, true, true, true, true, true, true, true, true, true, true, true, true, true, true, true, true, true, true, true, true, true, true, true, true, true, true, true, true, true, true, true, true, true, true, true, true] rfl rfl (by kernel_rfl) (by first | exact fun _ _ _ h => h | exact fun _ _ _ h => hP _ _ _ _ _ h) (Or.inl ⟨by rfl, fun w' => by go_simp⟩) ?_ ?_
  rotate_left
  · simp only [Act.put, List.setIfInBounds_toArray, List.set_cons_zero, List.set_cons_succ]
    rfl
  refine done_ (by kernel_rfl) ?_
  exact hQ w6 _ _ _ _ _ _ _ _ _ _ _ _ _ _ _ _ _ _ _ _ _ _ _ _ _ _ _ _ _ _ _ _ _ _ _ _ _ _ _ hP3
end Go.Proofs.YtbjckahaalbpaaaDoor
