import Derived.Test.YtpmfjombfcnhmaaGreatDoorEdRef5
import Derived.Test.YtpmfjombfcnhmaaGreatDoorETx
set_option linter.unusedVariables false
set_option linter.unusedSimpArgs false
set_option linter.unnecessarySimpa false
/- The reference's Edit: the regions whose order is open (printed by genred.py). -/
namespace Go.Proofs.YtpmfjombfcnhmaaGreatDoor
open Go Go.RowKit Go.Proofs.YtpmfjombfcnhmaaGreatDoorW.PrintLast

noncomputable def xreg (n : Nat) : Code := ((Tryz.f24.body.bind (findRegion n)).getD .skip)
theorem y_storeE {P : Program} {ops : Array Oper} {op : Oper} {a : Act} {w0 w : World} {Q : Exit → Act → World → Prop} {F : List Ent} {K : Act → World → Prop} (hM : Mem w0 w F) (hw : Region.wanted op (yielded ops a.tmps) = true) (hN : op.dst = none) {ty : TypeId} {x y : Operand} (ho : op.op = .store ty x y) {b o : Nat} (hx : a.eval x = .pointer (some ⟨b, o, none⟩)) (i : Nat) {t : TypeId} {l : List Value} (hF : F[i]? = some (b, Row t l))
    {cs : List Value} (hy : a.eval y = .agg cs.toArray) (l' : List Value) (hl : Mem.putL l o cs = l') (hk : o + cs.length ≤ l.length) (hi : (P.info? ty).map (·.size) = some cs.length) (h1 : cs.all (·.oneCell') = true)
    (h : ∀ w', Mem w0 w' (F.set i (b, Row t l')) → w.grownBy w' (some b) → K a w') : if Region.wanted op (yielded ops a.tmps) = true then Oper.wp P op a w K Q else K (a.put none undef) w := by
  rw [if_pos hw]
  refine wp_store_mid ty x y ho b o cs.toArray hx hy (hM.there (List.mem_of_getElem? hF) (by simpa using hk)) (by simpa using hi) (by rw [List.all_toArray]; exact h1) ?_
  rw [hN]
  exact h _ (hl ▸ hM.sets hF o cs) (grown_setCells _ _ _)
/-- behind a new grid: what was, is, and the new cells are -/
def Upd (w0 wr : World) (F : List Ent) (b : Nat) (V : Value) (M : List Cell) (w' : World) : Prop := ∃ w5, Below wr.heap.size wr w5 ∧ Mem w0 w5 F ∧ OwnC w5 wr.heap.size V M ∧ w5.grownBy w' (some b)
set_option maxRecDepth 100000 in
set_option maxHeartbeats 4000000 in
theorem xreg24_is {w wr : World} {b3 b6 b8 b9 q r c : Nat} {a : Attr} {c0 : Cur} {l : List Value} {V : Value} {M' : List Cell} {L1 L2 : List Cell} {i low high : Int} {Q : Exit → Act → World → Prop} (hM : Mem w wr [(b9, Row 33 (attrL a)), (b8, Row 35 (curL c0)), (b6, Row 38 zL), (b3, Row 38 l)]) (hg : (l.drop q).take (gridL r c V).length = gridL r c V) (hq : q + 3 ≤ l.length)
    (hc1 : ∀ W, Below wr.heap.size wr W → Calls Tryz.prog 44 #[.agg (gridL r c V).toArray, .int .i64 i] W fun e w' => ∃ v', e = .returned v' ∧ OwnC w' W.heap.size v' L1 ∧ Below W.heap.size W w')
    (hc2 : ∀ W v, Below wr.heap.size wr W → RdC W v L1 → Calls Tryz.prog 43 #[v, .int .i64 low, .int .i64 high, .agg (attrL a).toArray] W fun e w' => ∃ v', e = .returned v' ∧ OwnC w' W.heap.size v' L2 ∧ Below W.heap.size W w')
    (hc3 : ∀ W v, Below wr.heap.size wr W → RdC W v L2 → Calls Tryz.prog 42 #[.agg (gridL r c V).toArray, .int .i64 i, v] W fun e w' => ∃ v', e = .returned (.agg (gridL r c v').toArray) ∧ OwnC w' W.heap.size v' M' ∧ Below W.heap.size W w')
    (hP : ∀ c a (d : Tmp) v w, Q (.panic c) (Act.put a (some d) v) w → Q (.panic c) a w) (u0 u1 u2 u4 u5 u6 u10 u11 u15 u16 u17 u18 u19 u20 u21 u22 u23 u24 u25 u26 u27 u28 u29 u30 u31 u32 u33 u34 u35 u36 u37 u38 u39 u40 u41 u42 u43 u44 u45 u46 u47 u48 u49 u50 u51 u52 u53 u54 u55 u56 u57 u58 u59 u60 u61 u62 u63 u64 u65 u66 u67 u68 u69 u70 u71 u72 u73 u74 u75 u76 u77 u78 u79 u80 u81 u82 u83 u84 u85 u86 u87 u88 u89 u90 u91 u92 u93 u94 u95 u96 u97 u98 u99 u100 u101 u102 u103 u104 u105 u106 u107 u108 u109 u110 u111 u112 u113 u114 u115 u116 u117 u118 u119 u120 u121 u122 u123 u124 u125 u126 u127 u128 u129 u130 u131 u132 u133 u134 u135 u136 u137 u138 u139 u140 u141 u142 u143 u144 u145 u146 u147 u148 u149 u150 u151 u152 u153 u154 u155 u156 u157 u158 u159 u160 u161 u162 u163 u164 u165 u166 u167 u168 u169 u170 u171 u172 u173 u174 u175 u176 u177 u178 u179 u180 u181 u182 u183 u184 u185 u186 u187 u188 u189 u190 u191 u192 u193 u194 u195 u196 u197 u198 u199 u200 u201 u202 u203 u204 u205 u206 u207 u208 u209 u210 u211 u212 u213 u214 u215 u216 u217 u218 u219 u220 u221 u222 u223 u224 u225 u226 u227 u228 u229 u230 u231 u232 u233 u234 u235 u236 u237 u238 u239 u240 u241 u242 : Value)
    (hQ : ∀ w' A2 n2 k2 (v95 v96 v97 v98 v99 v100 v101 v102 v103 v104 v105 v106 v107 v108 v109 v110 : Value), Mem w w' [(b9, Row 33 (attrL a)), (b8, Row 35 (curL c0)), (b6, Row 38 zL), (b3, Row 38 (Mem.putL l q (gridL r c (.slice A2 n2 k2))))] → Upd w wr [(b9, Row 33 (attrL a)), (b8, Row 35 (curL c0)), (b6, Row 38 zL), (b3, Row 38 l)] b3 (.slice A2 n2 k2) M' w' → Q .normal ⟨#[u0, u1, u2, .pointer (some ⟨b3, 0, none⟩), u4, u5, u6, .pointer (some ⟨b3, q, none⟩), .pointer (some ⟨b8, 0, none⟩), .pointer (some ⟨b9, 0, none⟩), u10, u11, .int .i64 i, .int .i64 low, .int .i64 high, u15, u16, u17, u18, u19, u20, u21, u22, u23, u24, u25, u26, u27, u28, u29, u30, u31, u32, u33, u34, u35, u36, u37, u38, u39, u40, u41, u42, u43, u44, u45, u46, u47, u48, u49, u50, u51, u52, u53, u54, u55, u56, u57, u58, u59, u60, u61, u62, u63, u64, u65, u66, u67, u68, u69, u70, u71, u72, u73, u74, u75, u76, u77, u78, u79, u80, u81, u82, u83, u84, u85, u86, u87, u88, u89, u90, u91, u92, u93, u94, v95, v96, v97, v98, v99, v100, v101, v102, v103, v104, v105, v106, v107, v108, v109, v110, u111, u112, u113, u114, u115, u116, u117, u118, u119, u120, u121, u122, u123, u124, u125, u126, u127, u128, u129, u130, u131, u132, u133, u134, u135, u136, u137, u138, u139, u140, u141, u142, u143, u144, u145, u146, u147, u148, u149, u150, u151, u152, u153, u154, u155, u156, u157, u158, u159, u160, u161, u162, u163, u164, u165, u166, u167, u168, u169, u170, u171, u172, u173, u174, u175, u176, u177, u178, u179, u180, u181, u182, u183, u184, u185, u186, u187, u188, u189, u190, u191, u192, u193, u194, u195, u196, u197, u198, u199, u200, u201, u202, u203, u204, u205, u206, u207, u208, u209, u210, u211, u212, u213, u214, u215, u216, u217, u218, u219, u220, u221, u222, u223, u224, u225, u226, u227, u228, u229, u230, u231, u232, u233, u234, u235, u236, u237, u238, u239, u240, u241, u242], []⟩ w') :
    Code.wp Tryz.prog (xreg 24) Q ⟨#[u0, u1, u2, .pointer (some ⟨b3, 0, none⟩), u4, u5, u6, .pointer (some ⟨b3, q, none⟩), .pointer (some ⟨b8, 0, none⟩), .pointer (some ⟨b9, 0, none⟩), u10, u11, .int .i64 i, .int .i64 low, .int .i64 high, u15, u16, u17, u18, u19, u20, u21, u22, u23, u24, u25, u26, u27, u28, u29, u30, u31, u32, u33, u34, u35, u36, u37, u38, u39, u40, u41, u42, u43, u44, u45, u46, u47, u48, u49, u50, u51, u52, u53, u54, u55, u56, u57, u58, u59, u60, u61, u62, u63, u64, u65, u66, u67, u68, u69, u70, u71, u72, u73, u74, u75, u76, u77, u78, u79, u80, u81, u82, u83, u84, u85, u86, u87, u88, u89, u90, u91, u92, u93, u94, u95, u96, u97, u98, u99, u100, u101, u102, u103, u104, u105, u106, u107, u108, u109, u110, u111, u112, u113, u114, u115, u116, u117, u118, u119, u120, u121, u122, u123, u124, u125, u126, u127, u128, u129, u130, u131, u132, u133, u134, u135, u136, u137, u138, u139, u140, u141, u142, u143, u144, u145, u146, u147, u148, u149, u150, u151, u152, u153, u154, u155, u156, u157, u158, u159, u160, u161, u162, u163, u164, u165, u166, u167, u168, u169, u170, u171, u172, u173, u174, u175, u176, u177, u178, u179, u180, u181, u182, u183, u184, u185, u186, u187, u188, u189, u190, u191, u192, u193, u194, u195, u196, u197, u198, u199, u200, u201, u202, u203, u204, u205, u206, u207, u208, u209, u210, u211, u212, u213, u214, u215, u216, u217, u218, u219, u220, u221, u222, u223, u224, u225, u226, u227, u228, u229, u230, u231, u232, u233, u234, u235, u236, u237, u238, u239, u240, u241, u242], []⟩ wr := by
  have HM := hid hM
  have HGR := hid hg
  have HC1 := hid hc1
  have HC2 := hid hc2
  have HC3 := hid hc3
  clear hM hg hc1 hc2 hc3
  conv => arg 2; whnf
  conv => arg 4; zeta
  refine start_ (n := 17) (S := fun W => Mem w W [(b9, Row 33 (attrL a)), (b8, Row 35 (curL c0)), (b6, Row 38 zL), (b3, Row 38 l)]) (ds := [16]) #[false, false, false, false, false, false, false, false, false, false, false, false, false, false, false, false, false] (by kernel_rfl) rfl rfl HM.out.drew (fun hS => ?_)
  refine take_ (i := 0) (N := some 95) (a' := ?_) (v := .pointer (some ⟨b3, q, none⟩)) #[true, false, false, false, false, false, false, false, false, false, false, false, false, false, false, false, false] rfl rfl (by kernel_rfl) (by first | exact fun _ _ _ h => h | exact fun _ _ _ h => hP _ _ _ _ _ h) (Or.inl ⟨by rfl, fun w' _ => by go_simp⟩) hS ?_ ?_
  rotate_left
  · simp only [Act.put, List.setIfInBounds_toArray, List.set_cons_zero, List.set_cons_succ]
    rfl
  refine take_ (i := 1) (N := some 96) (a' := ?_) (v := .pointer (some ⟨b3, q, none⟩)) #[true, true, false, false, false, false, false, false, false, false, false, false, false, false, false, false, false] rfl rfl (by kernel_rfl) (by first | exact fun _ _ _ h => h | exact fun _ _ _ h => hP _ _ _ _ _ h) (Or.inl ⟨by rfl, fun w' _ => by go_simp⟩) hS ?_ ?_
  rotate_left
  · simp only [Act.put, List.setIfInBounds_toArray, List.set_cons_zero, List.set_cons_succ]
    rfl
  refine take_ (i := 2) (N := some 97) (a' := ?_) (v := .pointer (some ⟨b3, q, none⟩)) #[true, true, true, false, false, false, false, false, false, false, false, false, false, false, false, false, false] rfl rfl (by kernel_rfl) (by first | exact fun _ _ _ h => h | exact fun _ _ _ h => hP _ _ _ _ _ h) (Or.inl ⟨by rfl, fun w' _ => by go_simp⟩) hS ?_ ?_
  rotate_left
  · simp only [Act.put, List.setIfInBounds_toArray, List.set_cons_zero, List.set_cons_succ]
    rfl
  refine take_ (i := 3) (N := some 98) (a' := ?_) (v := .agg (gridL r c V).toArray) #[true, true, true, true, false, false, false, false, false, false, false, false, false, false, false, false, false] rfl rfl (by kernel_rfl) (by first | exact fun _ _ _ h => h | exact fun _ _ _ h => hP _ _ _ _ _ h) (y_loadS rfl rfl rfl (.tail _ (.tail _ (.tail _ (.head _)))) HGR.out Tryz.underlying31 rfl (by kernel_rfl)) hS ?_ ?_
  rotate_left
  · simp only [Act.put, List.setIfInBounds_toArray, List.set_cons_zero, List.set_cons_succ]
    rfl
  refine take_ (i := 4) (N := some 99) (a' := ?_) (v := .int .i64 i) #[true, true, true, true, true, false, false, false, false, false, false, false, false, false, false, false, false] rfl rfl (by kernel_rfl) (by first | exact fun _ _ _ h => h | exact fun _ _ _ h => hP _ _ _ _ _ h) (Or.inl ⟨by rfl, fun w' _ => by go_simp⟩) hS ?_ ?_
  rotate_left
  · simp only [Act.put, List.setIfInBounds_toArray, List.set_cons_zero, List.set_cons_succ]
    rfl
  refine take_ (i := 5) (N := some 100) (a' := ?_) (v := .pointer (some ⟨b3, q, none⟩)) #[true, true, true, true, true, true, false, false, false, false, false, false, false, false, false, false, false] rfl rfl (by kernel_rfl) (by first | exact fun _ _ _ h => h | exact fun _ _ _ h => hP _ _ _ _ _ h) (Or.inl ⟨by rfl, fun w' _ => by go_simp⟩) hS ?_ ?_
  rotate_left
  · simp only [Act.put, List.setIfInBounds_toArray, List.set_cons_zero, List.set_cons_succ]
    rfl
  refine take_ (i := 6) (N := some 101) (a' := ?_) (v := .pointer (some ⟨b3, q, none⟩)) #[true, true, true, true, true, true, true, false, false, false, false, false, false, false, false, false, false] rfl rfl (by kernel_rfl) (by first | exact fun _ _ _ h => h | exact fun _ _ _ h => hP _ _ _ _ _ h) (Or.inl ⟨by rfl, fun w' _ => by go_simp⟩) hS ?_ ?_
  rotate_left
  · simp only [Act.put, List.setIfInBounds_toArray, List.set_cons_zero, List.set_cons_succ]
    rfl
  refine take_ (i := 7) (N := some 102) (a' := ?_) (v := .agg (gridL r c V).toArray) #[true, true, true, true, true, true, true, true, false, false, false, false, false, false, false, false, false] rfl rfl (by kernel_rfl) (by first | exact fun _ _ _ h => h | exact fun _ _ _ h => hP _ _ _ _ _ h) (y_loadS rfl rfl rfl (.tail _ (.tail _ (.tail _ (.head _)))) HGR.out Tryz.underlying31 rfl (by kernel_rfl)) hS ?_ ?_
  rotate_left
  · simp only [Act.put, List.setIfInBounds_toArray, List.set_cons_zero, List.set_cons_succ]
    rfl
  refine take_ (i := 8) (N := some 103) (a' := ?_) (v := .int .i64 i) #[true, true, true, true, true, true, true, true, true, false, false, false, false, false, false, false, false] rfl rfl (by kernel_rfl) (by first | exact fun _ _ _ h => h | exact fun _ _ _ h => hP _ _ _ _ _ h) (Or.inl ⟨by rfl, fun w' _ => by go_simp⟩) hS ?_ ?_
  rotate_left
  · simp only [Act.put, List.setIfInBounds_toArray, List.set_cons_zero, List.set_cons_succ]
    rfl
  refine take_ (i := 10) (N := some 105) (a' := ?_) (v := .int .i64 low) #[true, true, true, true, true, true, true, true, true, false, true, false, false, false, false, false, false] rfl rfl (by kernel_rfl) (by first | exact fun _ _ _ h => h | exact fun _ _ _ h => hP _ _ _ _ _ h) (Or.inl ⟨by rfl, fun w' _ => by go_simp⟩) hS ?_ ?_
  rotate_left
  · simp only [Act.put, List.setIfInBounds_toArray, List.set_cons_zero, List.set_cons_succ]
    rfl
  refine take_ (i := 11) (N := some 106) (a' := ?_) (v := .int .i64 high) #[true, true, true, true, true, true, true, true, true, false, true, true, false, false, false, false, false] rfl rfl (by kernel_rfl) (by first | exact fun _ _ _ h => h | exact fun _ _ _ h => hP _ _ _ _ _ h) (Or.inl ⟨by rfl, fun w' _ => by go_simp⟩) hS ?_ ?_
  rotate_left
  · simp only [Act.put, List.setIfInBounds_toArray, List.set_cons_zero, List.set_cons_succ]
    rfl
  refine take_ (i := 12) (N := some 107) (a' := ?_) (v := .agg (attrL a).toArray) #[true, true, true, true, true, true, true, true, true, false, true, true, true, false, false, false, false] rfl rfl (by kernel_rfl) (by first | exact fun _ _ _ h => h | exact fun _ _ _ h => hP _ _ _ _ _ h) (y_loadS rfl rfl rfl (.head _) rfl Tryz.underlying33 rfl (by kernel_rfl)) hS ?_ ?_
  rotate_left
  · simp only [Act.put, List.setIfInBounds_toArray, List.set_cons_zero, List.set_cons_succ]
    rfl
  have hB : Below wr.heap.size wr wr.drew := (Below.refl _ _).drew
  refine one_ (i := 9) (N := some 104) #[true, true, true, true, true, true, true, true, true, true, true, true, true, false, false, false, false] rfl rfl (by kernel_rfl) (by decide) (fun K hK => ?_)
  refine goes_ Tryz.func44 (by kernel_rfl) rfl #[.agg (gridL r c V).toArray, .int .i64 i] (by rfl) rfl rfl (by simp only [List.map_toArray, List.map_cons, List.map_nil]; rfl) ?_
  refine (HC1.out _ hB).mono ?_
  rintro e w4 ⟨v0_, rfl, hO1, hB1⟩
  have hB0 := hB.trans (hB1.mono hB.size)
  clear hB
  have hB := hB0
  clear hB0
  refine ⟨_, rfl, hK.out _ _ (hS.call hB1) (fun hS2 => ?_)⟩
  clear hK K hS
  have hS := hS2
  clear hS2
  refine norm_ (a' := ?_) ?_ ?_
  rotate_left
  · simp only [Act.put, List.setIfInBounds_toArray, List.set_cons_zero, List.set_cons_succ]
    rfl
  refine one_ (i := 13) (N := some 108) #[true, true, true, true, true, true, true, true, true, true, true, true, true, true, false, false, false] rfl rfl (by kernel_rfl) (by decide) (fun K hK => ?_)
  refine goes_ Tryz.func43 (by kernel_rfl) rfl #[v0_, .int .i64 low, .int .i64 high, .agg (attrL a).toArray] (by rfl) rfl rfl (by simp only [List.map_toArray, List.map_cons, List.map_nil]; rfl) ?_
  refine (HC2.out _ _ hB hO1.rd).mono ?_
  rintro e w5 ⟨v1_, rfl, hO2, hB2⟩
  have hB0 := hB.trans (hB2.mono hB.size)
  clear hB
  have hB := hB0
  clear hB0
  refine ⟨_, rfl, hK.out _ _ (hS.call hB2) (fun hS2 => ?_)⟩
  clear hK K hS
  have hS := hS2
  clear hS2
  refine norm_ (a' := ?_) ?_ ?_
  rotate_left
  · simp only [Act.put, List.setIfInBounds_toArray, List.set_cons_zero, List.set_cons_succ]
    rfl
  refine one_ (i := 14) (N := some 109) #[true, true, true, true, true, true, true, true, true, true, true, true, true, true, true, false, false] rfl rfl (by kernel_rfl) (by decide) (fun K hK => ?_)
  refine goes_ Tryz.func42 (by kernel_rfl) rfl #[.agg (gridL r c V).toArray, .int .i64 i, v1_] (by rfl) rfl rfl (by simp only [List.map_toArray, List.map_cons, List.map_nil]; rfl) ?_
  refine (HC3.out _ _ hB hO2.rd).mono ?_
  rintro e w6 ⟨v2_, rfl, hO3, hB3⟩
  obtain ⟨A2, k2, rfl⟩ := hO3.slice
  have hBs := hB.size
  have hB0 := hB.trans (hB3.mono hB.size)
  clear hB
  have hB := hB0
  clear hB0
  refine ⟨_, rfl, hK.out _ _ (hS.call hB3) (fun hS2 => ?_)⟩
  clear hK K hS
  have hS := hS2
  clear hS2
  refine norm_ (a' := ?_) ?_ ?_
  rotate_left
  · simp only [Act.put, List.setIfInBounds_toArray, List.set_cons_zero, List.set_cons_succ]
    rfl
  refine take_ (i := 15) (N := some 110) (a' := ?_) (v := .pointer (some ⟨b3, q, none⟩)) #[true, true, true, true, true, true, true, true, true, true, true, true, true, true, true, true, false] rfl rfl (by kernel_rfl) (by first | exact fun _ _ _ h => h | exact fun _ _ _ h => hP _ _ _ _ _ h) (Or.inl ⟨by rfl, fun w' _ => by go_simp⟩) hS ?_ ?_
  rotate_left
  · simp only [Act.put, List.setIfInBounds_toArray, List.set_cons_zero, List.set_cons_succ]
    rfl
  refine last_ (i := 16) (N := none) #[true, true, true, true, true, true, true, true, true, true, true, true, true, true, true, true, true] rfl rfl (by kernel_rfl) (by decide) (fun K hK => ?_)
  refine y_storeE hS rfl rfl rfl rfl 3 rfl (cs := gridL r c (.slice A2 _ k2)) rfl _ rfl (by simpa [gridL] using hq) (by kernel_rfl) rfl (fun w9 hM9 hg9 => hK.out _ _ ?_)
  clear hK K
  refine done_ (by kernel_rfl) ?_
  exact hQ w9 _ _ _ _ _ _ _ _ _ _ _ _ _ _ _ _ _ _ _ hM9 ⟨_, hB, hS, hO3.lower hBs, hg9⟩
set_option maxRecDepth 100000 in
set_option maxHeartbeats 4000000 in
theorem xreg31_is {w wr : World} {b3 b6 b8 b9 q r c : Nat} {a : Attr} {c0 : Cur} {l : List Value} {V : Value} {M' : List Cell} {L1 : List Cell} {n high : Int} {v15 : Value} {Q : Exit → Act → World → Prop} (hM : Mem w wr [(b9, Row 33 (attrL a)), (b8, Row 35 (curL c0)), (b6, Row 38 zL), (b3, Row 38 l)]) (hg : (l.drop q).take (gridL r c V).length = gridL r c V) (hq : q + 3 ≤ l.length)
    (hv1 : l[q + 1]? = some (.int .i64 (c : Int)))
    (s1 : IntKind.i64.wrap (c0.col + n) = c0.col + n)
    (m1 : ∀ ts t w, (Builtin.min_ ts t #[.int .i64 (c : Int), .int .i64 (c0.col + n)]).run Tryz.prog w = .ok (.int .i64 high) w)
    (hc1 : ∀ W, Below wr.heap.size wr W → Calls Tryz.prog 43 #[v15, .int .i64 c0.col, .int .i64 high, .agg (attrL a).toArray] W fun e w' => ∃ v', e = .returned v' ∧ OwnC w' W.heap.size v' L1 ∧ Below W.heap.size W w')
    (hc2 : ∀ W v, Below wr.heap.size wr W → RdC W v L1 → Calls Tryz.prog 42 #[.agg (gridL r c V).toArray, .int .i64 c0.row, v] W fun e w' => ∃ v', e = .returned (.agg (gridL r c v').toArray) ∧ OwnC w' W.heap.size v' M' ∧ Below W.heap.size W w')
    (hP : ∀ c a (d : Tmp) v w, Q (.panic c) (Act.put a (some d) v) w → Q (.panic c) a w) (u0 u1 u4 u5 u6 u10 u11 u12 u13 u14 u16 u17 u18 u19 u20 u21 u22 u23 u24 u25 u26 u27 u28 u29 u30 u31 u32 u33 u34 u35 u36 u37 u38 u39 u40 u41 u42 u43 u44 u45 u46 u47 u48 u49 u50 u51 u52 u53 u54 u55 u56 u57 u58 u59 u60 u61 u62 u63 u64 u65 u66 u67 u68 u69 u70 u71 u72 u73 u74 u75 u76 u77 u78 u79 u80 u81 u82 u83 u84 u85 u86 u87 u88 u89 u90 u91 u92 u93 u94 u95 u96 u97 u98 u99 u100 u101 u102 u103 u104 u105 u106 u107 u108 u109 u110 u111 u112 u113 u114 u115 u116 u117 u118 u119 u120 u121 u122 u123 u124 u125 u126 u127 u128 u129 u130 u131 u132 u133 u134 u135 u136 u137 u138 u139 u140 u141 u142 u143 u144 u145 u146 u147 u148 u149 u150 u151 u152 u153 u154 u155 u156 u157 u158 u159 u160 u161 u162 u163 u164 u165 u166 u167 u168 u169 u170 u171 u172 u173 u174 u175 u176 u177 u178 u179 u180 u181 u182 u183 u184 u185 u186 u187 u188 u189 u190 u191 u192 u193 u194 u195 u196 u197 u198 u199 u200 u201 u202 u203 u204 u205 u206 u207 u208 u209 u210 u211 u212 u213 u214 u215 u216 u217 u218 u219 u220 u221 u222 u223 u224 u225 u226 u227 u228 u229 u230 u231 u232 u233 u234 u235 u236 u237 u238 u239 u240 u241 u242 : Value)
    (hQ : ∀ w' A2 n2 k2 (v135 v136 v137 v138 v139 v140 v141 v142 v143 v144 v145 v146 v147 v148 v149 v150 v151 v152 v153 v154 v155 v156 : Value), Mem w w' [(b9, Row 33 (attrL a)), (b8, Row 35 (curL c0)), (b6, Row 38 zL), (b3, Row 38 (Mem.putL l q (gridL r c (.slice A2 n2 k2))))] → Upd w wr [(b9, Row 33 (attrL a)), (b8, Row 35 (curL c0)), (b6, Row 38 zL), (b3, Row 38 l)] b3 (.slice A2 n2 k2) M' w' → Q .normal ⟨#[u0, u1, .int .i64 n, .pointer (some ⟨b3, 0, none⟩), u4, u5, u6, .pointer (some ⟨b3, q, none⟩), .pointer (some ⟨b8, 0, none⟩), .pointer (some ⟨b9, 0, none⟩), u10, u11, u12, u13, u14, v15, u16, u17, u18, u19, u20, u21, u22, u23, u24, u25, u26, u27, u28, u29, u30, u31, u32, u33, u34, u35, u36, u37, u38, u39, u40, u41, u42, u43, u44, u45, u46, u47, u48, u49, u50, u51, u52, u53, u54, u55, u56, u57, u58, u59, u60, u61, u62, u63, u64, u65, u66, u67, u68, u69, u70, u71, u72, u73, u74, u75, u76, u77, u78, u79, u80, u81, u82, u83, u84, u85, u86, u87, u88, u89, u90, u91, u92, u93, u94, u95, u96, u97, u98, u99, u100, u101, u102, u103, u104, u105, u106, u107, u108, u109, u110, u111, u112, u113, u114, u115, u116, u117, u118, u119, u120, u121, u122, u123, u124, u125, u126, u127, u128, u129, u130, u131, u132, u133, u134, v135, v136, v137, v138, v139, v140, v141, v142, v143, v144, v145, v146, v147, v148, v149, v150, v151, v152, v153, v154, v155, v156, u157, u158, u159, u160, u161, u162, u163, u164, u165, u166, u167, u168, u169, u170, u171, u172, u173, u174, u175, u176, u177, u178, u179, u180, u181, u182, u183, u184, u185, u186, u187, u188, u189, u190, u191, u192, u193, u194, u195, u196, u197, u198, u199, u200, u201, u202, u203, u204, u205, u206, u207, u208, u209, u210, u211, u212, u213, u214, u215, u216, u217, u218, u219, u220, u221, u222, u223, u224, u225, u226, u227, u228, u229, u230, u231, u232, u233, u234, u235, u236, u237, u238, u239, u240, u241, u242], []⟩ w') :
    Code.wp Tryz.prog (xreg 31) Q ⟨#[u0, u1, .int .i64 n, .pointer (some ⟨b3, 0, none⟩), u4, u5, u6, .pointer (some ⟨b3, q, none⟩), .pointer (some ⟨b8, 0, none⟩), .pointer (some ⟨b9, 0, none⟩), u10, u11, u12, u13, u14, v15, u16, u17, u18, u19, u20, u21, u22, u23, u24, u25, u26, u27, u28, u29, u30, u31, u32, u33, u34, u35, u36, u37, u38, u39, u40, u41, u42, u43, u44, u45, u46, u47, u48, u49, u50, u51, u52, u53, u54, u55, u56, u57, u58, u59, u60, u61, u62, u63, u64, u65, u66, u67, u68, u69, u70, u71, u72, u73, u74, u75, u76, u77, u78, u79, u80, u81, u82, u83, u84, u85, u86, u87, u88, u89, u90, u91, u92, u93, u94, u95, u96, u97, u98, u99, u100, u101, u102, u103, u104, u105, u106, u107, u108, u109, u110, u111, u112, u113, u114, u115, u116, u117, u118, u119, u120, u121, u122, u123, u124, u125, u126, u127, u128, u129, u130, u131, u132, u133, u134, u135, u136, u137, u138, u139, u140, u141, u142, u143, u144, u145, u146, u147, u148, u149, u150, u151, u152, u153, u154, u155, u156, u157, u158, u159, u160, u161, u162, u163, u164, u165, u166, u167, u168, u169, u170, u171, u172, u173, u174, u175, u176, u177, u178, u179, u180, u181, u182, u183, u184, u185, u186, u187, u188, u189, u190, u191, u192, u193, u194, u195, u196, u197, u198, u199, u200, u201, u202, u203, u204, u205, u206, u207, u208, u209, u210, u211, u212, u213, u214, u215, u216, u217, u218, u219, u220, u221, u222, u223, u224, u225, u226, u227, u228, u229, u230, u231, u232, u233, u234, u235, u236, u237, u238, u239, u240, u241, u242], []⟩ wr := by
  have HM := hid hM
  have HGR := hid hg
  have HV1 := hid hv1
  have HC1 := hid hc1
  have HC2 := hid hc2
  clear hM hg hv1 hc1 hc2
  conv => arg 2; whnf
  conv => arg 4; zeta
  refine start_ (n := 23) (S := fun W => Mem w W [(b9, Row 33 (attrL a)), (b8, Row 35 (curL c0)), (b6, Row 38 zL), (b3, Row 38 l)]) (ds := [22]) #[false, false, false, false, false, false, false, false, false, false, false, false, false, false, false, false, false, false, false, false, false, false, false] (by kernel_rfl) rfl rfl HM.out.drew (fun hS => ?_)
  refine take_ (i := 0) (N := some 135) (a' := ?_) (v := .pointer (some ⟨b3, q, none⟩)) #[true, false, false, false, false, false, false, false, false, false, false, false, false, false, false, false, false, false, false, false, false, false, false] rfl rfl (by kernel_rfl) (by first | exact fun _ _ _ h => h | exact fun _ _ _ h => hP _ _ _ _ _ h) (Or.inl ⟨by rfl, fun w' _ => by go_simp⟩) hS ?_ ?_
  rotate_left
  · simp only [Act.put, List.setIfInBounds_toArray, List.set_cons_zero, List.set_cons_succ]
    rfl
  refine take_ (i := 1) (N := some 136) (a' := ?_) (v := .pointer (some ⟨b3, q, none⟩)) #[true, true, false, false, false, false, false, false, false, false, false, false, false, false, false, false, false, false, false, false, false, false, false] rfl rfl (by kernel_rfl) (by first | exact fun _ _ _ h => h | exact fun _ _ _ h => hP _ _ _ _ _ h) (Or.inl ⟨by rfl, fun w' _ => by go_simp⟩) hS ?_ ?_
  rotate_left
  · simp only [Act.put, List.setIfInBounds_toArray, List.set_cons_zero, List.set_cons_succ]
    rfl
  refine take_ (i := 2) (N := some 137) (a' := ?_) (v := .pointer (some ⟨b3, q, none⟩)) #[true, true, true, false, false, false, false, false, false, false, false, false, false, false, false, false, false, false, false, false, false, false, false] rfl rfl (by kernel_rfl) (by first | exact fun _ _ _ h => h | exact fun _ _ _ h => hP _ _ _ _ _ h) (Or.inl ⟨by rfl, fun w' _ => by go_simp⟩) hS ?_ ?_
  rotate_left
  · simp only [Act.put, List.setIfInBounds_toArray, List.set_cons_zero, List.set_cons_succ]
    rfl
  refine take_ (i := 3) (N := some 138) (a' := ?_) (v := .agg (gridL r c V).toArray) #[true, true, true, true, false, false, false, false, false, false, false, false, false, false, false, false, false, false, false, false, false, false, false] rfl rfl (by kernel_rfl) (by first | exact fun _ _ _ h => h | exact fun _ _ _ h => hP _ _ _ _ _ h) (y_loadS rfl rfl rfl (.tail _ (.tail _ (.tail _ (.head _)))) HGR.out Tryz.underlying31 rfl (by kernel_rfl)) hS ?_ ?_
  rotate_left
  · simp only [Act.put, List.setIfInBounds_toArray, List.set_cons_zero, List.set_cons_succ]
    rfl
  refine take_ (i := 4) (N := some 139) (a' := ?_) (v := .pointer (some ⟨b8, 0, none⟩)) #[true, true, true, true, true, false, false, false, false, false, false, false, false, false, false, false, false, false, false, false, false, false, false] rfl rfl (by kernel_rfl) (by first | exact fun _ _ _ h => h | exact fun _ _ _ h => hP _ _ _ _ _ h) (Or.inl ⟨by rfl, fun w' _ => by go_simp⟩) hS ?_ ?_
  rotate_left
  · simp only [Act.put, List.setIfInBounds_toArray, List.set_cons_zero, List.set_cons_succ]
    rfl
  refine take_ (i := 5) (N := some 140) (a' := ?_) (v := .int .i64 c0.row) #[true, true, true, true, true, true, false, false, false, false, false, false, false, false, false, false, false, false, false, false, false, false, false] rfl rfl (by kernel_rfl) (by first | exact fun _ _ _ h => h | exact fun _ _ _ h => hP _ _ _ _ _ h) (y_load rfl rfl rfl (.tail _ (.head _)) rfl Tryz.underlying3 rfl) hS ?_ ?_
  rotate_left
  · simp only [Act.put, List.setIfInBounds_toArray, List.set_cons_zero, List.set_cons_succ]
    rfl
  refine take_ (i := 6) (N := some 141) (a' := ?_) (v := v15) #[true, true, true, true, true, true, true, false, false, false, false, false, false, false, false, false, false, false, false, false, false, false, false] rfl rfl (by kernel_rfl) (by first | exact fun _ _ _ h => h | exact fun _ _ _ h => hP _ _ _ _ _ h) (Or.inl ⟨by rfl, fun w' _ => by go_simp⟩) hS ?_ ?_
  rotate_left
  · simp only [Act.put, List.setIfInBounds_toArray, List.set_cons_zero, List.set_cons_succ]
    rfl
  refine take_ (i := 7) (N := some 142) (a' := ?_) (v := .pointer (some ⟨b8, 1, none⟩)) #[true, true, true, true, true, true, true, true, false, false, false, false, false, false, false, false, false, false, false, false, false, false, false] rfl rfl (by kernel_rfl) (by first | exact fun _ _ _ h => h | exact fun _ _ _ h => hP _ _ _ _ _ h) (Or.inl ⟨by rfl, fun w' _ => by go_simp⟩) hS ?_ ?_
  rotate_left
  · simp only [Act.put, List.setIfInBounds_toArray, List.set_cons_zero, List.set_cons_succ]
    rfl
  refine take_ (i := 8) (N := some 143) (a' := ?_) (v := .int .i64 c0.col) #[true, true, true, true, true, true, true, true, true, false, false, false, false, false, false, false, false, false, false, false, false, false, false] rfl rfl (by kernel_rfl) (by first | exact fun _ _ _ h => h | exact fun _ _ _ h => hP _ _ _ _ _ h) (y_load rfl rfl rfl (.tail _ (.head _)) rfl Tryz.underlying3 rfl) hS ?_ ?_
  rotate_left
  · simp only [Act.put, List.setIfInBounds_toArray, List.set_cons_zero, List.set_cons_succ]
    rfl
  refine take_ (i := 9) (N := some 144) (a' := ?_) (v := .pointer (some ⟨b3, q, none⟩)) #[true, true, true, true, true, true, true, true, true, true, false, false, false, false, false, false, false, false, false, false, false, false, false] rfl rfl (by kernel_rfl) (by first | exact fun _ _ _ h => h | exact fun _ _ _ h => hP _ _ _ _ _ h) (Or.inl ⟨by rfl, fun w' _ => by go_simp⟩) hS ?_ ?_
  rotate_left
  · simp only [Act.put, List.setIfInBounds_toArray, List.set_cons_zero, List.set_cons_succ]
    rfl
  refine take_ (i := 10) (N := some 145) (a' := ?_) (v := .pointer (some ⟨b3, q, none⟩)) #[true, true, true, true, true, true, true, true, true, true, true, false, false, false, false, false, false, false, false, false, false, false, false] rfl rfl (by kernel_rfl) (by first | exact fun _ _ _ h => h | exact fun _ _ _ h => hP _ _ _ _ _ h) (Or.inl ⟨by rfl, fun w' _ => by go_simp⟩) hS ?_ ?_
  rotate_left
  · simp only [Act.put, List.setIfInBounds_toArray, List.set_cons_zero, List.set_cons_succ]
    rfl
  refine take_ (i := 11) (N := some 146) (a' := ?_) (v := .pointer (some ⟨b3, q + 1, none⟩)) #[true, true, true, true, true, true, true, true, true, true, true, true, false, false, false, false, false, false, false, false, false, false, false] rfl rfl (by kernel_rfl) (by first | exact fun _ _ _ h => h | exact fun _ _ _ h => hP _ _ _ _ _ h) (Or.inl ⟨by rfl, fun w' _ => by go_simp⟩) hS ?_ ?_
  rotate_left
  · simp only [Act.put, List.setIfInBounds_toArray, List.set_cons_zero, List.set_cons_succ]
    rfl
  refine take_ (i := 12) (N := some 147) (a' := ?_) (v := .int .i64 (c : Int)) #[true, true, true, true, true, true, true, true, true, true, true, true, true, false, false, false, false, false, false, false, false, false, false] rfl rfl (by kernel_rfl) (by first | exact fun _ _ _ h => h | exact fun _ _ _ h => hP _ _ _ _ _ h) (y_load rfl rfl rfl (.tail _ (.tail _ (.tail _ (.head _)))) HV1.out Tryz.underlying3 rfl) hS ?_ ?_
  rotate_left
  · simp only [Act.put, List.setIfInBounds_toArray, List.set_cons_zero, List.set_cons_succ]
    rfl
  refine take_ (i := 13) (N := some 148) (a' := ?_) (v := .pointer (some ⟨b8, 1, none⟩)) #[true, true, true, true, true, true, true, true, true, true, true, true, true, true, false, false, false, false, false, false, false, false, false] rfl rfl (by kernel_rfl) (by first | exact fun _ _ _ h => h | exact fun _ _ _ h => hP _ _ _ _ _ h) (Or.inl ⟨by rfl, fun w' _ => by go_simp⟩) hS ?_ ?_
  rotate_left
  · simp only [Act.put, List.setIfInBounds_toArray, List.set_cons_zero, List.set_cons_succ]
    rfl
  refine take_ (i := 14) (N := some 149) (a' := ?_) (v := .int .i64 c0.col) #[true, true, true, true, true, true, true, true, true, true, true, true, true, true, true, false, false, false, false, false, false, false, false] rfl rfl (by kernel_rfl) (by first | exact fun _ _ _ h => h | exact fun _ _ _ h => hP _ _ _ _ _ h) (y_load rfl rfl rfl (.tail _ (.head _)) rfl Tryz.underlying3 rfl) hS ?_ ?_
  rotate_left
  · simp only [Act.put, List.setIfInBounds_toArray, List.set_cons_zero, List.set_cons_succ]
    rfl
  refine take_ (i := 15) (N := some 150) (a' := ?_) (v := .int .i64 n) #[true, true, true, true, true, true, true, true, true, true, true, true, true, true, true, true, false, false, false, false, false, false, false] rfl rfl (by kernel_rfl) (by first | exact fun _ _ _ h => h | exact fun _ _ _ h => hP _ _ _ _ _ h) (Or.inl ⟨by rfl, fun w' _ => by go_simp⟩) hS ?_ ?_
  rotate_left
  · simp only [Act.put, List.setIfInBounds_toArray, List.set_cons_zero, List.set_cons_succ]
    rfl
  refine take_ (i := 16) (N := some 151) (a' := ?_) (v := .int .i64 (c0.col + n)) #[true, true, true, true, true, true, true, true, true, true, true, true, true, true, true, true, true, false, false, false, false, false, false] rfl rfl (by kernel_rfl) (by first | exact fun _ _ _ h => h | exact fun _ _ _ h => hP _ _ _ _ _ h) (Or.inl ⟨by rfl, fun w' _ => by go_simp⟩) hS ?_ ?_
  rotate_left
  · simp only [Act.put, List.setIfInBounds_toArray, List.set_cons_zero, List.set_cons_succ]
    rfl
  refine take_ (i := 17) (N := some 152) (a' := ?_) (v := .int .i64 high) #[true, true, true, true, true, true, true, true, true, true, true, true, true, true, true, true, true, true, false, false, false, false, false] rfl rfl (by kernel_rfl) (by first | exact fun _ _ _ h => h | exact fun _ _ _ h => hP _ _ _ _ _ h) (Or.inl ⟨by rfl, fun w' _ => by go_simp⟩) hS ?_ ?_
  rotate_left
  · simp only [Act.put, List.setIfInBounds_toArray, List.set_cons_zero, List.set_cons_succ]
    rfl
  refine take_ (i := 18) (N := some 153) (a' := ?_) (v := .agg (attrL a).toArray) #[true, true, true, true, true, true, true, true, true, true, true, true, true, true, true, true, true, true, true, false, false, false, false] rfl rfl (by kernel_rfl) (by first | exact fun _ _ _ h => h | exact fun _ _ _ h => hP _ _ _ _ _ h) (y_loadS rfl rfl rfl (.head _) rfl Tryz.underlying33 rfl (by kernel_rfl)) hS ?_ ?_
  rotate_left
  · simp only [Act.put, List.setIfInBounds_toArray, List.set_cons_zero, List.set_cons_succ]
    rfl
  have hB : Below wr.heap.size wr wr.drew := (Below.refl _ _).drew
  refine one_ (i := 19) (N := some 154) #[true, true, true, true, true, true, true, true, true, true, true, true, true, true, true, true, true, true, true, true, false, false, false] rfl rfl (by kernel_rfl) (by decide) (fun K hK => ?_)
  refine goes_ Tryz.func43 (by kernel_rfl) rfl #[v15, .int .i64 c0.col, .int .i64 high, .agg (attrL a).toArray] (by rfl) rfl rfl (by simp only [List.map_toArray, List.map_cons, List.map_nil]; rfl) ?_
  refine (HC1.out _ hB).mono ?_
  rintro e w4 ⟨v0_, rfl, hO1, hB1⟩
  have hB0 := hB.trans (hB1.mono hB.size)
  clear hB
  have hB := hB0
  clear hB0
  refine ⟨_, rfl, hK.out _ _ (hS.call hB1) (fun hS2 => ?_)⟩
  clear hK K hS
  have hS := hS2
  clear hS2
  refine norm_ (a' := ?_) ?_ ?_
  rotate_left
  · simp only [Act.put, List.setIfInBounds_toArray, List.set_cons_zero, List.set_cons_succ]
    rfl
  refine one_ (i := 20) (N := some 155) #[true, true, true, true, true, true, true, true, true, true, true, true, true, true, true, true, true, true, true, true, true, false, false] rfl rfl (by kernel_rfl) (by decide) (fun K hK => ?_)
  refine goes_ Tryz.func42 (by kernel_rfl) rfl #[.agg (gridL r c V).toArray, .int .i64 c0.row, v0_] (by rfl) rfl rfl (by simp only [List.map_toArray, List.map_cons, List.map_nil]; rfl) ?_
  refine (HC2.out _ _ hB hO1.rd).mono ?_
  rintro e w5 ⟨v1_, rfl, hO2, hB2⟩
  obtain ⟨A2, k2, rfl⟩ := hO2.slice
  have hBs := hB.size
  have hB0 := hB.trans (hB2.mono hB.size)
  clear hB
  have hB := hB0
  clear hB0
  refine ⟨_, rfl, hK.out _ _ (hS.call hB2) (fun hS2 => ?_)⟩
  clear hK K hS
  have hS := hS2
  clear hS2
  refine norm_ (a' := ?_) ?_ ?_
  rotate_left
  · simp only [Act.put, List.setIfInBounds_toArray, List.set_cons_zero, List.set_cons_succ]
    rfl
  refine take_ (i := 21) (N := some 156) (a' := ?_) (v := .pointer (some ⟨b3, q, none⟩)) #[true, true, true, true, true, true, true, true, true, true, true, true, true, true, true, true, true, true, true, true, true, true, false] rfl rfl (by kernel_rfl) (by first | exact fun _ _ _ h => h | exact fun _ _ _ h => hP _ _ _ _ _ h) (Or.inl ⟨by rfl, fun w' _ => by go_simp⟩) hS ?_ ?_
  rotate_left
  · simp only [Act.put, List.setIfInBounds_toArray, List.set_cons_zero, List.set_cons_succ]
    rfl
  refine last_ (i := 22) (N := none) #[true, true, true, true, true, true, true, true, true, true, true, true, true, true, true, true, true, true, true, true, true, true, true] rfl rfl (by kernel_rfl) (by decide) (fun K hK => ?_)
  refine y_storeE hS rfl rfl rfl rfl 3 rfl (cs := gridL r c (.slice A2 _ k2)) rfl _ rfl (by simpa [gridL] using hq) (by kernel_rfl) rfl (fun w9 hM9 hg9 => hK.out _ _ ?_)
  clear hK K
  refine done_ (by kernel_rfl) ?_
  exact hQ w9 _ _ _ _ _ _ _ _ _ _ _ _ _ _ _ _ _ _ _ _ _ _ _ _ _ hM9 ⟨_, hB, hS, hO2.lower hBs, hg9⟩
set_option maxRecDepth 100000 in
set_option maxHeartbeats 4000000 in
theorem xreg33_is {w wr : World} {b3 b6 b8 b9 q r c : Nat} {a : Attr} {c0 : Cur} {l : List Value} {V : Value} {M' : List Cell} {L1 : List Cell} {n : Int} {v15 : Value} {Q : Exit → Act → World → Prop} (hM : Mem w wr [(b9, Row 33 (attrL a)), (b8, Row 35 (curL c0)), (b6, Row 38 zL), (b3, Row 38 l)]) (hg : (l.drop q).take (gridL r c V).length = gridL r c V) (hq : q + 3 ≤ l.length)
    (hc1 : ∀ W, Below wr.heap.size wr W → Calls Tryz.prog 45 #[v15, .int .i64 c0.col, .int .i64 n, .agg (attrL a).toArray] W fun e w' => ∃ v', e = .returned v' ∧ OwnC w' W.heap.size v' L1 ∧ Below W.heap.size W w')
    (hc2 : ∀ W v, Below wr.heap.size wr W → RdC W v L1 → Calls Tryz.prog 42 #[.agg (gridL r c V).toArray, .int .i64 c0.row, v] W fun e w' => ∃ v', e = .returned (.agg (gridL r c v').toArray) ∧ OwnC w' W.heap.size v' M' ∧ Below W.heap.size W w')
    (hP : ∀ c a (d : Tmp) v w, Q (.panic c) (Act.put a (some d) v) w → Q (.panic c) a w) (u0 u1 u4 u5 u6 u10 u11 u12 u13 u14 u16 u17 u18 u19 u20 u21 u22 u23 u24 u25 u26 u27 u28 u29 u30 u31 u32 u33 u34 u35 u36 u37 u38 u39 u40 u41 u42 u43 u44 u45 u46 u47 u48 u49 u50 u51 u52 u53 u54 u55 u56 u57 u58 u59 u60 u61 u62 u63 u64 u65 u66 u67 u68 u69 u70 u71 u72 u73 u74 u75 u76 u77 u78 u79 u80 u81 u82 u83 u84 u85 u86 u87 u88 u89 u90 u91 u92 u93 u94 u95 u96 u97 u98 u99 u100 u101 u102 u103 u104 u105 u106 u107 u108 u109 u110 u111 u112 u113 u114 u115 u116 u117 u118 u119 u120 u121 u122 u123 u124 u125 u126 u127 u128 u129 u130 u131 u132 u133 u134 u135 u136 u137 u138 u139 u140 u141 u142 u143 u144 u145 u146 u147 u148 u149 u150 u151 u152 u153 u154 u155 u156 u157 u158 u159 u160 u161 u162 u163 u164 u165 u166 u167 u168 u169 u170 u171 u172 u173 u174 u175 u176 u177 u178 u179 u180 u181 u182 u183 u184 u185 u186 u187 u188 u189 u190 u191 u192 u193 u194 u195 u196 u197 u198 u199 u200 u201 u202 u203 u204 u205 u206 u207 u208 u209 u210 u211 u212 u213 u214 u215 u216 u217 u218 u219 u220 u221 u222 u223 u224 u225 u226 u227 u228 u229 u230 u231 u232 u233 u234 u235 u236 u237 u238 u239 u240 u241 u242 : Value)
    (hQ : ∀ w' A2 n2 k2 (v159 v160 v161 v162 v163 v164 v165 v166 v167 v168 v169 v170 v171 v172 : Value), Mem w w' [(b9, Row 33 (attrL a)), (b8, Row 35 (curL c0)), (b6, Row 38 zL), (b3, Row 38 (Mem.putL l q (gridL r c (.slice A2 n2 k2))))] → Upd w wr [(b9, Row 33 (attrL a)), (b8, Row 35 (curL c0)), (b6, Row 38 zL), (b3, Row 38 l)] b3 (.slice A2 n2 k2) M' w' → Q .normal ⟨#[u0, u1, .int .i64 n, .pointer (some ⟨b3, 0, none⟩), u4, u5, u6, .pointer (some ⟨b3, q, none⟩), .pointer (some ⟨b8, 0, none⟩), .pointer (some ⟨b9, 0, none⟩), u10, u11, u12, u13, u14, v15, u16, u17, u18, u19, u20, u21, u22, u23, u24, u25, u26, u27, u28, u29, u30, u31, u32, u33, u34, u35, u36, u37, u38, u39, u40, u41, u42, u43, u44, u45, u46, u47, u48, u49, u50, u51, u52, u53, u54, u55, u56, u57, u58, u59, u60, u61, u62, u63, u64, u65, u66, u67, u68, u69, u70, u71, u72, u73, u74, u75, u76, u77, u78, u79, u80, u81, u82, u83, u84, u85, u86, u87, u88, u89, u90, u91, u92, u93, u94, u95, u96, u97, u98, u99, u100, u101, u102, u103, u104, u105, u106, u107, u108, u109, u110, u111, u112, u113, u114, u115, u116, u117, u118, u119, u120, u121, u122, u123, u124, u125, u126, u127, u128, u129, u130, u131, u132, u133, u134, u135, u136, u137, u138, u139, u140, u141, u142, u143, u144, u145, u146, u147, u148, u149, u150, u151, u152, u153, u154, u155, u156, u157, u158, v159, v160, v161, v162, v163, v164, v165, v166, v167, v168, v169, v170, v171, v172, u173, u174, u175, u176, u177, u178, u179, u180, u181, u182, u183, u184, u185, u186, u187, u188, u189, u190, u191, u192, u193, u194, u195, u196, u197, u198, u199, u200, u201, u202, u203, u204, u205, u206, u207, u208, u209, u210, u211, u212, u213, u214, u215, u216, u217, u218, u219, u220, u221, u222, u223, u224, u225, u226, u227, u228, u229, u230, u231, u232, u233, u234, u235, u236, u237, u238, u239, u240, u241, u242], []⟩ w') :
    Code.wp Tryz.prog (xreg 33) Q ⟨#[u0, u1, .int .i64 n, .pointer (some ⟨b3, 0, none⟩), u4, u5, u6, .pointer (some ⟨b3, q, none⟩), .pointer (some ⟨b8, 0, none⟩), .pointer (some ⟨b9, 0, none⟩), u10, u11, u12, u13, u14, v15, u16, u17, u18, u19, u20, u21, u22, u23, u24, u25, u26, u27, u28, u29, u30, u31, u32, u33, u34, u35, u36, u37, u38, u39, u40, u41, u42, u43, u44, u45, u46, u47, u48, u49, u50, u51, u52, u53, u54, u55, u56, u57, u58, u59, u60, u61, u62, u63, u64, u65, u66, u67, u68, u69, u70, u71, u72, u73, u74, u75, u76, u77, u78, u79, u80, u81, u82, u83, u84, u85, u86, u87, u88, u89, u90, u91, u92, u93, u94, u95, u96, u97, u98, u99, u100, u101, u102, u103, u104, u105, u106, u107, u108, u109, u110, u111, u112, u113, u114, u115, u116, u117, u118, u119, u120, u121, u122, u123, u124, u125, u126, u127, u128, u129, u130, u131, u132, u133, u134, u135, u136, u137, u138, u139, u140, u141, u142, u143, u144, u145, u146, u147, u148, u149, u150, u151, u152, u153, u154, u155, u156, u157, u158, u159, u160, u161, u162, u163, u164, u165, u166, u167, u168, u169, u170, u171, u172, u173, u174, u175, u176, u177, u178, u179, u180, u181, u182, u183, u184, u185, u186, u187, u188, u189, u190, u191, u192, u193, u194, u195, u196, u197, u198, u199, u200, u201, u202, u203, u204, u205, u206, u207, u208, u209, u210, u211, u212, u213, u214, u215, u216, u217, u218, u219, u220, u221, u222, u223, u224, u225, u226, u227, u228, u229, u230, u231, u232, u233, u234, u235, u236, u237, u238, u239, u240, u241, u242], []⟩ wr := by
  have HM := hid hM
  have HGR := hid hg
  have HC1 := hid hc1
  have HC2 := hid hc2
  clear hM hg hc1 hc2
  conv => arg 2; whnf
  conv => arg 4; zeta
  refine start_ (n := 15) (S := fun W => Mem w W [(b9, Row 33 (attrL a)), (b8, Row 35 (curL c0)), (b6, Row 38 zL), (b3, Row 38 l)]) (ds := [14]) #[false, false, false, false, false, false, false, false, false, false, false, false, false, false, false] (by kernel_rfl) rfl rfl HM.out.drew (fun hS => ?_)
  refine take_ (i := 0) (N := some 159) (a' := ?_) (v := .pointer (some ⟨b3, q, none⟩)) #[true, false, false, false, false, false, false, false, false, false, false, false, false, false, false] rfl rfl (by kernel_rfl) (by first | exact fun _ _ _ h => h | exact fun _ _ _ h => hP _ _ _ _ _ h) (Or.inl ⟨by rfl, fun w' _ => by go_simp⟩) hS ?_ ?_
  rotate_left
  · simp only [Act.put, List.setIfInBounds_toArray, List.set_cons_zero, List.set_cons_succ]
    rfl
  refine take_ (i := 1) (N := some 160) (a' := ?_) (v := .pointer (some ⟨b3, q, none⟩)) #[true, true, false, false, false, false, false, false, false, false, false, false, false, false, false] rfl rfl (by kernel_rfl) (by first | exact fun _ _ _ h => h | exact fun _ _ _ h => hP _ _ _ _ _ h) (Or.inl ⟨by rfl, fun w' _ => by go_simp⟩) hS ?_ ?_
  rotate_left
  · simp only [Act.put, List.setIfInBounds_toArray, List.set_cons_zero, List.set_cons_succ]
    rfl
  refine take_ (i := 2) (N := some 161) (a' := ?_) (v := .pointer (some ⟨b3, q, none⟩)) #[true, true, true, false, false, false, false, false, false, false, false, false, false, false, false] rfl rfl (by kernel_rfl) (by first | exact fun _ _ _ h => h | exact fun _ _ _ h => hP _ _ _ _ _ h) (Or.inl ⟨by rfl, fun w' _ => by go_simp⟩) hS ?_ ?_
  rotate_left
  · simp only [Act.put, List.setIfInBounds_toArray, List.set_cons_zero, List.set_cons_succ]
    rfl
  refine take_ (i := 3) (N := some 162) (a' := ?_) (v := .agg (gridL r c V).toArray) #[true, true, true, true, false, false, false, false, false, false, false, false, false, false, false] rfl rfl (by kernel_rfl) (by first | exact fun _ _ _ h => h | exact fun _ _ _ h => hP _ _ _ _ _ h) (y_loadS rfl rfl rfl (.tail _ (.tail _ (.tail _ (.head _)))) HGR.out Tryz.underlying31 rfl (by kernel_rfl)) hS ?_ ?_
  rotate_left
  · simp only [Act.put, List.setIfInBounds_toArray, List.set_cons_zero, List.set_cons_succ]
    rfl
  refine take_ (i := 4) (N := some 163) (a' := ?_) (v := .pointer (some ⟨b8, 0, none⟩)) #[true, true, true, true, true, false, false, false, false, false, false, false, false, false, false] rfl rfl (by kernel_rfl) (by first | exact fun _ _ _ h => h | exact fun _ _ _ h => hP _ _ _ _ _ h) (Or.inl ⟨by rfl, fun w' _ => by go_simp⟩) hS ?_ ?_
  rotate_left
  · simp only [Act.put, List.setIfInBounds_toArray, List.set_cons_zero, List.set_cons_succ]
    rfl
  refine take_ (i := 5) (N := some 164) (a' := ?_) (v := .int .i64 c0.row) #[true, true, true, true, true, true, false, false, false, false, false, false, false, false, false] rfl rfl (by kernel_rfl) (by first | exact fun _ _ _ h => h | exact fun _ _ _ h => hP _ _ _ _ _ h) (y_load rfl rfl rfl (.tail _ (.head _)) rfl Tryz.underlying3 rfl) hS ?_ ?_
  rotate_left
  · simp only [Act.put, List.setIfInBounds_toArray, List.set_cons_zero, List.set_cons_succ]
    rfl
  refine take_ (i := 6) (N := some 165) (a' := ?_) (v := v15) #[true, true, true, true, true, true, true, false, false, false, false, false, false, false, false] rfl rfl (by kernel_rfl) (by first | exact fun _ _ _ h => h | exact fun _ _ _ h => hP _ _ _ _ _ h) (Or.inl ⟨by rfl, fun w' _ => by go_simp⟩) hS ?_ ?_
  rotate_left
  · simp only [Act.put, List.setIfInBounds_toArray, List.set_cons_zero, List.set_cons_succ]
    rfl
  refine take_ (i := 7) (N := some 166) (a' := ?_) (v := .pointer (some ⟨b8, 1, none⟩)) #[true, true, true, true, true, true, true, true, false, false, false, false, false, false, false] rfl rfl (by kernel_rfl) (by first | exact fun _ _ _ h => h | exact fun _ _ _ h => hP _ _ _ _ _ h) (Or.inl ⟨by rfl, fun w' _ => by go_simp⟩) hS ?_ ?_
  rotate_left
  · simp only [Act.put, List.setIfInBounds_toArray, List.set_cons_zero, List.set_cons_succ]
    rfl
  refine take_ (i := 8) (N := some 167) (a' := ?_) (v := .int .i64 c0.col) #[true, true, true, true, true, true, true, true, true, false, false, false, false, false, false] rfl rfl (by kernel_rfl) (by first | exact fun _ _ _ h => h | exact fun _ _ _ h => hP _ _ _ _ _ h) (y_load rfl rfl rfl (.tail _ (.head _)) rfl Tryz.underlying3 rfl) hS ?_ ?_
  rotate_left
  · simp only [Act.put, List.setIfInBounds_toArray, List.set_cons_zero, List.set_cons_succ]
    rfl
  refine take_ (i := 9) (N := some 168) (a' := ?_) (v := .int .i64 n) #[true, true, true, true, true, true, true, true, true, true, false, false, false, false, false] rfl rfl (by kernel_rfl) (by first | exact fun _ _ _ h => h | exact fun _ _ _ h => hP _ _ _ _ _ h) (Or.inl ⟨by rfl, fun w' _ => by go_simp⟩) hS ?_ ?_
  rotate_left
  · simp only [Act.put, List.setIfInBounds_toArray, List.set_cons_zero, List.set_cons_succ]
    rfl
  refine take_ (i := 10) (N := some 169) (a' := ?_) (v := .agg (attrL a).toArray) #[true, true, true, true, true, true, true, true, true, true, true, false, false, false, false] rfl rfl (by kernel_rfl) (by first | exact fun _ _ _ h => h | exact fun _ _ _ h => hP _ _ _ _ _ h) (y_loadS rfl rfl rfl (.head _) rfl Tryz.underlying33 rfl (by kernel_rfl)) hS ?_ ?_
  rotate_left
  · simp only [Act.put, List.setIfInBounds_toArray, List.set_cons_zero, List.set_cons_succ]
    rfl
  have hB : Below wr.heap.size wr wr.drew := (Below.refl _ _).drew
  refine one_ (i := 11) (N := some 170) #[true, true, true, true, true, true, true, true, true, true, true, true, false, false, false] rfl rfl (by kernel_rfl) (by decide) (fun K hK => ?_)
  refine goes_ Tryz.func45 (by kernel_rfl) rfl #[v15, .int .i64 c0.col, .int .i64 n, .agg (attrL a).toArray] (by rfl) rfl rfl (by simp only [List.map_toArray, List.map_cons, List.map_nil]; rfl) ?_
  refine (HC1.out _ hB).mono ?_
  rintro e w4 ⟨v0_, rfl, hO1, hB1⟩
  have hB0 := hB.trans (hB1.mono hB.size)
  clear hB
  have hB := hB0
  clear hB0
  refine ⟨_, rfl, hK.out _ _ (hS.call hB1) (fun hS2 => ?_)⟩
  clear hK K hS
  have hS := hS2
  clear hS2
  refine norm_ (a' := ?_) ?_ ?_
  rotate_left
  · simp only [Act.put, List.setIfInBounds_toArray, List.set_cons_zero, List.set_cons_succ]
    rfl
  refine one_ (i := 12) (N := some 171) #[true, true, true, true, true, true, true, true, true, true, true, true, true, false, false] rfl rfl (by kernel_rfl) (by decide) (fun K hK => ?_)
  refine goes_ Tryz.func42 (by kernel_rfl) rfl #[.agg (gridL r c V).toArray, .int .i64 c0.row, v0_] (by rfl) rfl rfl (by simp only [List.map_toArray, List.map_cons, List.map_nil]; rfl) ?_
  refine (HC2.out _ _ hB hO1.rd).mono ?_
  rintro e w5 ⟨v1_, rfl, hO2, hB2⟩
  obtain ⟨A2, k2, rfl⟩ := hO2.slice
  have hBs := hB.size
  have hB0 := hB.trans (hB2.mono hB.size)
  clear hB
  have hB := hB0
  clear hB0
  refine ⟨_, rfl, hK.out _ _ (hS.call hB2) (fun hS2 => ?_)⟩
  clear hK K hS
  have hS := hS2
  clear hS2
  refine norm_ (a' := ?_) ?_ ?_
  rotate_left
  · simp only [Act.put, List.setIfInBounds_toArray, List.set_cons_zero, List.set_cons_succ]
    rfl
  refine take_ (i := 13) (N := some 172) (a' := ?_) (v := .pointer (some ⟨b3, q, none⟩)) #[true, true, true, true, true, true, true, true, true, true, true, true, true, true, false] rfl rfl (by kernel_rfl) (by first | exact fun _ _ _ h => h | exact fun _ _ _ h => hP _ _ _ _ _ h) (Or.inl ⟨by rfl, fun w' _ => by go_simp⟩) hS ?_ ?_
  rotate_left
  · simp only [Act.put, List.setIfInBounds_toArray, List.set_cons_zero, List.set_cons_succ]
    rfl
  refine last_ (i := 14) (N := none) #[true, true, true, true, true, true, true, true, true, true, true, true, true, true, true] rfl rfl (by kernel_rfl) (by decide) (fun K hK => ?_)
  refine y_storeE hS rfl rfl rfl rfl 3 rfl (cs := gridL r c (.slice A2 _ k2)) rfl _ rfl (by simpa [gridL] using hq) (by kernel_rfl) rfl (fun w9 hM9 hg9 => hK.out _ _ ?_)
  clear hK K
  refine done_ (by kernel_rfl) ?_
  exact hQ w9 _ _ _ _ _ _ _ _ _ _ _ _ _ _ _ _ _ hM9 ⟨_, hB, hS, hO2.lower hBs, hg9⟩
set_option maxRecDepth 100000 in
set_option maxHeartbeats 4000000 in
theorem xreg35_is {w wr : World} {b3 b6 b8 b9 q r c : Nat} {a : Attr} {c0 : Cur} {l : List Value} {V : Value} {M' : List Cell} {L1 : List Cell} {n : Int} {v15 : Value} {Q : Exit → Act → World → Prop} (hM : Mem w wr [(b9, Row 33 (attrL a)), (b8, Row 35 (curL c0)), (b6, Row 38 zL), (b3, Row 38 l)]) (hg : (l.drop q).take (gridL r c V).length = gridL r c V) (hq : q + 3 ≤ l.length)
    (hc1 : ∀ W, Below wr.heap.size wr W → Calls Tryz.prog 46 #[v15, .int .i64 c0.col, .int .i64 n, .agg (attrL a).toArray] W fun e w' => ∃ v', e = .returned v' ∧ OwnC w' W.heap.size v' L1 ∧ Below W.heap.size W w')
    (hc2 : ∀ W v, Below wr.heap.size wr W → RdC W v L1 → Calls Tryz.prog 42 #[.agg (gridL r c V).toArray, .int .i64 c0.row, v] W fun e w' => ∃ v', e = .returned (.agg (gridL r c v').toArray) ∧ OwnC w' W.heap.size v' M' ∧ Below W.heap.size W w')
    (hP : ∀ c a (d : Tmp) v w, Q (.panic c) (Act.put a (some d) v) w → Q (.panic c) a w) (u0 u1 u4 u5 u6 u10 u11 u12 u13 u14 u16 u17 u18 u19 u20 u21 u22 u23 u24 u25 u26 u27 u28 u29 u30 u31 u32 u33 u34 u35 u36 u37 u38 u39 u40 u41 u42 u43 u44 u45 u46 u47 u48 u49 u50 u51 u52 u53 u54 u55 u56 u57 u58 u59 u60 u61 u62 u63 u64 u65 u66 u67 u68 u69 u70 u71 u72 u73 u74 u75 u76 u77 u78 u79 u80 u81 u82 u83 u84 u85 u86 u87 u88 u89 u90 u91 u92 u93 u94 u95 u96 u97 u98 u99 u100 u101 u102 u103 u104 u105 u106 u107 u108 u109 u110 u111 u112 u113 u114 u115 u116 u117 u118 u119 u120 u121 u122 u123 u124 u125 u126 u127 u128 u129 u130 u131 u132 u133 u134 u135 u136 u137 u138 u139 u140 u141 u142 u143 u144 u145 u146 u147 u148 u149 u150 u151 u152 u153 u154 u155 u156 u157 u158 u159 u160 u161 u162 u163 u164 u165 u166 u167 u168 u169 u170 u171 u172 u173 u174 u175 u176 u177 u178 u179 u180 u181 u182 u183 u184 u185 u186 u187 u188 u189 u190 u191 u192 u193 u194 u195 u196 u197 u198 u199 u200 u201 u202 u203 u204 u205 u206 u207 u208 u209 u210 u211 u212 u213 u214 u215 u216 u217 u218 u219 u220 u221 u222 u223 u224 u225 u226 u227 u228 u229 u230 u231 u232 u233 u234 u235 u236 u237 u238 u239 u240 u241 u242 : Value)
    (hQ : ∀ w' A2 n2 k2 (v175 v176 v177 v178 v179 v180 v181 v182 v183 v184 v185 v186 v187 v188 : Value), Mem w w' [(b9, Row 33 (attrL a)), (b8, Row 35 (curL c0)), (b6, Row 38 zL), (b3, Row 38 (Mem.putL l q (gridL r c (.slice A2 n2 k2))))] → Upd w wr [(b9, Row 33 (attrL a)), (b8, Row 35 (curL c0)), (b6, Row 38 zL), (b3, Row 38 l)] b3 (.slice A2 n2 k2) M' w' → Q .normal ⟨#[u0, u1, .int .i64 n, .pointer (some ⟨b3, 0, none⟩), u4, u5, u6, .pointer (some ⟨b3, q, none⟩), .pointer (some ⟨b8, 0, none⟩), .pointer (some ⟨b9, 0, none⟩), u10, u11, u12, u13, u14, v15, u16, u17, u18, u19, u20, u21, u22, u23, u24, u25, u26, u27, u28, u29, u30, u31, u32, u33, u34, u35, u36, u37, u38, u39, u40, u41, u42, u43, u44, u45, u46, u47, u48, u49, u50, u51, u52, u53, u54, u55, u56, u57, u58, u59, u60, u61, u62, u63, u64, u65, u66, u67, u68, u69, u70, u71, u72, u73, u74, u75, u76, u77, u78, u79, u80, u81, u82, u83, u84, u85, u86, u87, u88, u89, u90, u91, u92, u93, u94, u95, u96, u97, u98, u99, u100, u101, u102, u103, u104, u105, u106, u107, u108, u109, u110, u111, u112, u113, u114, u115, u116, u117, u118, u119, u120, u121, u122, u123, u124, u125, u126, u127, u128, u129, u130, u131, u132, u133, u134, u135, u136, u137, u138, u139, u140, u141, u142, u143, u144, u145, u146, u147, u148, u149, u150, u151, u152, u153, u154, u155, u156, u157, u158, u159, u160, u161, u162, u163, u164, u165, u166, u167, u168, u169, u170, u171, u172, u173, u174, v175, v176, v177, v178, v179, v180, v181, v182, v183, v184, v185, v186, v187, v188, u189, u190, u191, u192, u193, u194, u195, u196, u197, u198, u199, u200, u201, u202, u203, u204, u205, u206, u207, u208, u209, u210, u211, u212, u213, u214, u215, u216, u217, u218, u219, u220, u221, u222, u223, u224, u225, u226, u227, u228, u229, u230, u231, u232, u233, u234, u235, u236, u237, u238, u239, u240, u241, u242], []⟩ w') :
    Code.wp Tryz.prog (xreg 35) Q ⟨#[u0, u1, .int .i64 n, .pointer (some ⟨b3, 0, none⟩), u4, u5, u6, .pointer (some ⟨b3, q, none⟩), .pointer (some ⟨b8, 0, none⟩), .pointer (some ⟨b9, 0, none⟩), u10, u11, u12, u13, u14, v15, u16, u17, u18, u19, u20, u21, u22, u23, u24, u25, u26, u27, u28, u29, u30, u31, u32, u33, u34, u35, u36, u37, u38, u39, u40, u41, u42, u43, u44, u45, u46, u47, u48, u49, u50, u51, u52, u53, u54, u55, u56, u57, u58, u59, u60, u61, u62, u63, u64, u65, u66, u67, u68, u69, u70, u71, u72, u73, u74, u75, u76, u77, u78, u79, u80, u81, u82, u83, u84, u85, u86, u87, u88, u89, u90, u91, u92, u93, u94, u95, u96, u97, u98, u99, u100, u101, u102, u103, u104, u105, u106, u107, u108, u109, u110, u111, u112, u113, u114, u115, u116, u117, u118, u119, u120, u121, u122, u123, u124, u125, u126, u127, u128, u129, u130, u131, u132, u133, u134, u135, u136, u137, u138, u139, u140, u141, u142, u143, u144, u145, u146, u147, u148, u149, u150, u151, u152, u153, u154, u155, u156, u157, u158, u159, u160, u161, u162, u163, u164, u165, u166, u167, u168, u169, u170, u171, u172, u173, u174, u175, u176, u177, u178, u179, u180, u181, u182, u183, u184, u185, u186, u187, u188, u189, u190, u191, u192, u193, u194, u195, u196, u197, u198, u199, u200, u201, u202, u203, u204, u205, u206, u207, u208, u209, u210, u211, u212, u213, u214, u215, u216, u217, u218, u219, u220, u221, u222, u223, u224, u225, u226, u227, u228, u229, u230, u231, u232, u233, u234, u235, u236, u237, u238, u239, u240, u241, u242], []⟩ wr := by
  have HM := hid hM
  have HGR := hid hg
  have HC1 := hid hc1
  have HC2 := hid hc2
  clear hM hg hc1 hc2
  conv => arg 2; whnf
  conv => arg 4; zeta
  refine start_ (n := 15) (S := fun W => Mem w W [(b9, Row 33 (attrL a)), (b8, Row 35 (curL c0)), (b6, Row 38 zL), (b3, Row 38 l)]) (ds := [14]) #[false, false, false, false, false, false, false, false, false, false, false, false, false, false, false] (by kernel_rfl) rfl rfl HM.out.drew (fun hS => ?_)
  refine take_ (i := 0) (N := some 175) (a' := ?_) (v := .pointer (some ⟨b3, q, none⟩)) #[true, false, false, false, false, false, false, false, false, false, false, false, false, false, false] rfl rfl (by kernel_rfl) (by first | exact fun _ _ _ h => h | exact fun _ _ _ h => hP _ _ _ _ _ h) (Or.inl ⟨by rfl, fun w' _ => by go_simp⟩) hS ?_ ?_
  rotate_left
  · simp only [Act.put, List.setIfInBounds_toArray, List.set_cons_zero, List.set_cons_succ]
    rfl
  refine take_ (i := 1) (N := some 176) (a' := ?_) (v := .pointer (some ⟨b3, q, none⟩)) #[true, true, false, false, false, false, false, false, false, false, false, false, false, false, false] rfl rfl (by kernel_rfl) (by first | exact fun _ _ _ h => h | exact fun _ _ _ h => hP _ _ _ _ _ h) (Or.inl ⟨by rfl, fun w' _ => by go_simp⟩) hS ?_ ?_
  rotate_left
  · simp only [Act.put, List.setIfInBounds_toArray, List.set_cons_zero, List.set_cons_succ]
    rfl
  refine take_ (i := 2) (N := some 177) (a' := ?_) (v := .pointer (some ⟨b3, q, none⟩)) #[true, true, true, false, false, false, false, false, false, false, false, false, false, false, false] rfl rfl (by kernel_rfl) (by first | exact fun _ _ _ h => h | exact fun _ _ _ h => hP _ _ _ _ _ h) (Or.inl ⟨by rfl, fun w' _ => by go_simp⟩) hS ?_ ?_
  rotate_left
  · simp only [Act.put, List.setIfInBounds_toArray, List.set_cons_zero, List.set_cons_succ]
    rfl
  refine take_ (i := 3) (N := some 178) (a' := ?_) (v := .agg (gridL r c V).toArray) #[true, true, true, true, false, false, false, false, false, false, false, false, false, false, false] rfl rfl (by kernel_rfl) (by first | exact fun _ _ _ h => h | exact fun _ _ _ h => hP _ _ _ _ _ h) (y_loadS rfl rfl rfl (.tail _ (.tail _ (.tail _ (.head _)))) HGR.out Tryz.underlying31 rfl (by kernel_rfl)) hS ?_ ?_
  rotate_left
  · simp only [Act.put, List.setIfInBounds_toArray, List.set_cons_zero, List.set_cons_succ]
    rfl
  refine take_ (i := 4) (N := some 179) (a' := ?_) (v := .pointer (some ⟨b8, 0, none⟩)) #[true, true, true, true, true, false, false, false, false, false, false, false, false, false, false] rfl rfl (by kernel_rfl) (by first | exact fun _ _ _ h => h | exact fun _ _ _ h => hP _ _ _ _ _ h) (Or.inl ⟨by rfl, fun w' _ => by go_simp⟩) hS ?_ ?_
  rotate_left
  · simp only [Act.put, List.setIfInBounds_toArray, List.set_cons_zero, List.set_cons_succ]
    rfl
  refine take_ (i := 5) (N := some 180) (a' := ?_) (v := .int .i64 c0.row) #[true, true, true, true, true, true, false, false, false, false, false, false, false, false, false] rfl rfl (by kernel_rfl) (by first | exact fun _ _ _ h => h | exact fun _ _ _ h => hP _ _ _ _ _ h) (y_load rfl rfl rfl (.tail _ (.head _)) rfl Tryz.underlying3 rfl) hS ?_ ?_
  rotate_left
  · simp only [Act.put, List.setIfInBounds_toArray, List.set_cons_zero, List.set_cons_succ]
    rfl
  refine take_ (i := 6) (N := some 181) (a' := ?_) (v := v15) #[true, true, true, true, true, true, true, false, false, false, false, false, false, false, false] rfl rfl (by kernel_rfl) (by first | exact fun _ _ _ h => h | exact fun _ _ _ h => hP _ _ _ _ _ h) (Or.inl ⟨by rfl, fun w' _ => by go_simp⟩) hS ?_ ?_
  rotate_left
  · simp only [Act.put, List.setIfInBounds_toArray, List.set_cons_zero, List.set_cons_succ]
    rfl
  refine take_ (i := 7) (N := some 182) (a' := ?_) (v := .pointer (some ⟨b8, 1, none⟩)) #[true, true, true, true, true, true, true, true, false, false, false, false, false, false, false] rfl rfl (by kernel_rfl) (by first | exact fun _ _ _ h => h | exact fun _ _ _ h => hP _ _ _ _ _ h) (Or.inl ⟨by rfl, fun w' _ => by go_simp⟩) hS ?_ ?_
  rotate_left
  · simp only [Act.put, List.setIfInBounds_toArray, List.set_cons_zero, List.set_cons_succ]
    rfl
  refine take_ (i := 8) (N := some 183) (a' := ?_) (v := .int .i64 c0.col) #[true, true, true, true, true, true, true, true, true, false, false, false, false, false, false] rfl rfl (by kernel_rfl) (by first | exact fun _ _ _ h => h | exact fun _ _ _ h => hP _ _ _ _ _ h) (y_load rfl rfl rfl (.tail _ (.head _)) rfl Tryz.underlying3 rfl) hS ?_ ?_
  rotate_left
  · simp only [Act.put, List.setIfInBounds_toArray, List.set_cons_zero, List.set_cons_succ]
    rfl
  refine take_ (i := 9) (N := some 184) (a' := ?_) (v := .int .i64 n) #[true, true, true, true, true, true, true, true, true, true, false, false, false, false, false] rfl rfl (by kernel_rfl) (by first | exact fun _ _ _ h => h | exact fun _ _ _ h => hP _ _ _ _ _ h) (Or.inl ⟨by rfl, fun w' _ => by go_simp⟩) hS ?_ ?_
  rotate_left
  · simp only [Act.put, List.setIfInBounds_toArray, List.set_cons_zero, List.set_cons_succ]
    rfl
  refine take_ (i := 10) (N := some 185) (a' := ?_) (v := .agg (attrL a).toArray) #[true, true, true, true, true, true, true, true, true, true, true, false, false, false, false] rfl rfl (by kernel_rfl) (by first | exact fun _ _ _ h => h | exact fun _ _ _ h => hP _ _ _ _ _ h) (y_loadS rfl rfl rfl (.head _) rfl Tryz.underlying33 rfl (by kernel_rfl)) hS ?_ ?_
  rotate_left
  · simp only [Act.put, List.setIfInBounds_toArray, List.set_cons_zero, List.set_cons_succ]
    rfl
  have hB : Below wr.heap.size wr wr.drew := (Below.refl _ _).drew
  refine one_ (i := 11) (N := some 186) #[true, true, true, true, true, true, true, true, true, true, true, true, false, false, false] rfl rfl (by kernel_rfl) (by decide) (fun K hK => ?_)
  refine goes_ Tryz.func46 (by kernel_rfl) rfl #[v15, .int .i64 c0.col, .int .i64 n, .agg (attrL a).toArray] (by rfl) rfl rfl (by simp only [List.map_toArray, List.map_cons, List.map_nil]; rfl) ?_
  refine (HC1.out _ hB).mono ?_
  rintro e w4 ⟨v0_, rfl, hO1, hB1⟩
  have hB0 := hB.trans (hB1.mono hB.size)
  clear hB
  have hB := hB0
  clear hB0
  refine ⟨_, rfl, hK.out _ _ (hS.call hB1) (fun hS2 => ?_)⟩
  clear hK K hS
  have hS := hS2
  clear hS2
  refine norm_ (a' := ?_) ?_ ?_
  rotate_left
  · simp only [Act.put, List.setIfInBounds_toArray, List.set_cons_zero, List.set_cons_succ]
    rfl
  refine one_ (i := 12) (N := some 187) #[true, true, true, true, true, true, true, true, true, true, true, true, true, false, false] rfl rfl (by kernel_rfl) (by decide) (fun K hK => ?_)
  refine goes_ Tryz.func42 (by kernel_rfl) rfl #[.agg (gridL r c V).toArray, .int .i64 c0.row, v0_] (by rfl) rfl rfl (by simp only [List.map_toArray, List.map_cons, List.map_nil]; rfl) ?_
  refine (HC2.out _ _ hB hO1.rd).mono ?_
  rintro e w5 ⟨v1_, rfl, hO2, hB2⟩
  obtain ⟨A2, k2, rfl⟩ := hO2.slice
  have hBs := hB.size
  have hB0 := hB.trans (hB2.mono hB.size)
  clear hB
  have hB := hB0
  clear hB0
  refine ⟨_, rfl, hK.out _ _ (hS.call hB2) (fun hS2 => ?_)⟩
  clear hK K hS
  have hS := hS2
  clear hS2
  refine norm_ (a' := ?_) ?_ ?_
  rotate_left
  · simp only [Act.put, List.setIfInBounds_toArray, List.set_cons_zero, List.set_cons_succ]
    rfl
  refine take_ (i := 13) (N := some 188) (a' := ?_) (v := .pointer (some ⟨b3, q, none⟩)) #[true, true, true, true, true, true, true, true, true, true, true, true, true, true, false] rfl rfl (by kernel_rfl) (by first | exact fun _ _ _ h => h | exact fun _ _ _ h => hP _ _ _ _ _ h) (Or.inl ⟨by rfl, fun w' _ => by go_simp⟩) hS ?_ ?_
  rotate_left
  · simp only [Act.put, List.setIfInBounds_toArray, List.set_cons_zero, List.set_cons_succ]
    rfl
  refine last_ (i := 14) (N := none) #[true, true, true, true, true, true, true, true, true, true, true, true, true, true, true] rfl rfl (by kernel_rfl) (by decide) (fun K hK => ?_)
  refine y_storeE hS rfl rfl rfl rfl 3 rfl (cs := gridL r c (.slice A2 _ k2)) rfl _ rfl (by simpa [gridL] using hq) (by kernel_rfl) rfl (fun w9 hM9 hg9 => hK.out _ _ ?_)
  clear hK K
  refine done_ (by kernel_rfl) ?_
  exact hQ w9 _ _ _ _ _ _ _ _ _ _ _ _ _ _ _ _ _ hM9 ⟨_, hB, hS, hO2.lower hBs, hg9⟩
set_option maxRecDepth 100000 in
set_option maxHeartbeats 4000000 in
theorem xreg42_is {w wr : World} {b3 b6 b8 b9 q r c : Nat} {a : Attr} {c0 : Cur} {l : List Value} {V : Value} {M' : List Cell} {n bot : Int} {Q : Exit → Act → World → Prop} (hM : Mem w wr [(b9, Row 33 (attrL a)), (b8, Row 35 (curL c0)), (b6, Row 38 zL), (b3, Row 38 l)]) (hg : (l.drop q).take (gridL r c V).length = gridL r c V) (hq : q + 3 ≤ l.length)
    (hv1 : l[38]? = some (.int .i64 bot))
    (hc1 : ∀ W, Below wr.heap.size wr W → Calls Tryz.prog 47 #[.agg (gridL r c V).toArray, .int .i64 c0.row, .int .i64 bot, .int .i64 n, .agg (attrL a).toArray] W fun e w' => ∃ v', e = .returned (.agg (gridL r c v').toArray) ∧ OwnC w' W.heap.size v' M' ∧ Below W.heap.size W w')
    (hP : ∀ c a (d : Tmp) v w, Q (.panic c) (Act.put a (some d) v) w → Q (.panic c) a w) (u0 u1 u4 u5 u6 u10 u11 u12 u13 u14 u15 u16 u17 u18 u19 u20 u21 u22 u23 u24 u25 u26 u27 u28 u29 u30 u31 u32 u33 u34 u35 u36 u37 u38 u39 u40 u41 u42 u43 u44 u45 u46 u47 u48 u49 u50 u51 u52 u53 u54 u55 u56 u57 u58 u59 u60 u61 u62 u63 u64 u65 u66 u67 u68 u69 u70 u71 u72 u73 u74 u75 u76 u77 u78 u79 u80 u81 u82 u83 u84 u85 u86 u87 u88 u89 u90 u91 u92 u93 u94 u95 u96 u97 u98 u99 u100 u101 u102 u103 u104 u105 u106 u107 u108 u109 u110 u111 u112 u113 u114 u115 u116 u117 u118 u119 u120 u121 u122 u123 u124 u125 u126 u127 u128 u129 u130 u131 u132 u133 u134 u135 u136 u137 u138 u139 u140 u141 u142 u143 u144 u145 u146 u147 u148 u149 u150 u151 u152 u153 u154 u155 u156 u157 u158 u159 u160 u161 u162 u163 u164 u165 u166 u167 u168 u169 u170 u171 u172 u173 u174 u175 u176 u177 u178 u179 u180 u181 u182 u183 u184 u185 u186 u187 u188 u189 u190 u191 u192 u193 u194 u195 u196 u197 u198 u199 u200 u201 u202 u203 u204 u205 u206 u207 u208 u209 u210 u211 u212 u213 u214 u215 u216 u217 u218 u219 u220 u221 u222 u223 u224 u225 u226 u227 u228 u229 u230 u231 u232 u233 u234 u235 u236 u237 u238 u239 u240 u241 u242 : Value)
    (hQ : ∀ w' A2 n2 k2 (v199 v200 v201 v202 v203 v204 v205 v206 v207 v208 v209 v210 : Value), Mem w w' [(b9, Row 33 (attrL a)), (b8, Row 35 (curL c0)), (b6, Row 38 zL), (b3, Row 38 (Mem.putL l q (gridL r c (.slice A2 n2 k2))))] → Upd w wr [(b9, Row 33 (attrL a)), (b8, Row 35 (curL c0)), (b6, Row 38 zL), (b3, Row 38 l)] b3 (.slice A2 n2 k2) M' w' → Q .normal ⟨#[u0, u1, .int .i64 n, .pointer (some ⟨b3, 0, none⟩), u4, u5, u6, .pointer (some ⟨b3, q, none⟩), .pointer (some ⟨b8, 0, none⟩), .pointer (some ⟨b9, 0, none⟩), u10, u11, u12, u13, u14, u15, u16, u17, u18, u19, u20, u21, u22, u23, u24, u25, u26, u27, u28, u29, u30, u31, u32, u33, u34, u35, u36, u37, u38, u39, u40, u41, u42, u43, u44, u45, u46, u47, u48, u49, u50, u51, u52, u53, u54, u55, u56, u57, u58, u59, u60, u61, u62, u63, u64, u65, u66, u67, u68, u69, u70, u71, u72, u73, u74, u75, u76, u77, u78, u79, u80, u81, u82, u83, u84, u85, u86, u87, u88, u89, u90, u91, u92, u93, u94, u95, u96, u97, u98, u99, u100, u101, u102, u103, u104, u105, u106, u107, u108, u109, u110, u111, u112, u113, u114, u115, u116, u117, u118, u119, u120, u121, u122, u123, u124, u125, u126, u127, u128, u129, u130, u131, u132, u133, u134, u135, u136, u137, u138, u139, u140, u141, u142, u143, u144, u145, u146, u147, u148, u149, u150, u151, u152, u153, u154, u155, u156, u157, u158, u159, u160, u161, u162, u163, u164, u165, u166, u167, u168, u169, u170, u171, u172, u173, u174, u175, u176, u177, u178, u179, u180, u181, u182, u183, u184, u185, u186, u187, u188, u189, u190, u191, u192, u193, u194, u195, u196, u197, u198, v199, v200, v201, v202, v203, v204, v205, v206, v207, v208, v209, v210, u211, u212, u213, u214, u215, u216, u217, u218, u219, u220, u221, u222, u223, u224, u225, u226, u227, u228, u229, u230, u231, u232, u233, u234, u235, u236, u237, u238, u239, u240, u241, u242], []⟩ w') :
    Code.wp Tryz.prog (xreg 42) Q ⟨#[u0, u1, .int .i64 n, .pointer (some ⟨b3, 0, none⟩), u4, u5, u6, .pointer (some ⟨b3, q, none⟩), .pointer (some ⟨b8, 0, none⟩), .pointer (some ⟨b9, 0, none⟩), u10, u11, u12, u13, u14, u15, u16, u17, u18, u19, u20, u21, u22, u23, u24, u25, u26, u27, u28, u29, u30, u31, u32, u33, u34, u35, u36, u37, u38, u39, u40, u41, u42, u43, u44, u45, u46, u47, u48, u49, u50, u51, u52, u53, u54, u55, u56, u57, u58, u59, u60, u61, u62, u63, u64, u65, u66, u67, u68, u69, u70, u71, u72, u73, u74, u75, u76, u77, u78, u79, u80, u81, u82, u83, u84, u85, u86, u87, u88, u89, u90, u91, u92, u93, u94, u95, u96, u97, u98, u99, u100, u101, u102, u103, u104, u105, u106, u107, u108, u109, u110, u111, u112, u113, u114, u115, u116, u117, u118, u119, u120, u121, u122, u123, u124, u125, u126, u127, u128, u129, u130, u131, u132, u133, u134, u135, u136, u137, u138, u139, u140, u141, u142, u143, u144, u145, u146, u147, u148, u149, u150, u151, u152, u153, u154, u155, u156, u157, u158, u159, u160, u161, u162, u163, u164, u165, u166, u167, u168, u169, u170, u171, u172, u173, u174, u175, u176, u177, u178, u179, u180, u181, u182, u183, u184, u185, u186, u187, u188, u189, u190, u191, u192, u193, u194, u195, u196, u197, u198, u199, u200, u201, u202, u203, u204, u205, u206, u207, u208, u209, u210, u211, u212, u213, u214, u215, u216, u217, u218, u219, u220, u221, u222, u223, u224, u225, u226, u227, u228, u229, u230, u231, u232, u233, u234, u235, u236, u237, u238, u239, u240, u241, u242], []⟩ wr := by
  have HM := hid hM
  have HGR := hid hg
  have HV1 := hid hv1
  have HC1 := hid hc1
  clear hM hg hv1 hc1
  conv => arg 2; whnf
  conv => arg 4; zeta
  refine start_ (n := 13) (S := fun W => Mem w W [(b9, Row 33 (attrL a)), (b8, Row 35 (curL c0)), (b6, Row 38 zL), (b3, Row 38 l)]) (ds := [12]) #[false, false, false, false, false, false, false, false, false, false, false, false, false] (by kernel_rfl) rfl rfl HM.out.drew (fun hS => ?_)
  refine take_ (i := 0) (N := some 199) (a' := ?_) (v := .pointer (some ⟨b3, q, none⟩)) #[true, false, false, false, false, false, false, false, false, false, false, false, false] rfl rfl (by kernel_rfl) (by first | exact fun _ _ _ h => h | exact fun _ _ _ h => hP _ _ _ _ _ h) (Or.inl ⟨by rfl, fun w' _ => by go_simp⟩) hS ?_ ?_
  rotate_left
  · simp only [Act.put, List.setIfInBounds_toArray, List.set_cons_zero, List.set_cons_succ]
    rfl
  refine take_ (i := 1) (N := some 200) (a' := ?_) (v := .pointer (some ⟨b3, q, none⟩)) #[true, true, false, false, false, false, false, false, false, false, false, false, false] rfl rfl (by kernel_rfl) (by first | exact fun _ _ _ h => h | exact fun _ _ _ h => hP _ _ _ _ _ h) (Or.inl ⟨by rfl, fun w' _ => by go_simp⟩) hS ?_ ?_
  rotate_left
  · simp only [Act.put, List.setIfInBounds_toArray, List.set_cons_zero, List.set_cons_succ]
    rfl
  refine take_ (i := 2) (N := some 201) (a' := ?_) (v := .pointer (some ⟨b3, q, none⟩)) #[true, true, true, false, false, false, false, false, false, false, false, false, false] rfl rfl (by kernel_rfl) (by first | exact fun _ _ _ h => h | exact fun _ _ _ h => hP _ _ _ _ _ h) (Or.inl ⟨by rfl, fun w' _ => by go_simp⟩) hS ?_ ?_
  rotate_left
  · simp only [Act.put, List.setIfInBounds_toArray, List.set_cons_zero, List.set_cons_succ]
    rfl
  refine take_ (i := 3) (N := some 202) (a' := ?_) (v := .agg (gridL r c V).toArray) #[true, true, true, true, false, false, false, false, false, false, false, false, false] rfl rfl (by kernel_rfl) (by first | exact fun _ _ _ h => h | exact fun _ _ _ h => hP _ _ _ _ _ h) (y_loadS rfl rfl rfl (.tail _ (.tail _ (.tail _ (.head _)))) HGR.out Tryz.underlying31 rfl (by kernel_rfl)) hS ?_ ?_
  rotate_left
  · simp only [Act.put, List.setIfInBounds_toArray, List.set_cons_zero, List.set_cons_succ]
    rfl
  refine take_ (i := 4) (N := some 203) (a' := ?_) (v := .pointer (some ⟨b8, 0, none⟩)) #[true, true, true, true, true, false, false, false, false, false, false, false, false] rfl rfl (by kernel_rfl) (by first | exact fun _ _ _ h => h | exact fun _ _ _ h => hP _ _ _ _ _ h) (Or.inl ⟨by rfl, fun w' _ => by go_simp⟩) hS ?_ ?_
  rotate_left
  · simp only [Act.put, List.setIfInBounds_toArray, List.set_cons_zero, List.set_cons_succ]
    rfl
  refine take_ (i := 5) (N := some 204) (a' := ?_) (v := .int .i64 c0.row) #[true, true, true, true, true, true, false, false, false, false, false, false, false] rfl rfl (by kernel_rfl) (by first | exact fun _ _ _ h => h | exact fun _ _ _ h => hP _ _ _ _ _ h) (y_load rfl rfl rfl (.tail _ (.head _)) rfl Tryz.underlying3 rfl) hS ?_ ?_
  rotate_left
  · simp only [Act.put, List.setIfInBounds_toArray, List.set_cons_zero, List.set_cons_succ]
    rfl
  refine take_ (i := 6) (N := some 205) (a' := ?_) (v := .pointer (some ⟨b3, 38, none⟩)) #[true, true, true, true, true, true, true, false, false, false, false, false, false] rfl rfl (by kernel_rfl) (by first | exact fun _ _ _ h => h | exact fun _ _ _ h => hP _ _ _ _ _ h) (Or.inl ⟨by rfl, fun w' _ => by go_simp⟩) hS ?_ ?_
  rotate_left
  · simp only [Act.put, List.setIfInBounds_toArray, List.set_cons_zero, List.set_cons_succ]
    rfl
  refine take_ (i := 7) (N := some 206) (a' := ?_) (v := .int .i64 bot) #[true, true, true, true, true, true, true, true, false, false, false, false, false] rfl rfl (by kernel_rfl) (by first | exact fun _ _ _ h => h | exact fun _ _ _ h => hP _ _ _ _ _ h) (y_load rfl rfl rfl (.tail _ (.tail _ (.tail _ (.head _)))) HV1.out Tryz.underlying3 rfl) hS ?_ ?_
  rotate_left
  · simp only [Act.put, List.setIfInBounds_toArray, List.set_cons_zero, List.set_cons_succ]
    rfl
  refine take_ (i := 8) (N := some 207) (a' := ?_) (v := .int .i64 n) #[true, true, true, true, true, true, true, true, true, false, false, false, false] rfl rfl (by kernel_rfl) (by first | exact fun _ _ _ h => h | exact fun _ _ _ h => hP _ _ _ _ _ h) (Or.inl ⟨by rfl, fun w' _ => by go_simp⟩) hS ?_ ?_
  rotate_left
  · simp only [Act.put, List.setIfInBounds_toArray, List.set_cons_zero, List.set_cons_succ]
    rfl
  refine take_ (i := 9) (N := some 208) (a' := ?_) (v := .agg (attrL a).toArray) #[true, true, true, true, true, true, true, true, true, true, false, false, false] rfl rfl (by kernel_rfl) (by first | exact fun _ _ _ h => h | exact fun _ _ _ h => hP _ _ _ _ _ h) (y_loadS rfl rfl rfl (.head _) rfl Tryz.underlying33 rfl (by kernel_rfl)) hS ?_ ?_
  rotate_left
  · simp only [Act.put, List.setIfInBounds_toArray, List.set_cons_zero, List.set_cons_succ]
    rfl
  have hB : Below wr.heap.size wr wr.drew := (Below.refl _ _).drew
  refine one_ (i := 10) (N := some 209) #[true, true, true, true, true, true, true, true, true, true, true, false, false] rfl rfl (by kernel_rfl) (by decide) (fun K hK => ?_)
  refine goes_ Tryz.func47 (by kernel_rfl) rfl #[.agg (gridL r c V).toArray, .int .i64 c0.row, .int .i64 bot, .int .i64 n, .agg (attrL a).toArray] (by rfl) rfl rfl (by simp only [List.map_toArray, List.map_cons, List.map_nil]; rfl) ?_
  refine (HC1.out _ hB).mono ?_
  rintro e w4 ⟨v0_, rfl, hO1, hB1⟩
  obtain ⟨A2, k2, rfl⟩ := hO1.slice
  have hBs := hB.size
  have hB0 := hB.trans (hB1.mono hB.size)
  clear hB
  have hB := hB0
  clear hB0
  refine ⟨_, rfl, hK.out _ _ (hS.call hB1) (fun hS2 => ?_)⟩
  clear hK K hS
  have hS := hS2
  clear hS2
  refine norm_ (a' := ?_) ?_ ?_
  rotate_left
  · simp only [Act.put, List.setIfInBounds_toArray, List.set_cons_zero, List.set_cons_succ]
    rfl
  refine take_ (i := 11) (N := some 210) (a' := ?_) (v := .pointer (some ⟨b3, q, none⟩)) #[true, true, true, true, true, true, true, true, true, true, true, true, false] rfl rfl (by kernel_rfl) (by first | exact fun _ _ _ h => h | exact fun _ _ _ h => hP _ _ _ _ _ h) (Or.inl ⟨by rfl, fun w' _ => by go_simp⟩) hS ?_ ?_
  rotate_left
  · simp only [Act.put, List.setIfInBounds_toArray, List.set_cons_zero, List.set_cons_succ]
    rfl
  refine last_ (i := 12) (N := none) #[true, true, true, true, true, true, true, true, true, true, true, true, true] rfl rfl (by kernel_rfl) (by decide) (fun K hK => ?_)
  refine y_storeE hS rfl rfl rfl rfl 3 rfl (cs := gridL r c (.slice A2 _ k2)) rfl _ rfl (by simpa [gridL] using hq) (by kernel_rfl) rfl (fun w9 hM9 hg9 => hK.out _ _ ?_)
  clear hK K
  refine done_ (by kernel_rfl) ?_
  exact hQ w9 _ _ _ _ _ _ _ _ _ _ _ _ _ _ _ hM9 ⟨_, hB, hS, hO1.lower hBs, hg9⟩
set_option maxRecDepth 100000 in
set_option maxHeartbeats 4000000 in
theorem xreg45_is {w wr : World} {b3 b6 b8 b9 q r c : Nat} {a : Attr} {c0 : Cur} {l : List Value} {V : Value} {M' : List Cell} {n bot top : Int} {Q : Exit → Act → World → Prop} (hM : Mem w wr [(b9, Row 33 (attrL a)), (b8, Row 35 (curL c0)), (b6, Row 38 zL), (b3, Row 38 l)]) (hg : (l.drop q).take (gridL r c V).length = gridL r c V) (hq : q + 3 ≤ l.length)
    (hv1 : l[38]? = some (.int .i64 bot))
    (hv2 : l[37]? = some (.int .i64 top))
    (hc1 : ∀ W, Below wr.heap.size wr W → Calls Tryz.prog 47 #[.agg (gridL r c V).toArray, .int .i64 top, .int .i64 bot, .int .i64 n, .agg (attrL a).toArray] W fun e w' => ∃ v', e = .returned (.agg (gridL r c v').toArray) ∧ OwnC w' W.heap.size v' M' ∧ Below W.heap.size W w')
    (hP : ∀ c a (d : Tmp) v w, Q (.panic c) (Act.put a (some d) v) w → Q (.panic c) a w) (u0 u1 u4 u5 u6 u10 u11 u12 u13 u14 u15 u16 u17 u18 u19 u20 u21 u22 u23 u24 u25 u26 u27 u28 u29 u30 u31 u32 u33 u34 u35 u36 u37 u38 u39 u40 u41 u42 u43 u44 u45 u46 u47 u48 u49 u50 u51 u52 u53 u54 u55 u56 u57 u58 u59 u60 u61 u62 u63 u64 u65 u66 u67 u68 u69 u70 u71 u72 u73 u74 u75 u76 u77 u78 u79 u80 u81 u82 u83 u84 u85 u86 u87 u88 u89 u90 u91 u92 u93 u94 u95 u96 u97 u98 u99 u100 u101 u102 u103 u104 u105 u106 u107 u108 u109 u110 u111 u112 u113 u114 u115 u116 u117 u118 u119 u120 u121 u122 u123 u124 u125 u126 u127 u128 u129 u130 u131 u132 u133 u134 u135 u136 u137 u138 u139 u140 u141 u142 u143 u144 u145 u146 u147 u148 u149 u150 u151 u152 u153 u154 u155 u156 u157 u158 u159 u160 u161 u162 u163 u164 u165 u166 u167 u168 u169 u170 u171 u172 u173 u174 u175 u176 u177 u178 u179 u180 u181 u182 u183 u184 u185 u186 u187 u188 u189 u190 u191 u192 u193 u194 u195 u196 u197 u198 u199 u200 u201 u202 u203 u204 u205 u206 u207 u208 u209 u210 u211 u212 u213 u214 u215 u216 u217 u218 u219 u220 u221 u222 u223 u224 u225 u226 u227 u228 u229 u230 u231 u232 u233 u234 u235 u236 u237 u238 u239 u240 u241 u242 : Value)
    (hQ : ∀ w' A2 n2 k2 (v215 v216 v217 v218 v219 v220 v221 v222 v223 v224 v225 v226 : Value), Mem w w' [(b9, Row 33 (attrL a)), (b8, Row 35 (curL c0)), (b6, Row 38 zL), (b3, Row 38 (Mem.putL l q (gridL r c (.slice A2 n2 k2))))] → Upd w wr [(b9, Row 33 (attrL a)), (b8, Row 35 (curL c0)), (b6, Row 38 zL), (b3, Row 38 l)] b3 (.slice A2 n2 k2) M' w' → Q .normal ⟨#[u0, u1, .int .i64 n, .pointer (some ⟨b3, 0, none⟩), u4, u5, u6, .pointer (some ⟨b3, q, none⟩), .pointer (some ⟨b8, 0, none⟩), .pointer (some ⟨b9, 0, none⟩), u10, u11, u12, u13, u14, u15, u16, u17, u18, u19, u20, u21, u22, u23, u24, u25, u26, u27, u28, u29, u30, u31, u32, u33, u34, u35, u36, u37, u38, u39, u40, u41, u42, u43, u44, u45, u46, u47, u48, u49, u50, u51, u52, u53, u54, u55, u56, u57, u58, u59, u60, u61, u62, u63, u64, u65, u66, u67, u68, u69, u70, u71, u72, u73, u74, u75, u76, u77, u78, u79, u80, u81, u82, u83, u84, u85, u86, u87, u88, u89, u90, u91, u92, u93, u94, u95, u96, u97, u98, u99, u100, u101, u102, u103, u104, u105, u106, u107, u108, u109, u110, u111, u112, u113, u114, u115, u116, u117, u118, u119, u120, u121, u122, u123, u124, u125, u126, u127, u128, u129, u130, u131, u132, u133, u134, u135, u136, u137, u138, u139, u140, u141, u142, u143, u144, u145, u146, u147, u148, u149, u150, u151, u152, u153, u154, u155, u156, u157, u158, u159, u160, u161, u162, u163, u164, u165, u166, u167, u168, u169, u170, u171, u172, u173, u174, u175, u176, u177, u178, u179, u180, u181, u182, u183, u184, u185, u186, u187, u188, u189, u190, u191, u192, u193, u194, u195, u196, u197, u198, u199, u200, u201, u202, u203, u204, u205, u206, u207, u208, u209, u210, u211, u212, u213, u214, v215, v216, v217, v218, v219, v220, v221, v222, v223, v224, v225, v226, u227, u228, u229, u230, u231, u232, u233, u234, u235, u236, u237, u238, u239, u240, u241, u242], []⟩ w') :
    Code.wp Tryz.prog (xreg 45) Q ⟨#[u0, u1, .int .i64 n, .pointer (some ⟨b3, 0, none⟩), u4, u5, u6, .pointer (some ⟨b3, q, none⟩), .pointer (some ⟨b8, 0, none⟩), .pointer (some ⟨b9, 0, none⟩), u10, u11, u12, u13, u14, u15, u16, u17, u18, u19, u20, u21, u22, u23, u24, u25, u26, u27, u28, u29, u30, u31, u32, u33, u34, u35, u36, u37, u38, u39, u40, u41, u42, u43, u44, u45, u46, u47, u48, u49, u50, u51, u52, u53, u54, u55, u56, u57, u58, u59, u60, u61, u62, u63, u64, u65, u66, u67, u68, u69, u70, u71, u72, u73, u74, u75, u76, u77, u78, u79, u80, u81, u82, u83, u84, u85, u86, u87, u88, u89, u90, u91, u92, u93, u94, u95, u96, u97, u98, u99, u100, u101, u102, u103, u104, u105, u106, u107, u108, u109, u110, u111, u112, u113, u114, u115, u116, u117, u118, u119, u120, u121, u122, u123, u124, u125, u126, u127, u128, u129, u130, u131, u132, u133, u134, u135, u136, u137, u138, u139, u140, u141, u142, u143, u144, u145, u146, u147, u148, u149, u150, u151, u152, u153, u154, u155, u156, u157, u158, u159, u160, u161, u162, u163, u164, u165, u166, u167, u168, u169, u170, u171, u172, u173, u174, u175, u176, u177, u178, u179, u180, u181, u182, u183, u184, u185, u186, u187, u188, u189, u190, u191, u192, u193, u194, u195, u196, u197, u198, u199, u200, u201, u202, u203, u204, u205, u206, u207, u208, u209, u210, u211, u212, u213, u214, u215, u216, u217, u218, u219, u220, u221, u222, u223, u224, u225, u226, u227, u228, u229, u230, u231, u232, u233, u234, u235, u236, u237, u238, u239, u240, u241, u242], []⟩ wr := by
  have HM := hid hM
  have HGR := hid hg
  have HV1 := hid hv1
  have HV2 := hid hv2
  have HC1 := hid hc1
  clear hM hg hv1 hv2 hc1
  conv => arg 2; whnf
  conv => arg 4; zeta
  refine start_ (n := 13) (S := fun W => Mem w W [(b9, Row 33 (attrL a)), (b8, Row 35 (curL c0)), (b6, Row 38 zL), (b3, Row 38 l)]) (ds := [12]) #[false, false, false, false, false, false, false, false, false, false, false, false, false] (by kernel_rfl) rfl rfl HM.out.drew (fun hS => ?_)
  refine take_ (i := 0) (N := some 215) (a' := ?_) (v := .pointer (some ⟨b3, q, none⟩)) #[true, false, false, false, false, false, false, false, false, false, false, false, false] rfl rfl (by kernel_rfl) (by first | exact fun _ _ _ h => h | exact fun _ _ _ h => hP _ _ _ _ _ h) (Or.inl ⟨by rfl, fun w' _ => by go_simp⟩) hS ?_ ?_
  rotate_left
  · simp only [Act.put, List.setIfInBounds_toArray, List.set_cons_zero, List.set_cons_succ]
    rfl
  refine take_ (i := 1) (N := some 216) (a' := ?_) (v := .pointer (some ⟨b3, q, none⟩)) #[true, true, false, false, false, false, false, false, false, false, false, false, false] rfl rfl (by kernel_rfl) (by first | exact fun _ _ _ h => h | exact fun _ _ _ h => hP _ _ _ _ _ h) (Or.inl ⟨by rfl, fun w' _ => by go_simp⟩) hS ?_ ?_
  rotate_left
  · simp only [Act.put, List.setIfInBounds_toArray, List.set_cons_zero, List.set_cons_succ]
    rfl
  refine take_ (i := 2) (N := some 217) (a' := ?_) (v := .pointer (some ⟨b3, q, none⟩)) #[true, true, true, false, false, false, false, false, false, false, false, false, false] rfl rfl (by kernel_rfl) (by first | exact fun _ _ _ h => h | exact fun _ _ _ h => hP _ _ _ _ _ h) (Or.inl ⟨by rfl, fun w' _ => by go_simp⟩) hS ?_ ?_
  rotate_left
  · simp only [Act.put, List.setIfInBounds_toArray, List.set_cons_zero, List.set_cons_succ]
    rfl
  refine take_ (i := 3) (N := some 218) (a' := ?_) (v := .agg (gridL r c V).toArray) #[true, true, true, true, false, false, false, false, false, false, false, false, false] rfl rfl (by kernel_rfl) (by first | exact fun _ _ _ h => h | exact fun _ _ _ h => hP _ _ _ _ _ h) (y_loadS rfl rfl rfl (.tail _ (.tail _ (.tail _ (.head _)))) HGR.out Tryz.underlying31 rfl (by kernel_rfl)) hS ?_ ?_
  rotate_left
  · simp only [Act.put, List.setIfInBounds_toArray, List.set_cons_zero, List.set_cons_succ]
    rfl
  refine take_ (i := 4) (N := some 219) (a' := ?_) (v := .pointer (some ⟨b3, 37, none⟩)) #[true, true, true, true, true, false, false, false, false, false, false, false, false] rfl rfl (by kernel_rfl) (by first | exact fun _ _ _ h => h | exact fun _ _ _ h => hP _ _ _ _ _ h) (Or.inl ⟨by rfl, fun w' _ => by go_simp⟩) hS ?_ ?_
  rotate_left
  · simp only [Act.put, List.setIfInBounds_toArray, List.set_cons_zero, List.set_cons_succ]
    rfl
  refine take_ (i := 5) (N := some 220) (a' := ?_) (v := .int .i64 top) #[true, true, true, true, true, true, false, false, false, false, false, false, false] rfl rfl (by kernel_rfl) (by first | exact fun _ _ _ h => h | exact fun _ _ _ h => hP _ _ _ _ _ h) (y_load rfl rfl rfl (.tail _ (.tail _ (.tail _ (.head _)))) HV2.out Tryz.underlying3 rfl) hS ?_ ?_
  rotate_left
  · simp only [Act.put, List.setIfInBounds_toArray, List.set_cons_zero, List.set_cons_succ]
    rfl
  refine take_ (i := 6) (N := some 221) (a' := ?_) (v := .pointer (some ⟨b3, 38, none⟩)) #[true, true, true, true, true, true, true, false, false, false, false, false, false] rfl rfl (by kernel_rfl) (by first | exact fun _ _ _ h => h | exact fun _ _ _ h => hP _ _ _ _ _ h) (Or.inl ⟨by rfl, fun w' _ => by go_simp⟩) hS ?_ ?_
  rotate_left
  · simp only [Act.put, List.setIfInBounds_toArray, List.set_cons_zero, List.set_cons_succ]
    rfl
  refine take_ (i := 7) (N := some 222) (a' := ?_) (v := .int .i64 bot) #[true, true, true, true, true, true, true, true, false, false, false, false, false] rfl rfl (by kernel_rfl) (by first | exact fun _ _ _ h => h | exact fun _ _ _ h => hP _ _ _ _ _ h) (y_load rfl rfl rfl (.tail _ (.tail _ (.tail _ (.head _)))) HV1.out Tryz.underlying3 rfl) hS ?_ ?_
  rotate_left
  · simp only [Act.put, List.setIfInBounds_toArray, List.set_cons_zero, List.set_cons_succ]
    rfl
  refine take_ (i := 8) (N := some 223) (a' := ?_) (v := .int .i64 n) #[true, true, true, true, true, true, true, true, true, false, false, false, false] rfl rfl (by kernel_rfl) (by first | exact fun _ _ _ h => h | exact fun _ _ _ h => hP _ _ _ _ _ h) (Or.inl ⟨by rfl, fun w' _ => by go_simp⟩) hS ?_ ?_
  rotate_left
  · simp only [Act.put, List.setIfInBounds_toArray, List.set_cons_zero, List.set_cons_succ]
    rfl
  refine take_ (i := 9) (N := some 224) (a' := ?_) (v := .agg (attrL a).toArray) #[true, true, true, true, true, true, true, true, true, true, false, false, false] rfl rfl (by kernel_rfl) (by first | exact fun _ _ _ h => h | exact fun _ _ _ h => hP _ _ _ _ _ h) (y_loadS rfl rfl rfl (.head _) rfl Tryz.underlying33 rfl (by kernel_rfl)) hS ?_ ?_
  rotate_left
  · simp only [Act.put, List.setIfInBounds_toArray, List.set_cons_zero, List.set_cons_succ]
    rfl
  have hB : Below wr.heap.size wr wr.drew := (Below.refl _ _).drew
  refine one_ (i := 10) (N := some 225) #[true, true, true, true, true, true, true, true, true, true, true, false, false] rfl rfl (by kernel_rfl) (by decide) (fun K hK => ?_)
  refine goes_ Tryz.func47 (by kernel_rfl) rfl #[.agg (gridL r c V).toArray, .int .i64 top, .int .i64 bot, .int .i64 n, .agg (attrL a).toArray] (by rfl) rfl rfl (by simp only [List.map_toArray, List.map_cons, List.map_nil]; rfl) ?_
  refine (HC1.out _ hB).mono ?_
  rintro e w4 ⟨v0_, rfl, hO1, hB1⟩
  obtain ⟨A2, k2, rfl⟩ := hO1.slice
  have hBs := hB.size
  have hB0 := hB.trans (hB1.mono hB.size)
  clear hB
  have hB := hB0
  clear hB0
  refine ⟨_, rfl, hK.out _ _ (hS.call hB1) (fun hS2 => ?_)⟩
  clear hK K hS
  have hS := hS2
  clear hS2
  refine norm_ (a' := ?_) ?_ ?_
  rotate_left
  · simp only [Act.put, List.setIfInBounds_toArray, List.set_cons_zero, List.set_cons_succ]
    rfl
  refine take_ (i := 11) (N := some 226) (a' := ?_) (v := .pointer (some ⟨b3, q, none⟩)) #[true, true, true, true, true, true, true, true, true, true, true, true, false] rfl rfl (by kernel_rfl) (by first | exact fun _ _ _ h => h | exact fun _ _ _ h => hP _ _ _ _ _ h) (Or.inl ⟨by rfl, fun w' _ => by go_simp⟩) hS ?_ ?_
  rotate_left
  · simp only [Act.put, List.setIfInBounds_toArray, List.set_cons_zero, List.set_cons_succ]
    rfl
  refine last_ (i := 12) (N := none) #[true, true, true, true, true, true, true, true, true, true, true, true, true] rfl rfl (by kernel_rfl) (by decide) (fun K hK => ?_)
  refine y_storeE hS rfl rfl rfl rfl 3 rfl (cs := gridL r c (.slice A2 _ k2)) rfl _ rfl (by simpa [gridL] using hq) (by kernel_rfl) rfl (fun w9 hM9 hg9 => hK.out _ _ ?_)
  clear hK K
  refine done_ (by kernel_rfl) ?_
  exact hQ w9 _ _ _ _ _ _ _ _ _ _ _ _ _ _ _ hM9 ⟨_, hB, hS, hO1.lower hBs, hg9⟩
set_option maxRecDepth 100000 in
set_option maxHeartbeats 4000000 in
theorem xreg47_is {w wr : World} {b3 b6 b8 b9 q r c : Nat} {a : Attr} {c0 : Cur} {l : List Value} {V : Value} {M' : List Cell} {n bot top : Int} {Q : Exit → Act → World → Prop} (hM : Mem w wr [(b9, Row 33 (attrL a)), (b8, Row 35 (curL c0)), (b6, Row 38 zL), (b3, Row 38 l)]) (hg : (l.drop q).take (gridL r c V).length = gridL r c V) (hq : q + 3 ≤ l.length)
    (hv1 : l[38]? = some (.int .i64 bot))
    (hv2 : l[37]? = some (.int .i64 top))
    (s1 : IntKind.i64.wrap (-n) = -n)
    (hc1 : ∀ W, Below wr.heap.size wr W → Calls Tryz.prog 47 #[.agg (gridL r c V).toArray, .int .i64 top, .int .i64 bot, .int .i64 (-n), .agg (attrL a).toArray] W fun e w' => ∃ v', e = .returned (.agg (gridL r c v').toArray) ∧ OwnC w' W.heap.size v' M' ∧ Below W.heap.size W w')
    (hP : ∀ c a (d : Tmp) v w, Q (.panic c) (Act.put a (some d) v) w → Q (.panic c) a w) (u0 u1 u4 u5 u6 u10 u11 u12 u13 u14 u15 u16 u17 u18 u19 u20 u21 u22 u23 u24 u25 u26 u27 u28 u29 u30 u31 u32 u33 u34 u35 u36 u37 u38 u39 u40 u41 u42 u43 u44 u45 u46 u47 u48 u49 u50 u51 u52 u53 u54 u55 u56 u57 u58 u59 u60 u61 u62 u63 u64 u65 u66 u67 u68 u69 u70 u71 u72 u73 u74 u75 u76 u77 u78 u79 u80 u81 u82 u83 u84 u85 u86 u87 u88 u89 u90 u91 u92 u93 u94 u95 u96 u97 u98 u99 u100 u101 u102 u103 u104 u105 u106 u107 u108 u109 u110 u111 u112 u113 u114 u115 u116 u117 u118 u119 u120 u121 u122 u123 u124 u125 u126 u127 u128 u129 u130 u131 u132 u133 u134 u135 u136 u137 u138 u139 u140 u141 u142 u143 u144 u145 u146 u147 u148 u149 u150 u151 u152 u153 u154 u155 u156 u157 u158 u159 u160 u161 u162 u163 u164 u165 u166 u167 u168 u169 u170 u171 u172 u173 u174 u175 u176 u177 u178 u179 u180 u181 u182 u183 u184 u185 u186 u187 u188 u189 u190 u191 u192 u193 u194 u195 u196 u197 u198 u199 u200 u201 u202 u203 u204 u205 u206 u207 u208 u209 u210 u211 u212 u213 u214 u215 u216 u217 u218 u219 u220 u221 u222 u223 u224 u225 u226 u227 u228 u229 u230 u231 u232 u233 u234 u235 u236 u237 u238 u239 u240 u241 u242 : Value)
    (hQ : ∀ w' A2 n2 k2 (v229 v230 v231 v232 v233 v234 v235 v236 v237 v238 v239 v240 v241 : Value), Mem w w' [(b9, Row 33 (attrL a)), (b8, Row 35 (curL c0)), (b6, Row 38 zL), (b3, Row 38 (Mem.putL l q (gridL r c (.slice A2 n2 k2))))] → Upd w wr [(b9, Row 33 (attrL a)), (b8, Row 35 (curL c0)), (b6, Row 38 zL), (b3, Row 38 l)] b3 (.slice A2 n2 k2) M' w' → Q .normal ⟨#[u0, u1, .int .i64 n, .pointer (some ⟨b3, 0, none⟩), u4, u5, u6, .pointer (some ⟨b3, q, none⟩), .pointer (some ⟨b8, 0, none⟩), .pointer (some ⟨b9, 0, none⟩), u10, u11, u12, u13, u14, u15, u16, u17, u18, u19, u20, u21, u22, u23, u24, u25, u26, u27, u28, u29, u30, u31, u32, u33, u34, u35, u36, u37, u38, u39, u40, u41, u42, u43, u44, u45, u46, u47, u48, u49, u50, u51, u52, u53, u54, u55, u56, u57, u58, u59, u60, u61, u62, u63, u64, u65, u66, u67, u68, u69, u70, u71, u72, u73, u74, u75, u76, u77, u78, u79, u80, u81, u82, u83, u84, u85, u86, u87, u88, u89, u90, u91, u92, u93, u94, u95, u96, u97, u98, u99, u100, u101, u102, u103, u104, u105, u106, u107, u108, u109, u110, u111, u112, u113, u114, u115, u116, u117, u118, u119, u120, u121, u122, u123, u124, u125, u126, u127, u128, u129, u130, u131, u132, u133, u134, u135, u136, u137, u138, u139, u140, u141, u142, u143, u144, u145, u146, u147, u148, u149, u150, u151, u152, u153, u154, u155, u156, u157, u158, u159, u160, u161, u162, u163, u164, u165, u166, u167, u168, u169, u170, u171, u172, u173, u174, u175, u176, u177, u178, u179, u180, u181, u182, u183, u184, u185, u186, u187, u188, u189, u190, u191, u192, u193, u194, u195, u196, u197, u198, u199, u200, u201, u202, u203, u204, u205, u206, u207, u208, u209, u210, u211, u212, u213, u214, u215, u216, u217, u218, u219, u220, u221, u222, u223, u224, u225, u226, u227, u228, v229, v230, v231, v232, v233, v234, v235, v236, v237, v238, v239, v240, v241, u242], []⟩ w') :
    Code.wp Tryz.prog (xreg 47) Q ⟨#[u0, u1, .int .i64 n, .pointer (some ⟨b3, 0, none⟩), u4, u5, u6, .pointer (some ⟨b3, q, none⟩), .pointer (some ⟨b8, 0, none⟩), .pointer (some ⟨b9, 0, none⟩), u10, u11, u12, u13, u14, u15, u16, u17, u18, u19, u20, u21, u22, u23, u24, u25, u26, u27, u28, u29, u30, u31, u32, u33, u34, u35, u36, u37, u38, u39, u40, u41, u42, u43, u44, u45, u46, u47, u48, u49, u50, u51, u52, u53, u54, u55, u56, u57, u58, u59, u60, u61, u62, u63, u64, u65, u66, u67, u68, u69, u70, u71, u72, u73, u74, u75, u76, u77, u78, u79, u80, u81, u82, u83, u84, u85, u86, u87, u88, u89, u90, u91, u92, u93, u94, u95, u96, u97, u98, u99, u100, u101, u102, u103, u104, u105, u106, u107, u108, u109, u110, u111, u112, u113, u114, u115, u116, u117, u118, u119, u120, u121, u122, u123, u124, u125, u126, u127, u128, u129, u130, u131, u132, u133, u134, u135, u136, u137, u138, u139, u140, u141, u142, u143, u144, u145, u146, u147, u148, u149, u150, u151, u152, u153, u154, u155, u156, u157, u158, u159, u160, u161, u162, u163, u164, u165, u166, u167, u168, u169, u170, u171, u172, u173, u174, u175, u176, u177, u178, u179, u180, u181, u182, u183, u184, u185, u186, u187, u188, u189, u190, u191, u192, u193, u194, u195, u196, u197, u198, u199, u200, u201, u202, u203, u204, u205, u206, u207, u208, u209, u210, u211, u212, u213, u214, u215, u216, u217, u218, u219, u220, u221, u222, u223, u224, u225, u226, u227, u228, u229, u230, u231, u232, u233, u234, u235, u236, u237, u238, u239, u240, u241, u242], []⟩ wr := by
  have HM := hid hM
  have HGR := hid hg
  have HV1 := hid hv1
  have HV2 := hid hv2
  have HC1 := hid hc1
  clear hM hg hv1 hv2 hc1
  conv => arg 2; whnf
  conv => arg 4; zeta
  refine start_ (n := 14) (S := fun W => Mem w W [(b9, Row 33 (attrL a)), (b8, Row 35 (curL c0)), (b6, Row 38 zL), (b3, Row 38 l)]) (ds := [13]) #[false, false, false, false, false, false, false, false, false, false, false, false, false, false] (by kernel_rfl) rfl rfl HM.out.drew (fun hS => ?_)
  refine take_ (i := 0) (N := some 229) (a' := ?_) (v := .pointer (some ⟨b3, q, none⟩)) #[true, false, false, false, false, false, false, false, false, false, false, false, false, false] rfl rfl (by kernel_rfl) (by first | exact fun _ _ _ h => h | exact fun _ _ _ h => hP _ _ _ _ _ h) (Or.inl ⟨by rfl, fun w' _ => by go_simp⟩) hS ?_ ?_
  rotate_left
  · simp only [Act.put, List.setIfInBounds_toArray, List.set_cons_zero, List.set_cons_succ]
    rfl
  refine take_ (i := 1) (N := some 230) (a' := ?_) (v := .pointer (some ⟨b3, q, none⟩)) #[true, true, false, false, false, false, false, false, false, false, false, false, false, false] rfl rfl (by kernel_rfl) (by first | exact fun _ _ _ h => h | exact fun _ _ _ h => hP _ _ _ _ _ h) (Or.inl ⟨by rfl, fun w' _ => by go_simp⟩) hS ?_ ?_
  rotate_left
  · simp only [Act.put, List.setIfInBounds_toArray, List.set_cons_zero, List.set_cons_succ]
    rfl
  refine take_ (i := 2) (N := some 231) (a' := ?_) (v := .pointer (some ⟨b3, q, none⟩)) #[true, true, true, false, false, false, false, false, false, false, false, false, false, false] rfl rfl (by kernel_rfl) (by first | exact fun _ _ _ h => h | exact fun _ _ _ h => hP _ _ _ _ _ h) (Or.inl ⟨by rfl, fun w' _ => by go_simp⟩) hS ?_ ?_
  rotate_left
  · simp only [Act.put, List.setIfInBounds_toArray, List.set_cons_zero, List.set_cons_succ]
    rfl
  refine take_ (i := 3) (N := some 232) (a' := ?_) (v := .agg (gridL r c V).toArray) #[true, true, true, true, false, false, false, false, false, false, false, false, false, false] rfl rfl (by kernel_rfl) (by first | exact fun _ _ _ h => h | exact fun _ _ _ h => hP _ _ _ _ _ h) (y_loadS rfl rfl rfl (.tail _ (.tail _ (.tail _ (.head _)))) HGR.out Tryz.underlying31 rfl (by kernel_rfl)) hS ?_ ?_
  rotate_left
  · simp only [Act.put, List.setIfInBounds_toArray, List.set_cons_zero, List.set_cons_succ]
    rfl
  refine take_ (i := 4) (N := some 233) (a' := ?_) (v := .pointer (some ⟨b3, 37, none⟩)) #[true, true, true, true, true, false, false, false, false, false, false, false, false, false] rfl rfl (by kernel_rfl) (by first | exact fun _ _ _ h => h | exact fun _ _ _ h => hP _ _ _ _ _ h) (Or.inl ⟨by rfl, fun w' _ => by go_simp⟩) hS ?_ ?_
  rotate_left
  · simp only [Act.put, List.setIfInBounds_toArray, List.set_cons_zero, List.set_cons_succ]
    rfl
  refine take_ (i := 5) (N := some 234) (a' := ?_) (v := .int .i64 top) #[true, true, true, true, true, true, false, false, false, false, false, false, false, false] rfl rfl (by kernel_rfl) (by first | exact fun _ _ _ h => h | exact fun _ _ _ h => hP _ _ _ _ _ h) (y_load rfl rfl rfl (.tail _ (.tail _ (.tail _ (.head _)))) HV2.out Tryz.underlying3 rfl) hS ?_ ?_
  rotate_left
  · simp only [Act.put, List.setIfInBounds_toArray, List.set_cons_zero, List.set_cons_succ]
    rfl
  refine take_ (i := 6) (N := some 235) (a' := ?_) (v := .pointer (some ⟨b3, 38, none⟩)) #[true, true, true, true, true, true, true, false, false, false, false, false, false, false] rfl rfl (by kernel_rfl) (by first | exact fun _ _ _ h => h | exact fun _ _ _ h => hP _ _ _ _ _ h) (Or.inl ⟨by rfl, fun w' _ => by go_simp⟩) hS ?_ ?_
  rotate_left
  · simp only [Act.put, List.setIfInBounds_toArray, List.set_cons_zero, List.set_cons_succ]
    rfl
  refine take_ (i := 7) (N := some 236) (a' := ?_) (v := .int .i64 bot) #[true, true, true, true, true, true, true, true, false, false, false, false, false, false] rfl rfl (by kernel_rfl) (by first | exact fun _ _ _ h => h | exact fun _ _ _ h => hP _ _ _ _ _ h) (y_load rfl rfl rfl (.tail _ (.tail _ (.tail _ (.head _)))) HV1.out Tryz.underlying3 rfl) hS ?_ ?_
  rotate_left
  · simp only [Act.put, List.setIfInBounds_toArray, List.set_cons_zero, List.set_cons_succ]
    rfl
  refine take_ (i := 8) (N := some 237) (a' := ?_) (v := .int .i64 n) #[true, true, true, true, true, true, true, true, true, false, false, false, false, false] rfl rfl (by kernel_rfl) (by first | exact fun _ _ _ h => h | exact fun _ _ _ h => hP _ _ _ _ _ h) (Or.inl ⟨by rfl, fun w' _ => by go_simp⟩) hS ?_ ?_
  rotate_left
  · simp only [Act.put, List.setIfInBounds_toArray, List.set_cons_zero, List.set_cons_succ]
    rfl
  refine take_ (i := 9) (N := some 238) (a' := ?_) (v := .int .i64 (-n)) #[true, true, true, true, true, true, true, true, true, true, false, false, false, false] rfl rfl (by kernel_rfl) (by first | exact fun _ _ _ h => h | exact fun _ _ _ h => hP _ _ _ _ _ h) (Or.inl ⟨by rfl, fun w' _ => by go_simp⟩) hS ?_ ?_
  rotate_left
  · simp only [Act.put, List.setIfInBounds_toArray, List.set_cons_zero, List.set_cons_succ]
    rfl
  refine take_ (i := 10) (N := some 239) (a' := ?_) (v := .agg (attrL a).toArray) #[true, true, true, true, true, true, true, true, true, true, true, false, false, false] rfl rfl (by kernel_rfl) (by first | exact fun _ _ _ h => h | exact fun _ _ _ h => hP _ _ _ _ _ h) (y_loadS rfl rfl rfl (.head _) rfl Tryz.underlying33 rfl (by kernel_rfl)) hS ?_ ?_
  rotate_left
  · simp only [Act.put, List.setIfInBounds_toArray, List.set_cons_zero, List.set_cons_succ]
    rfl
  have hB : Below wr.heap.size wr wr.drew := (Below.refl _ _).drew
  refine one_ (i := 11) (N := some 240) #[true, true, true, true, true, true, true, true, true, true, true, true, false, false] rfl rfl (by kernel_rfl) (by decide) (fun K hK => ?_)
  refine goes_ Tryz.func47 (by kernel_rfl) rfl #[.agg (gridL r c V).toArray, .int .i64 top, .int .i64 bot, .int .i64 (-n), .agg (attrL a).toArray] (by rfl) rfl rfl (by simp only [List.map_toArray, List.map_cons, List.map_nil]; rfl) ?_
  refine (HC1.out _ hB).mono ?_
  rintro e w4 ⟨v0_, rfl, hO1, hB1⟩
  obtain ⟨A2, k2, rfl⟩ := hO1.slice
  have hBs := hB.size
  have hB0 := hB.trans (hB1.mono hB.size)
  clear hB
  have hB := hB0
  clear hB0
  refine ⟨_, rfl, hK.out _ _ (hS.call hB1) (fun hS2 => ?_)⟩
  clear hK K hS
  have hS := hS2
  clear hS2
  refine norm_ (a' := ?_) ?_ ?_
  rotate_left
  · simp only [Act.put, List.setIfInBounds_toArray, List.set_cons_zero, List.set_cons_succ]
    rfl
  refine take_ (i := 12) (N := some 241) (a' := ?_) (v := .pointer (some ⟨b3, q, none⟩)) #[true, true, true, true, true, true, true, true, true, true, true, true, true, false] rfl rfl (by kernel_rfl) (by first | exact fun _ _ _ h => h | exact fun _ _ _ h => hP _ _ _ _ _ h) (Or.inl ⟨by rfl, fun w' _ => by go_simp⟩) hS ?_ ?_
  rotate_left
  · simp only [Act.put, List.setIfInBounds_toArray, List.set_cons_zero, List.set_cons_succ]
    rfl
  refine last_ (i := 13) (N := none) #[true, true, true, true, true, true, true, true, true, true, true, true, true, true] rfl rfl (by kernel_rfl) (by decide) (fun K hK => ?_)
  refine y_storeE hS rfl rfl rfl rfl 3 rfl (cs := gridL r c (.slice A2 _ k2)) rfl _ rfl (by simpa [gridL] using hq) (by kernel_rfl) rfl (fun w9 hM9 hg9 => hK.out _ _ ?_)
  clear hK K
  refine done_ (by kernel_rfl) ?_
  exact hQ w9 _ _ _ _ _ _ _ _ _ _ _ _ _ _ _ _ hM9 ⟨_, hB, hS, hO1.lower hBs, hg9⟩
set_option maxRecDepth 100000 in
set_option maxHeartbeats 4000000 in
theorem xreg27_is {w wr : World} {b3 b6 b8 b9 q r c : Nat} {a : Attr} {c0 : Cur} {l : List Value} {V : Value} {L1 : List Cell} {Q : Exit → Act → World → Prop} (hM : Mem w wr [(b9, Row 33 (attrL a)), (b8, Row 35 (curL c0)), (b6, Row 38 zL), (b3, Row 38 l)]) (hg : (l.drop q).take (gridL r c V).length = gridL r c V)
    (hc1 : ∀ W, Below wr.heap.size wr W → Calls Tryz.prog 44 #[.agg (gridL r c V).toArray, .int .i64 c0.row] W fun e w' => ∃ v', e = .returned v' ∧ OwnC w' W.heap.size v' L1 ∧ Below W.heap.size W w')
    (hP : ∀ c a (d : Tmp) v w, Q (.panic c) (Act.put a (some d) v) w → Q (.panic c) a w) (u0 u1 u2 u4 u5 u6 u10 u11 u12 u13 u14 u15 u16 u17 u18 u19 u20 u21 u22 u23 u24 u25 u26 u27 u28 u29 u30 u31 u32 u33 u34 u35 u36 u37 u38 u39 u40 u41 u42 u43 u44 u45 u46 u47 u48 u49 u50 u51 u52 u53 u54 u55 u56 u57 u58 u59 u60 u61 u62 u63 u64 u65 u66 u67 u68 u69 u70 u71 u72 u73 u74 u75 u76 u77 u78 u79 u80 u81 u82 u83 u84 u85 u86 u87 u88 u89 u90 u91 u92 u93 u94 u95 u96 u97 u98 u99 u100 u101 u102 u103 u104 u105 u106 u107 u108 u109 u110 u111 u112 u113 u114 u115 u116 u117 u118 u119 u120 u121 u122 u123 u124 u125 u126 u127 u128 u129 u130 u131 u132 u133 u134 u135 u136 u137 u138 u139 u140 u141 u142 u143 u144 u145 u146 u147 u148 u149 u150 u151 u152 u153 u154 u155 u156 u157 u158 u159 u160 u161 u162 u163 u164 u165 u166 u167 u168 u169 u170 u171 u172 u173 u174 u175 u176 u177 u178 u179 u180 u181 u182 u183 u184 u185 u186 u187 u188 u189 u190 u191 u192 u193 u194 u195 u196 u197 u198 u199 u200 u201 u202 u203 u204 u205 u206 u207 u208 u209 u210 u211 u212 u213 u214 u215 u216 u217 u218 u219 u220 u221 u222 u223 u224 u225 u226 u227 u228 u229 u230 u231 u232 u233 u234 u235 u236 u237 u238 u239 u240 u241 u242 : Value)
    (hQ : ∀ w' v15_ (v114 v115 v116 v117 v118 v119 : Value), Mem w w' [(b9, Row 33 (attrL a)), (b8, Row 35 (curL c0)), (b6, Row 38 zL), (b3, Row 38 l)] → OwnC w' wr.heap.size v15_ L1 → Below wr.heap.size wr w' → Q .normal ⟨#[u0, u1, u2, .pointer (some ⟨b3, 0, none⟩), u4, u5, u6, .pointer (some ⟨b3, q, none⟩), .pointer (some ⟨b8, 0, none⟩), .pointer (some ⟨b9, 0, none⟩), u10, u11, u12, u13, u14, v15_, u16, u17, u18, u19, u20, u21, u22, u23, u24, u25, u26, u27, u28, u29, u30, u31, u32, u33, u34, u35, u36, u37, u38, u39, u40, u41, u42, u43, u44, u45, u46, u47, u48, u49, u50, u51, u52, u53, u54, u55, u56, u57, u58, u59, u60, u61, u62, u63, u64, u65, u66, u67, u68, u69, u70, u71, u72, u73, u74, u75, u76, u77, u78, u79, u80, u81, u82, u83, u84, u85, u86, u87, u88, u89, u90, u91, u92, u93, u94, u95, u96, u97, u98, u99, u100, u101, u102, u103, u104, u105, u106, u107, u108, u109, u110, u111, u112, u113, v114, v115, v116, v117, v118, v119, u120, u121, u122, u123, u124, u125, u126, u127, u128, u129, u130, u131, u132, u133, u134, u135, u136, u137, u138, u139, u140, u141, u142, u143, u144, u145, u146, u147, u148, u149, u150, u151, u152, u153, u154, u155, u156, u157, u158, u159, u160, u161, u162, u163, u164, u165, u166, u167, u168, u169, u170, u171, u172, u173, u174, u175, u176, u177, u178, u179, u180, u181, u182, u183, u184, u185, u186, u187, u188, u189, u190, u191, u192, u193, u194, u195, u196, u197, u198, u199, u200, u201, u202, u203, u204, u205, u206, u207, u208, u209, u210, u211, u212, u213, u214, u215, u216, u217, u218, u219, u220, u221, u222, u223, u224, u225, u226, u227, u228, u229, u230, u231, u232, u233, u234, u235, u236, u237, u238, u239, u240, u241, u242], []⟩ w') :
    Code.wp Tryz.prog (xreg 27) Q ⟨#[u0, u1, u2, .pointer (some ⟨b3, 0, none⟩), u4, u5, u6, .pointer (some ⟨b3, q, none⟩), .pointer (some ⟨b8, 0, none⟩), .pointer (some ⟨b9, 0, none⟩), u10, u11, u12, u13, u14, u15, u16, u17, u18, u19, u20, u21, u22, u23, u24, u25, u26, u27, u28, u29, u30, u31, u32, u33, u34, u35, u36, u37, u38, u39, u40, u41, u42, u43, u44, u45, u46, u47, u48, u49, u50, u51, u52, u53, u54, u55, u56, u57, u58, u59, u60, u61, u62, u63, u64, u65, u66, u67, u68, u69, u70, u71, u72, u73, u74, u75, u76, u77, u78, u79, u80, u81, u82, u83, u84, u85, u86, u87, u88, u89, u90, u91, u92, u93, u94, u95, u96, u97, u98, u99, u100, u101, u102, u103, u104, u105, u106, u107, u108, u109, u110, u111, u112, u113, u114, u115, u116, u117, u118, u119, u120, u121, u122, u123, u124, u125, u126, u127, u128, u129, u130, u131, u132, u133, u134, u135, u136, u137, u138, u139, u140, u141, u142, u143, u144, u145, u146, u147, u148, u149, u150, u151, u152, u153, u154, u155, u156, u157, u158, u159, u160, u161, u162, u163, u164, u165, u166, u167, u168, u169, u170, u171, u172, u173, u174, u175, u176, u177, u178, u179, u180, u181, u182, u183, u184, u185, u186, u187, u188, u189, u190, u191, u192, u193, u194, u195, u196, u197, u198, u199, u200, u201, u202, u203, u204, u205, u206, u207, u208, u209, u210, u211, u212, u213, u214, u215, u216, u217, u218, u219, u220, u221, u222, u223, u224, u225, u226, u227, u228, u229, u230, u231, u232, u233, u234, u235, u236, u237, u238, u239, u240, u241, u242], []⟩ wr := by
  have HM := hid hM
  have HGR := hid hg
  have HC1 := hid hc1
  clear hM hg hc1
  conv => arg 2; whnf
  conv => arg 4; zeta
  refine start_ (n := 7) (S := fun W => Mem w W [(b9, Row 33 (attrL a)), (b8, Row 35 (curL c0)), (b6, Row 38 zL), (b3, Row 38 l)]) (ds := [5]) #[false, false, false, false, false, false, false] (by kernel_rfl) rfl rfl HM.out.drew (fun hS => ?_)
  refine take_ (i := 0) (N := some 114) (a' := ?_) (v := .pointer (some ⟨b3, q, none⟩)) #[true, false, false, false, false, false, false] rfl rfl (by kernel_rfl) (by first | exact fun _ _ _ h => h | exact fun _ _ _ h => hP _ _ _ _ _ h) (Or.inl ⟨by rfl, fun w' _ => by go_simp⟩) hS ?_ ?_
  rotate_left
  · simp only [Act.put, List.setIfInBounds_toArray, List.set_cons_zero, List.set_cons_succ]
    rfl
  refine take_ (i := 1) (N := some 115) (a' := ?_) (v := .pointer (some ⟨b3, q, none⟩)) #[true, true, false, false, false, false, false] rfl rfl (by kernel_rfl) (by first | exact fun _ _ _ h => h | exact fun _ _ _ h => hP _ _ _ _ _ h) (Or.inl ⟨by rfl, fun w' _ => by go_simp⟩) hS ?_ ?_
  rotate_left
  · simp only [Act.put, List.setIfInBounds_toArray, List.set_cons_zero, List.set_cons_succ]
    rfl
  refine take_ (i := 2) (N := some 116) (a' := ?_) (v := .agg (gridL r c V).toArray) #[true, true, true, false, false, false, false] rfl rfl (by kernel_rfl) (by first | exact fun _ _ _ h => h | exact fun _ _ _ h => hP _ _ _ _ _ h) (y_loadS rfl rfl rfl (.tail _ (.tail _ (.tail _ (.head _)))) HGR.out Tryz.underlying31 rfl (by kernel_rfl)) hS ?_ ?_
  rotate_left
  · simp only [Act.put, List.setIfInBounds_toArray, List.set_cons_zero, List.set_cons_succ]
    rfl
  refine take_ (i := 3) (N := some 117) (a' := ?_) (v := .pointer (some ⟨b8, 0, none⟩)) #[true, true, true, true, false, false, false] rfl rfl (by kernel_rfl) (by first | exact fun _ _ _ h => h | exact fun _ _ _ h => hP _ _ _ _ _ h) (Or.inl ⟨by rfl, fun w' _ => by go_simp⟩) hS ?_ ?_
  rotate_left
  · simp only [Act.put, List.setIfInBounds_toArray, List.set_cons_zero, List.set_cons_succ]
    rfl
  refine take_ (i := 4) (N := some 118) (a' := ?_) (v := .int .i64 c0.row) #[true, true, true, true, true, false, false] rfl rfl (by kernel_rfl) (by first | exact fun _ _ _ h => h | exact fun _ _ _ h => hP _ _ _ _ _ h) (y_load rfl rfl rfl (.tail _ (.head _)) rfl Tryz.underlying3 rfl) hS ?_ ?_
  rotate_left
  · simp only [Act.put, List.setIfInBounds_toArray, List.set_cons_zero, List.set_cons_succ]
    rfl
  have hB : Below wr.heap.size wr wr.drew := (Below.refl _ _).drew
  refine last_ (i := 5) (N := some 119) #[true, true, true, true, true, true, false] rfl rfl (by kernel_rfl) (by decide) (fun K hK => ?_)
  refine goes_ Tryz.func44 (by kernel_rfl) rfl #[.agg (gridL r c V).toArray, .int .i64 c0.row] (by rfl) rfl rfl (by simp only [List.map_toArray, List.map_cons, List.map_nil]; rfl) ?_
  refine (HC1.out _ hB).mono ?_
  rintro e w4 ⟨v0_, rfl, hO1, hB1⟩
  refine ⟨_, rfl, hK.out _ _ ?_⟩
  clear hK K
  refine norm_ (a' := ?_) ?_ ?_
  rotate_left
  · simp only [Act.put, List.setIfInBounds_toArray, List.set_cons_zero, List.set_cons_succ]
    rfl
  refine pure_ (i := 6) (N := some 15) (a' := ?_) (v := v0_) #[true, true, true, true, true, true, true] rfl rfl (by kernel_rfl) (by first | exact fun _ _ _ h => h | exact fun _ _ _ h => hP _ _ _ _ _ h) (Or.inl ⟨by rfl, fun w' => by go_simp⟩) ?_ ?_
  rotate_left
  · simp only [Act.put, List.setIfInBounds_toArray, List.set_cons_zero, List.set_cons_succ]
    rfl
  refine done_ (by kernel_rfl) ?_
  exact hQ w4 _ _ _ _ _ _ _ (hS.call hB1) hO1 (hB.trans (hB1.mono hB.size))
end Go.Proofs.YtpmfjombfcnhmaaGreatDoor

/- The reference's Edit: its memory from step to step. -/
namespace Go.Proofs.YtpmfjombfcnhmaaGreatDoor
open Go Go.RowKit Go.Proofs.YtpmfjombfcnhmaaGreatDoorW.PrintLast

/-- the cells that are seen put in -/
def putM (s : Scr) (M : List Cell) : Scr := if s.sw = true then { s with os := M } else { s with ms := M }
def getM (s : Scr) : List Cell := if s.sw = true then s.os else s.ms
def seenV (s : Scr) (m o : Value) : Value := if s.sw = true then o else m
structure GF (s : Scr) (r c : Nat) : Prop where
  mr : s.mr = (r : Int)
  mc : s.mc = (c : Int)
  orr : s.orr = (r : Int)
  oc : s.oc = (c : Int)
theorem gl_get {s : Scr} {r c : Nat} {m o t : Value} (h : GF s r c) : ((scrL s m o t).drop (seenO s)).take (gridL r c (seenV s m o)).length = gridL r c (seenV s m o) := by
  cases hs : s.sw with
  | true =>
    rw [seenO, seenV, if_pos hs, if_pos hs, ← h.orr, ← h.oc]; rfl
  | false =>
    have hn : ¬ s.sw = true := by simp [hs]
    rw [seenO, seenV, if_neg hn, if_neg hn, ← h.mr, ← h.mc]; rfl
theorem gl_put {s : Scr} {r c : Nat} {m o t V : Value} (h : GF s r c) : Mem.putL (scrL s m o t) (seenO s) (gridL r c V) = scrL s (if s.sw = true then m else V) (if s.sw = true then V else o) t := by
  cases hs : s.sw with
  | true =>
    rw [seenO, if_pos hs, if_pos rfl, if_pos rfl, ← h.orr, ← h.oc]; rfl
  | false =>
    have hn : ¬ s.sw = true := by simp [hs]
    rw [seenO, if_neg hn, if_neg (by decide), if_neg (by decide), ← h.mr, ← h.mc]; rfl
theorem gl_q {s : Scr} {m o t : Value} : seenO s + 3 ≤ (scrL s m o t).length := by
  unfold seenO
  split <;> exact Nat.le_of_ble_eq_true rfl
theorem scrL_putM {s : Scr} {M : List Cell} {m o t : Value} : scrL (putM s M) m o t = scrL s m o t := by
  unfold putM
  split <;> rfl
/-- the state: a screen whose seen cells are M -/
def RSt (w0 W : World) (b3 b6 b8 b9 : Nat) (s0 s1 : Scr) (M : List Cell) (m o t : Value) : Prop :=
  Mem w0 W [(b9, Row 33 (attrL s0.cur.a)), (b8, Row 35 (curL s0.cur)), (b6, Row 38 zL), (b3, Row 38 (scrL s1 m o t))] ∧ OwnScr W w0.heap.size (putM s1 M) m o t
theorem ownE_ne {w0 w : World} {F : List Ent} (hM : Mem w0 w F) {b : Nat} {t : TypeId} {l : List Value} (hF : (b, Row t l) ∈ F) {base n size : Nat} {e : TypeId} {v : Value} {xs : List Value} (h : w.ownsRow base e size v n xs) (hne : (e == t) = false) : v.ownBlock = none ∨ v.ownBlock ≠ some b := by
  obtain ⟨hl, h | ⟨g, cap, cur, rfl, hb, hg, h1, h2, h3, h4⟩⟩ := h
  · exact .inl (by rw [h.1]; rfl)
  · refine .inr fun hv => ?_
    obtain rfl : g = b := by simpa [Value.ownBlock] using hv
    obtain ⟨-, o, ho, hr⟩ := hM.here _ hF
    have h5 : o = .cells cur e (0, 0) := Option.some.inj (ho.symm.trans hg)
    have h6 : o = .cells l.toArray t (0, 0) := hr
    rw [h5] at h6
    simp only [Obj.cells.injEq] at h6
    simp [h6.2.1] at hne
theorem RSt.rd {w0 W : World} {b3 b6 b8 b9 : Nat} {s0 s1 : Scr} {M : List Cell} {m o t : Value} (h : RSt w0 W b3 b6 b8 b9 s0 s1 M m o t) : RdC W (seenV s1 m o) M := by
  have hO := h.2
  unfold putM at hO
  unfold seenV
  cases hs : s1.sw with
  | true =>
    rw [if_pos hs] at hO
    rw [if_pos rfl]
    exact hO.ho.rd
  | false =>
    rw [if_neg (by simp [hs])] at hO
    rw [if_neg (by decide)]
    exact hO.hm.rd
theorem apart_old {w1 w2 : World} {b1 b2 n1 n2 s1 s2 : Nat} {e1 e2 : TypeId} {x y : Value} {xs ys : List Value} (h1 : w1.ownsRow b1 e1 s1 x n1 xs) (h2 : w2.ownsRow b2 e2 s2 y n2 ys) (h : w1.heap.size ≤ b2) : apartV y x := by
  unfold apartV
  cases hx : x.ownBlock with
  | none => exact .inl rfl
  | some k =>
    refine .inr fun e => ?_
    have a := (h1.lt k hx).2
    have b := (h2.lt k e.symm).1
    omega
theorem RSt.upd {w0 wr w' : World} {b3 b6 b8 b9 r c : Nat} {s0 s1 : Scr} {M M' : List Cell} {m o t : Value} {A : Option Addr} {n k : Nat} (h : RSt w0 wr b3 b6 b8 b9 s0 s1 M m o t) (hg : GF s1 r c)
    (hM : Mem w0 w' [(b9, Row 33 (attrL s0.cur.a)), (b8, Row 35 (curL s0.cur)), (b6, Row 38 zL), (b3, Row 38 (Mem.putL (scrL s1 m o t) (seenO s1) (gridL r c (.slice A n k))))])
    (hU : Upd w0 wr [(b9, Row 33 (attrL s0.cur.a)), (b8, Row 35 (curL s0.cur)), (b6, Row 38 zL), (b3, Row 38 (scrL s1 m o t))] b3 (.slice A n k) M' w') : ∃ m' o', RSt w0 w' b3 b6 b8 b9 s0 s1 M' m' o' t := by
  obtain ⟨w5, hB, hM5, hO5, hgr⟩ := hU
  rw [gl_put hg] at hM
  have hb3 : (b3, Row 38 (scrL s1 m o t)) ∈ ([(b9, Row 33 (attrL s0.cur.a)), (b8, Row 35 (curL s0.cur)), (b6, Row 38 zL), (b3, Row 38 (scrL s1 m o t))] : List Ent) := .tail _ (.tail _ (.tail _ (.head _)))
  have hO := h.2
  have hz : w0.heap.size ≤ wr.heap.size := h.1.below.size
  have hV : OwnC w' w0.heap.size (.slice A n k) M' := OwnC.lower (hO5.kept hgr (ownE_ne hM5 hb3 hO5 rfl)) hz
  have hk : ∀ {e : TypeId} {q n2 : Nat} {v : Value} {xs : List Value}, (e == 38) = false → wr.ownsRow w0.heap.size e q v n2 xs → w'.ownsRow w0.heap.size e q v n2 xs := fun he hx => by
    have h5 := own_below hx hB
    exact h5.kept hgr (ownE_ne hM5 hb3 h5 he)
  unfold putM at hO
  cases hs : s1.sw with
  | true =>
    rw [if_pos hs] at hO
    rw [hs, if_pos rfl, if_pos rfl] at hM
    refine ⟨m, .slice A n k, hM, ?_⟩
    unfold putM
    rw [if_pos hs]
    exact ⟨hk rfl hO.hm, hV, hk rfl hO.ht, apart_of hO.hm hO5 (Nat.le_refl _), hO.mt, apart_old hO.ht hO5 (Nat.le_refl _)⟩
  | false =>
    have hn : ¬ s1.sw = true := by simp [hs]
    rw [if_neg hn] at hO
    rw [hs, if_neg (by decide), if_neg (by decide)] at hM
    refine ⟨.slice A n k, o, hM, ?_⟩
    unfold putM
    rw [if_neg hn]
    exact ⟨hV, hk rfl hO.ho, hk rfl hO.ht, apart_old hO.ho hO5 (Nat.le_refl _), apart_old hO.ht hO5 (Nat.le_refl _), hO.ot⟩
end Go.Proofs.YtpmfjombfcnhmaaGreatDoor

/- The reference's Edit: the walk's beginning, what is within the margins, laws of its end. -/
namespace Go.Proofs.YtpmfjombfcnhmaaGreatDoor
open Go Go.RowKit Go.Proofs.YtpmfjombfcnhmaaGreatDoorW.PrintLast

def RPost (w : World) (R : Scr) (e : Ending) (w' : World) : Prop := ∃ m' o' t', e = .returned (.agg (scrL R m' o' t').toArray) ∧ OwnScr w' w.heap.size R m' o' t' ∧ Below w.heap.size w w'
theorem m_store1G {P : Program} {ops : Array Oper} {rest : List Oper} {op : Oper} {a : Act} {w0 w : World} {Q : Exit → Act → World → Prop} {F : List Ent} (hM : Mem w0 w F) (hgd : op.guard = none) {ty : TypeId} {x y : Operand} (ho : op.op = .store ty x y) {b k : Nat} (hx : a.eval x = .pointer (some ⟨b, k, none⟩)) (i : Nat) {t : TypeId} {l : List Value} (hF : F[i]? = some (b, Row t l))
    {v : Value} (hy : a.eval y = v) (hv : v.oneCell' = true) (hc : v.cells = #[v]) (hk : k < l.length) (hi : (P.info? ty).map (·.size) = some 1)
    (h : ∀ w', Mem w0 w' (F.set i (b, Row t (l.set k v))) → w.grownBy w' (some b) → wpList P ops Q rest (a.put op.dst undef) w') : wpList P ops Q (op :: rest) a w :=
  wpList_plain hgd fun K hK => by
    have hFm := List.mem_of_getElem? hF
    have hst := run_storeCells_cells (P := P) b k [v] 0 w (fun j hj => by simp at hj; subst hj; rw [hM.cell hFm (List.getElem?_eq_getElem (by omega))]; rfl) (fun j hj => hM.free hFm _) (fun u hu => by simp at hu; subst hu; exact hv)
    simp only [Nat.add_zero] at hst
    have hsv : (storeVar ty ⟨b, k, none⟩ v).run P w = .ok () (w.setCell ⟨b, k, none⟩ v) := by
      cases hq : P.info? ty with
      | none => simp [hq] at hi
      | some q =>
        have hs : 1 = q.size := by simp [hq] at hi; omega
        simp [storeVar, sizeOf, typeInfo, hq, hc, ← hs]
        simpa [World.setCells] using hst
    unfold Oper.wp execOp
    simp only [ho, hx, hy, Instr.storeAt, Instr.sureAddr, Sem.run_bind, Sem.run_pure, Result.andThen_ok, hsv]
    exact hK _ _ (h _ (hM.set hF k v) (grown_set w b k v))
theorem OwnScr.keptE {w0 w w' : World} {F : List Ent} {b base : Nat} {ty : TypeId} {l : List Value} {s : Scr} {m o t : Value} (h : OwnScr w base s m o t) (hM : Mem w0 w F) (hF : (b, Row ty l) ∈ F) (hg : w.grownBy w' (some b)) (h1 : (73 == ty) = false) (h2 : (4 == ty) = false) : OwnScr w' base s m o t :=
  ⟨h.hm.kept hg (ownE_ne hM hF h.hm h1), h.ho.kept hg (ownE_ne hM hF h.ho h1), h.ht.kept hg (ownE_ne hM hF h.ht h2), h.mo, h.mt, h.ot⟩
theorem info_attr : (Tryz.prog.info? 33).map (·.zero) = some (some (.agg (attrL ⟨0, 0, 0⟩).toArray)) := by kernel_rfl
theorem edR_put (s : Scr) (key told : Int) : edR s key told = putM (edS key s.cur.row.toNat s.top.toNat s.bot.toNat s) (edM key (max 0 told) (edN told) s.mr.toNat s.mc.toNat s.cur.row.toNat s.cur.col.toNat s.top.toNat s.bot.toNat s.cur.a (getM s)) := by
  have h : (edS key s.cur.row.toNat s.top.toNat s.bot.toNat s).sw = s.sw := by
    unfold edS
    split
    · rfl
    · split <;> rfl
  unfold edR putM getM
  rw [h]
  cases hs : s.sw <;> simp [h, hs]
theorem putM_get (s : Scr) : putM s (getM s) = s := by
  unfold putM getM
  split <;> rfl
theorem gl_c {s : Scr} {r c : Nat} {m o t : Value} (h : GF s r c) : (scrL s m o t)[seenO s + 1]? = some (.int .i64 (c : Int)) := by
  cases hs : s.sw with
  | true => rw [seenO, if_pos hs, ← h.oc]; rfl
  | false => rw [seenO, if_neg (by simp [hs]), ← h.mc]; rfl
/-- the walk's beginning has ended -/
theorem RSt.ofOwn {w0 W : World} {b3 b6 b8 b9 : Nat} {s s1 : Scr} {m o t : Value} (hM : Mem w0 W [(b9, Row 33 (attrL s.cur.a)), (b8, Row 35 (curL s.cur)), (b6, Row 38 zL), (b3, Row 38 (scrL s1 m o t))]) (hO : OwnScr W w0.heap.size s1 m o t) : RSt w0 W b3 b6 b8 b9 s s1 (getM s1) m o t := ⟨hM, by rw [putM_get]; exact hO⟩
set_option maxRecDepth 100000 in
set_option maxHeartbeats 4000000 in
/-- within the margins? -/
theorem xreg28_is {w wr : World} {b3 b6 b8 b9 row top bot : Nat} {a : Attr} {c0 : Cur} {l : List Value} {b : Bool} {Q : Exit → Act → World → Prop} (hM : Mem w wr [(b9, Row 33 (attrL a)), (b8, Row 35 (curL c0)), (b6, Row 38 zL), (b3, Row 38 l)])
    (hrow : c0.row = (row : Int)) (ht : l[37]? = some (.int .i64 (top : Int))) (hb : l[38]? = some (.int .i64 (bot : Int))) (hd : decide (top ≤ row ∧ row ≤ bot) = b) (u0 u1 u2 u4 u5 u6 u7 u9 u10 u11 u12 u13 u14 u15 u16 u17 u18 u19 u20 u21 u22 u23 u24 u25 u26 u27 u28 u29 u30 u31 u32 u33 u34 u35 u36 u37 u38 u39 u40 u41 u42 u43 u44 u45 u46 u47 u48 u49 u50 u51 u52 u53 u54 u55 u56 u57 u58 u59 u60 u61 u62 u63 u64 u65 u66 u67 u68 u69 u70 u71 u72 u73 u74 u75 u76 u77 u78 u79 u80 u81 u82 u83 u84 u85 u86 u87 u88 u89 u90 u91 u92 u93 u94 u95 u96 u97 u98 u99 u100 u101 u102 u103 u104 u105 u106 u107 u108 u109 u110 u111 u112 u113 u114 u115 u116 u117 u118 u119 u120 u121 u122 u123 u124 u125 u126 u127 u128 u129 u130 u131 u132 u133 u134 u135 u136 u137 u138 u139 u140 u141 u142 u143 u144 u145 u146 u147 u148 u149 u150 u151 u152 u153 u154 u155 u156 u157 u158 u159 u160 u161 u162 u163 u164 u165 u166 u167 u168 u169 u170 u171 u172 u173 u174 u175 u176 u177 u178 u179 u180 u181 u182 u183 u184 u185 u186 u187 u188 u189 u190 u191 u192 u193 u194 u195 u196 u197 u198 u199 u200 u201 u202 u203 u204 u205 u206 u207 u208 u209 u210 u211 u212 u213 u214 u215 u216 u217 u218 u219 u220 u221 u222 u223 u224 u225 u226 u227 u228 u229 u230 u231 u232 u233 u234 u235 u236 u237 u238 u239 u240 u241 u242 : Value)
    (hQ : ∀ (v120 v121 v122 v123 v124 v125 v126 v127 v128 v129 v130 v131 : Value), Q .normal ⟨#[u0, u1, u2, .pointer (some ⟨b3, 0, none⟩), u4, u5, u6, u7, .pointer (some ⟨b8, 0, none⟩), u9, u10, u11, u12, u13, u14, u15, .bool b, u17, u18, u19, u20, u21, u22, u23, u24, u25, u26, u27, u28, u29, u30, u31, u32, u33, u34, u35, u36, u37, u38, u39, u40, u41, u42, u43, u44, u45, u46, u47, u48, u49, u50, u51, u52, u53, u54, u55, u56, u57, u58, u59, u60, u61, u62, u63, u64, u65, u66, u67, u68, u69, u70, u71, u72, u73, u74, u75, u76, u77, u78, u79, u80, u81, u82, u83, u84, u85, u86, u87, u88, u89, u90, u91, u92, u93, u94, u95, u96, u97, u98, u99, u100, u101, u102, u103, u104, u105, u106, u107, u108, u109, u110, u111, u112, u113, u114, u115, u116, u117, u118, u119, v120, v121, v122, v123, v124, v125, v126, v127, v128, v129, v130, v131, u132, u133, u134, u135, u136, u137, u138, u139, u140, u141, u142, u143, u144, u145, u146, u147, u148, u149, u150, u151, u152, u153, u154, u155, u156, u157, u158, u159, u160, u161, u162, u163, u164, u165, u166, u167, u168, u169, u170, u171, u172, u173, u174, u175, u176, u177, u178, u179, u180, u181, u182, u183, u184, u185, u186, u187, u188, u189, u190, u191, u192, u193, u194, u195, u196, u197, u198, u199, u200, u201, u202, u203, u204, u205, u206, u207, u208, u209, u210, u211, u212, u213, u214, u215, u216, u217, u218, u219, u220, u221, u222, u223, u224, u225, u226, u227, u228, u229, u230, u231, u232, u233, u234, u235, u236, u237, u238, u239, u240, u241, u242], []⟩ wr) :
    Code.wp Tryz.prog (xreg 28) Q ⟨#[u0, u1, u2, .pointer (some ⟨b3, 0, none⟩), u4, u5, u6, u7, .pointer (some ⟨b8, 0, none⟩), u9, u10, u11, u12, u13, u14, u15, u16, u17, u18, u19, u20, u21, u22, u23, u24, u25, u26, u27, u28, u29, u30, u31, u32, u33, u34, u35, u36, u37, u38, u39, u40, u41, u42, u43, u44, u45, u46, u47, u48, u49, u50, u51, u52, u53, u54, u55, u56, u57, u58, u59, u60, u61, u62, u63, u64, u65, u66, u67, u68, u69, u70, u71, u72, u73, u74, u75, u76, u77, u78, u79, u80, u81, u82, u83, u84, u85, u86, u87, u88, u89, u90, u91, u92, u93, u94, u95, u96, u97, u98, u99, u100, u101, u102, u103, u104, u105, u106, u107, u108, u109, u110, u111, u112, u113, u114, u115, u116, u117, u118, u119, u120, u121, u122, u123, u124, u125, u126, u127, u128, u129, u130, u131, u132, u133, u134, u135, u136, u137, u138, u139, u140, u141, u142, u143, u144, u145, u146, u147, u148, u149, u150, u151, u152, u153, u154, u155, u156, u157, u158, u159, u160, u161, u162, u163, u164, u165, u166, u167, u168, u169, u170, u171, u172, u173, u174, u175, u176, u177, u178, u179, u180, u181, u182, u183, u184, u185, u186, u187, u188, u189, u190, u191, u192, u193, u194, u195, u196, u197, u198, u199, u200, u201, u202, u203, u204, u205, u206, u207, u208, u209, u210, u211, u212, u213, u214, u215, u216, u217, u218, u219, u220, u221, u222, u223, u224, u225, u226, u227, u228, u229, u230, u231, u232, u233, u234, u235, u236, u237, u238, u239, u240, u241, u242], []⟩ wr := by
  have hc1 : wr.cell? ⟨b8, 0, none⟩ = some (.int .i64 (row : Int)) := hM.cell (.tail _ (.head _)) (by rw [← hrow]; rfl)
  have hc2 : wr.cell? ⟨b3, 37, none⟩ = some (.int .i64 (top : Int)) := hM.cell (.tail _ (.tail _ (.tail _ (.head _)))) ht
  have hc3 : wr.cell? ⟨b3, 38, none⟩ = some (.int .i64 (bot : Int)) := hM.cell (.tail _ (.tail _ (.tail _ (.head _)))) hb
  have HQ := hid hQ
  have HD := hid hd
  clear hM hrow ht hb hQ hd
  conv => arg 2; whnf
  conv => arg 4; zeta
  refine wp_region_lit ?_
  by_cases h1 : top ≤ row
  · have h1b : (top : Int) ≤ (row : Int) := by omega
    by_cases h2 : row ≤ bot
    · have h2b : (row : Int) ≤ (bot : Int) := by omega
      have hb : b = true := by rw [← HD.out]; simp [h1, h2]
      subst hb
      go_wp2
      exact HQ.out _ _ _ _ _ _ _ _ _ _ _ _
    · have h2b : ¬ (row : Int) ≤ (bot : Int) := by omega
      have hb : b = false := by rw [← HD.out]; simp [h2]
      subst hb
      go_wp2
      exact HQ.out _ _ _ _ _ _ _ _ _ _ _ _
  · have h1b : ¬ (top : Int) ≤ (row : Int) := by omega
    have hb : b = false := by rw [← HD.out]; simp [h1]
    subst hb
    go_wp2
    exact HQ.out _ _ _ _ _ _ _ _ _ _ _ _
end Go.Proofs.YtpmfjombfcnhmaaGreatDoor

/- The reference's Edit, key by key (printed by genrk.py). -/
namespace Go.Proofs.YtpmfjombfcnhmaaGreatDoor
open Go Go.RowKit Go.Proofs.YtpmfjombfcnhmaaGreatDoorW.PrintLast

theorem OwnScr.putE {w wy wx : World} {base b : Nat} {s : Scr} {m o t : Value} (h : OwnScr w base s m o t) (hb : w.heap.size ≤ b) (hB : Below w.heap.size w wy) (hg : wy.grownBy wx (some b)) : OwnScr wx base s m o t :=
  have h1 := h.below hB
  ⟨h1.hm.kept hg (own_lt h.hm hb), h1.ho.kept hg (own_lt h.ho hb), h1.ht.kept hg (own_lt h.ht hb), h.mo, h.mt, h.ot⟩
theorem getM_len {s : Scr} {r c : Nat} (hs : scrB s = true) (er : s.mr = (r : Int)) (ec : s.mc = (c : Int)) : (getM s).length = r * c := by
  obtain ⟨hb, -, -, f1, f2, f3, f4⟩ := scrB_facts hs
  have e3 := f3.2.1
  have e4 := f4.2.1
  rw [er, ec] at e3
  rw [← f1, ← f2, er, ec] at e4
  unfold getM
  split
  · have : ((s.os.length : Nat) : Int) = ((r * c : Nat) : Int) := by rw [e4]; push_cast; rfl
    exact Int.ofNat.inj this
  · have : ((s.ms.length : Nat) : Int) = ((r * c : Nat) : Int) := by rw [e3]; push_cast; rfl
    exact Int.ofNat.inj this
theorem getM_row {s : Scr} {r c row : Nat} (hs : scrB s = true) (er : s.mr = (r : Int)) (ec : s.mc = (c : Int)) (hr : row < r) : rowOk (sub (row * c) c (getM s)) := by
  obtain ⟨hb, -, -, f1, f2, f3, f4⟩ := scrB_facts hs
  have g3 := f3.2.2 row (by rw [er]; omega)
  have g4 := f4.2.2 row (by rw [← f1, er]; omega)
  rw [ec, Int.toNat_natCast] at g3
  rw [← f2, ec, Int.toNat_natCast] at g4
  unfold getM
  split
  · exact g4
  · exact g3
theorem onSub_const {o n : Nat} {f : List Cell → List Cell} {M : List Cell} : onSub o n (fun _ => f (sub o n M)) M = onSub o n f M := rfl
theorem rowOk_last {L : List Cell} (h : rowOk L) : (at_ L (L.length - 1)).wd ≠ 1 := fun e => by
  have h1 := h.1
  have := ((h.2.2 (L.length - 1) (by omega)).2.1 e).1
  omega
set_option maxRecDepth 100000 in
set_option maxHeartbeats 8000000 in
theorem redit_88 {s : Scr} {m o t : Value} {n0 : Int} {w : World} (hr : RdScr w s m o t) (hs : scrB s = true) (hn : -1 ≤ n0 ∧ n0 ≤ 9999) :
    Calls Tryz.prog 24 #[.agg (scrL s m o t).toArray, .int .i64 88, .int .i64 n0] w fun e w' => RPost w (edR s 88 n0) e w' := by
  obtain ⟨hb, -, -, f1, f2, -, -⟩ := scrB_facts hs
  have hb1 := hb.mr
  have hb2 := hb.mc
  have hb3 := hb.row
  have hb4 := hb.col
  have hb5 := hb.top
  have hb6 := hb.bot
  clear hb
  obtain ⟨r, er⟩ : ∃ r : Nat, s.mr = (r : Int) := ⟨s.mr.toNat, by omega⟩
  obtain ⟨c, ec⟩ : ∃ c : Nat, s.mc = (c : Int) := ⟨s.mc.toNat, by omega⟩
  obtain ⟨row, erow⟩ : ∃ x : Nat, s.cur.row = (x : Int) := ⟨s.cur.row.toNat, by omega⟩
  obtain ⟨col, ecol⟩ : ∃ x : Nat, s.cur.col = (x : Int) := ⟨s.cur.col.toNat, by omega⟩
  obtain ⟨top, etop⟩ : ∃ x : Nat, s.top = (x : Int) := ⟨s.top.toNat, by omega⟩
  obtain ⟨bot, ebot⟩ : ∃ x : Nat, s.bot = (x : Int) := ⟨s.bot.toNat, by omega⟩
  obtain ⟨n, en⟩ : ∃ n : Nat, max 1 n0 = (n : Int) := ⟨(max 1 n0).toNat, by omega⟩
  have hR : edR s 88 n0 = putM (edS 88 row top bot s) (edM 88 (max 0 n0) n r c row col top bot s.cur.a (getM s)) := by
    rw [edR_put, er, ec, erow, ecol, etop, ebot, edN, en]
    simp only [Int.toNat_natCast]
  have hGF : GF (noWrap s) r c := ⟨er, ec, f1.symm.trans er, f2.symm.trans ec⟩
  have hML := getM_len hs er ec
  have hr1 : 1 ≤ r ∧ r ≤ 40 := by omega
  have hc1 : 1 ≤ c ∧ c ≤ 40 := by omega
  have hrr : row < r := by omega
  have hcc : col < c := by omega
  have htb : top ≤ bot := by omega
  have hbr : bot < r := by omega
  have hn1 : 1 ≤ n := by omega
  have hn2 : n ≤ 9999 := by omega
  have hok := getM_row hs er ec hrr
  have hrI : row * c + c ≤ (getM s).length := by rw [hML]; exact row_inE hrr
  have hlen : (getM s).length ≤ 1600 := by rw [hML]; exact mul_le40 hr1.2 hc1.2
  have HCQ : Hid (∀ m o t, (scrL (noWrap s) m o t)[seenO (noWrap s) + 1]? = some (.int .i64 (c : Int))) := hid fun m o t => gl_c hGF
  have m1 := fun ts t w => run_max_is (P := Tryz.prog) en ts t w
  have HC := hid (fun W (hW : Below w.heap.size w W) => copyS_l (hr.below hW))
  have HRES := hid hR
  have HGF := hid hGF
  have HML := hid hML
  have HOK := hid hok
  have EROW := hid erow
  have ECOL := hid ecol
  have HV1 := hid (show ∀ m o t, (scrL (noWrap s) m o t)[37]? = some (.int .i64 (top : Int)) from fun m o t => by rw [← etop]; rfl)
  have HV2 := hid (show ∀ m o t, (scrL (noWrap s) m o t)[38]? = some (.int .i64 (bot : Int)) from fun m o t => by rw [← ebot]; rfl)
  obtain ⟨a, ha⟩ : ∃ a, s.cur.a = a := ⟨_, rfl⟩
  have HA := hid ha
  have HX := hid (Mem.start w)
  clear hr hs f1 f2 hR hGF hML hok erow ecol etop ebot er ec en ha hb1 hb2 hb3 hb4 hb5 hb6
  go_enter Tryz.func24, Tryz.ntmps24
  go_upto_region 0 with (fail)
  refine wp_region_lit ?_
  refine m_box HX.out rfl rfl rfl ?_
  intro b3 w1 hM1
  simp only [Act.put, List.setIfInBounds_toArray, List.set_cons_zero, List.set_cons_succ]
  refine m_alloc hM1 rfl rfl info_zS ?_
  intro b6 w2 hM
  simp only [Act.put, List.setIfInBounds_toArray, List.set_cons_zero, List.set_cons_succ]
  clear hM1
  have HM := hid (show Mem w w2 [(b6, Row 38 zL), (b3, Row 38 (scrL s m o t))] from hM)
  clear hM
  go_wp2_with (first | ((with_reducible refine wl_id ?_); refine m_loadS HM.out rfl rfl rfl (by first | exact .head _ | exact .tail _ (.head _) | exact .tail _ (.tail _ (.head _)) | exact .tail _ (.tail _ (.tail _ (.head _))) | exact .tail _ (.tail _ (.tail _ (.tail _ (.head _)))) | exact .tail _ (.tail _ (.tail _ (.tail _ (.tail _ (.head _))))) | exact .tail _ (.tail _ (.tail _ (.tail _ (.tail _ (.tail _ (.head _)))))) | exact .tail _ (.tail _ (.tail _ (.tail _ (.tail _ (.tail _ (.tail _ (.head _)))))))) (scrL s m o t) rfl Tryz.underlying38 rfl (by kernel_rfl) ?_; simp only [Act.put, List.setIfInBounds_toArray, List.set_cons_zero, List.set_cons_succ]) | (go_at_call 19; fail))
  refine (HC.out _ HM.out.below).mono ?_
  rintro e w3 ⟨m', o', t', rfl, hO, hB⟩
  obtain ⟨A1, k1, rfl⟩ := hO.hm.slice
  obtain ⟨A2, k2, rfl⟩ := hO.ho.slice
  obtain ⟨A3, k3, rfl⟩ := ownB_slice hO.ht
  have HM3 := hid (HM.out.call hB)
  have HO := hid (show OwnScr w3 w.heap.size s _ _ _ from ⟨OwnC.lower hO.hm HM.out.below.size, OwnC.lower hO.ho HM.out.below.size, ownB_lower (w' := w) hO.ht HM.out.below.size, hO.mo, hO.mt, hO.ot⟩)
  clear hO hB HM HC
  have HM := HM3
  clear HM3
  go_upto_region 2 with (first | ((with_reducible refine wl_id ?_); refine m_storeAG HM.out rfl rfl rfl 1 rfl rfl rfl (by kernel_rfl) rfl ?_; intro wx hM hg; simp only [Act.put, List.setIfInBounds_toArray, List.set_cons_zero, List.set_cons_succ]; simp only [List.set_cons_succ, List.set_cons_zero] at hM; have HMx := hid hM; have HGx := hid hg; clear hM hg))
  have HO2 := hid (HO.out.keptE HM.out (.tail _ (.head _)) HGx.out rfl rfl)
  clear HM HO HGx
  have HM := HMx
  clear HMx
  have HSN := hid (rseen_any HM.out (i := 1) rfl)
  go_upto_region 5 with (first | ((with_reducible refine wl_id ?_); refine m_storeAG HMc.out rfl rfl rfl 0 rfl rfl rfl (by kernel_rfl) rfl ?_; intro wd hM hg; simp only [Act.put, List.setIfInBounds_toArray, List.set_cons_zero, List.set_cons_succ]; simp only [List.set_cons_succ, List.set_cons_zero] at hM; have HMd := hid hM; have HGd := hid hg; clear hM hg) | ((with_reducible refine wl_id ?_); refine m_allocB HMb.out rfl rfl info_attr ?_; intro b9 wc hbn hBy hM; simp only [Act.put, List.setIfInBounds_toArray, List.set_cons_zero, List.set_cons_succ]; have HMc := hid hM; have HNc := hid hbn; have HBc := hid hBy; clear hM hbn hBy) | ((with_reducible refine wl_id ?_); refine m_loadS HMb.out rfl rfl rfl (.head _) (attrL s.cur.a) rfl Tryz.underlying33 rfl (by kernel_rfl) ?_; simp only [Act.put, List.setIfInBounds_toArray, List.set_cons_zero, List.set_cons_succ]) | ((with_reducible refine wl_id ?_); refine m_storeAG HMa.out rfl rfl rfl 0 rfl rfl rfl (by kernel_rfl) rfl ?_; intro wb hM hg; simp only [Act.put, List.setIfInBounds_toArray, List.set_cons_zero, List.set_cons_succ]; simp only [List.set_cons_succ, List.set_cons_zero] at hM; have HMb := hid hM; have HGb := hid hg; clear hM hg) | ((with_reducible refine wl_id ?_); refine m_allocB HM.out rfl rfl info_cur ?_; intro b8 wa hbn hBy hM; simp only [Act.put, List.setIfInBounds_toArray, List.set_cons_zero, List.set_cons_succ]; have HMa := hid hM; have HNa := hid hbn; have HBa := hid hBy; clear hM hbn hBy) | ((with_reducible refine wl_id ?_); refine m_loadS HM.out rfl rfl rfl (.tail _ (.head _)) (curL s.cur) rfl Tryz.underlying35 rfl (by kernel_rfl) ?_; simp only [Act.put, List.setIfInBounds_toArray, List.set_cons_zero, List.set_cons_succ]) | (go_at_call 41; (with_reducible refine HSN.out.mono ?_); rintro e w4 ⟨rfl, rfl⟩))
  have HO4 := hid ((HO2.out.putE HNa.out HBa.out HGb.out).putE HNc.out HBc.out HGd.out)
  clear HM HMa HMb HMc HO2 HSN HNa HBa HGb HNc HBc HGd
  have HM := HMd
  clear HMd
  go_upto_region 7 with (first | ((with_reducible refine wl_id ?_); refine m_store1G HM.out rfl rfl rfl 3 rfl rfl rfl rfl (Nat.le_of_ble_eq_true rfl) (by kernel_rfl) ?_; intro we hM hg; simp only [Act.put, List.setIfInBounds_toArray, List.set_cons_zero, List.set_cons_succ]; simp only [List.set_cons_succ, List.set_cons_zero] at hM; have HMe := hid hM; have HGe := hid hg; clear hM hg))
  have HR := hid (show RSt w we b3 b6 b8 b9 s (noWrap s) (getM s) _ _ _ from RSt.ofOwn (w0 := w) (W := we) (b3 := b3) (b6 := b6) (b8 := b8) (b9 := b9) (s := s) (s1 := noWrap s) HMe.out ((HO4.out.keptE HM.out (.tail _ (.tail _ (.tail _ (.head _)))) HGe.out rfl rfl).as rfl rfl rfl))
  clear HM HMe HGe HO4
  obtain ⟨wp, hwp⟩ : ∃ wp : World, wp = we := ⟨_, rfl⟩
  subst hwp
  go_upto_region 27 with (fail)
  refine xreg27_is (a := s.cur.a) HR.out.1 (gl_get HGF.out) (fun W hW => by rw [EROW.out]; exact rat_any (HR.out.rd.below hW) rfl hrI (by omega) hc1.1 (by omega) (by omega)) (fun _ _ _ _ _ h => by simp +zetaDelta only [Exit.then, Exit.inBlock] at h ⊢; exact h) _ _ _ _ _ _ _ _ _ _ _ _ _ _ _ _ _ _ _ _ _ _ _ _ _ _ _ _ _ _ _ _ _ _ _ _ _ _ _ _ _ _ _ _ _ _ _ _ _ _ _ _ _ _ _ _ _ _ _ _ _ _ _ _ _ _ _ _ _ _ _ _ _ _ _ _ _ _ _ _ _ _ _ _ _ _ _ _ _ _ _ _ _ _ _ _ _ _ _ _ _ _ _ _ _ _ _ _ _ _ _ _ _ _ _ _ _ _ _ _ _ _ _ _ _ _ _ _ _ _ _ _ _ _ _ _ _ _ _ _ _ _ _ _ _ _ _ _ _ _ _ _ _ _ _ _ _ _ _ _ _ _ _ _ _ _ _ _ _ _ _ _ _ _ _ _ _ _ _ _ _ _ _ _ _ _ _ _ _ _ _ _ _ _ _ _ _ _ _ _ _ _ _ _ _ _ _ _ _ _ _ _ _ _ _ _ _ _ _ _ _ _ _ _ _ _ _ _ _ _ _ _ _ _ _ _ _ _ _ ?_
  rintro w7 v15 x114 x115 x116 x117 x118 x119 hM hV hB
  conv => zeta
  have HR7 := hid (show RSt w w7 b3 b6 b8 b9 s (noWrap s) (getM s) _ _ _ from ⟨hM, HR.out.2.below hB⟩)
  have HV := hid hV
  clear hM hV hB HR
  have HR := HR7
  clear HR7
  go_upto_region 28 with (fail)
  obtain ⟨wi, hwi⟩ : ∃ b, decide (top ≤ row ∧ row ≤ bot) = b := ⟨_, rfl⟩
  refine xreg28_is HR.out.1 EROW.out (HV1.out _ _ _) (HV2.out _ _ _) hwi _ _ _ _ _ _ _ _ _ _ _ _ _ _ _ _ _ _ _ _ _ _ _ _ _ _ _ _ _ _ _ _ _ _ _ _ _ _ _ _ _ _ _ _ _ _ _ _ _ _ _ _ _ _ _ _ _ _ _ _ _ _ _ _ _ _ _ _ _ _ _ _ _ _ _ _ _ _ _ _ _ _ _ _ _ _ _ _ _ _ _ _ _ _ _ _ _ _ _ _ _ _ _ _ _ _ _ _ _ _ _ _ _ _ _ _ _ _ _ _ _ _ _ _ _ _ _ _ _ _ _ _ _ _ _ _ _ _ _ _ _ _ _ _ _ _ _ _ _ _ _ _ _ _ _ _ _ _ _ _ _ _ _ _ _ _ _ _ _ _ _ _ _ _ _ _ _ _ _ _ _ _ _ _ _ _ _ _ _ _ _ _ _ _ _ _ _ _ _ _ _ _ _ _ _ _ _ _ _ _ _ _ _ _ _ _ _ _ _ _ _ _ _ _ _ _ _ _ _ _ _ _ _ _ _ _ _ _ _ _ _ ?_
  rintro y120 y121 y122 y123 y124 y125 y126 y127 y128 y129 y130 y131
  conv => zeta
  go_upto_region 31 with (fail)
  refine xreg31_is (a := s.cur.a) (c0 := s.cur) (high := ((min c (col + n) : Nat) : Int)) HR.out.1 (gl_get HGF.out) gl_q (HCQ.out _ _ _) (by rw [ECOL.out]; exact IntWalk.i64_in _ (by omega)) (by rw [ECOL.out]; exact fun ts t w => run_min_is (by omega) ts t w) (fun W hW => by rw [ECOL.out]; exact rerase_any (HV.out.below hW).rd (by omega) (by rw [sub_length]; exact Nat.min_le_left _ _) (by rw [sub_length]; omega)) (fun W v hW hv => by rw [EROW.out]; exact rwith_any (HR.out.rd.below hW) hv (by simp) rfl hrI (by omega) hc1.1 (by omega) (by omega)) (fun _ _ _ _ _ h => by simp +zetaDelta only [Exit.then, Exit.inBlock] at h ⊢; exact h) _ _ _ _ _ _ _ _ _ _ _ _ _ _ _ _ _ _ _ _ _ _ _ _ _ _ _ _ _ _ _ _ _ _ _ _ _ _ _ _ _ _ _ _ _ _ _ _ _ _ _ _ _ _ _ _ _ _ _ _ _ _ _ _ _ _ _ _ _ _ _ _ _ _ _ _ _ _ _ _ _ _ _ _ _ _ _ _ _ _ _ _ _ _ _ _ _ _ _ _ _ _ _ _ _ _ _ _ _ _ _ _ _ _ _ _ _ _ _ _ _ _ _ _ _ _ _ _ _ _ _ _ _ _ _ _ _ _ _ _ _ _ _ _ _ _ _ _ _ _ _ _ _ _ _ _ _ _ _ _ _ _ _ _ _ _ _ _ _ _ _ _ _ _ _ _ _ _ _ _ _ _ _ _ _ _ _ _ _ _ _ _ _ _ _ _ _ _ _ _ _ _ _ _ _ _ _ _ _ _ _ _ _ _ _ _ _ _ _ _ _ _ _ _ _ _ _ _ _ _ _ _ _ _ _ _ _ ?_
  rintro w8 A8 n8 k8 z135 z136 z137 z138 z139 z140 z141 z142 z143 z144 z145 z146 z147 z148 z149 z150 z151 z152 z153 z154 z155 z156 hM hU
  conv => zeta
  obtain ⟨m8, o8, hR8⟩ := HR.out.upd HGF.out hM hU
  have HRz := hid hR8
  clear hM hU hR8 HR HV
  obtain ⟨B1, j1, rfl⟩ := HRz.out.2.hm.slice
  obtain ⟨B2, j2, rfl⟩ := HRz.out.2.ho.slice
  go_wp2_with (first | ((with_reducible refine wl_id ?_); refine m_loadS HRz.out.1 rfl rfl rfl (.tail _ (.tail _ (.tail _ (.head _)))) (scrL (noWrap s) _ _ _) rfl Tryz.underlying38 rfl (by kernel_rfl) ?_; simp only [Act.put, List.setIfInBounds_toArray, List.set_cons_zero, List.set_cons_succ]) | ((with_reducible refine wl_id ?_); refine m_storeAG HRz.out.1 rfl rfl rfl 2 rfl rfl rfl (by kernel_rfl) rfl ?_; intro wy hM hg; simp only [Act.put, List.setIfInBounds_toArray, List.set_cons_zero, List.set_cons_succ]; simp only [List.set_cons_succ, List.set_cons_zero] at hM; have HMz := hid hM; have HGz := hid hg; clear hM hg))
  have hO := HRz.out.2.keptE HRz.out.1 (.tail _ (.tail _ (.head _))) HGz.out rfl rfl
  have hfin : edR s 88 n0 = putM (noWrap s) (onSub (row * c) c (fun _ => wipeL col (min c (col + n)) s.cur.a (sub (row * c) c (getM s))) (getM s)) := by rw [HRES.out, edS, if_neg (by decide), if_neg (fun h => absurd h.1 (by decide))]; rfl
  exact bodyPost_ret (m_results1 HMz.out Tryz.results24 _ rfl (.tail _ (.tail _ (.head _))) (scrL (noWrap s) _ _ _) rfl Tryz.underlying38 rfl (by kernel_rfl)) rfl ⟨_, _, _, by rw [hfin, scrL_putM], by rw [hfin]; exact hO, HMz.out.below⟩
set_option maxRecDepth 100000 in
set_option maxHeartbeats 8000000 in
theorem redit_80 {s : Scr} {m o t : Value} {n0 : Int} {w : World} (hr : RdScr w s m o t) (hs : scrB s = true) (hn : -1 ≤ n0 ∧ n0 ≤ 9999) :
    Calls Tryz.prog 24 #[.agg (scrL s m o t).toArray, .int .i64 80, .int .i64 n0] w fun e w' => RPost w (edR s 80 n0) e w' := by
  obtain ⟨hb, -, -, f1, f2, -, -⟩ := scrB_facts hs
  have hb1 := hb.mr
  have hb2 := hb.mc
  have hb3 := hb.row
  have hb4 := hb.col
  have hb5 := hb.top
  have hb6 := hb.bot
  clear hb
  obtain ⟨r, er⟩ : ∃ r : Nat, s.mr = (r : Int) := ⟨s.mr.toNat, by omega⟩
  obtain ⟨c, ec⟩ : ∃ c : Nat, s.mc = (c : Int) := ⟨s.mc.toNat, by omega⟩
  obtain ⟨row, erow⟩ : ∃ x : Nat, s.cur.row = (x : Int) := ⟨s.cur.row.toNat, by omega⟩
  obtain ⟨col, ecol⟩ : ∃ x : Nat, s.cur.col = (x : Int) := ⟨s.cur.col.toNat, by omega⟩
  obtain ⟨top, etop⟩ : ∃ x : Nat, s.top = (x : Int) := ⟨s.top.toNat, by omega⟩
  obtain ⟨bot, ebot⟩ : ∃ x : Nat, s.bot = (x : Int) := ⟨s.bot.toNat, by omega⟩
  obtain ⟨n, en⟩ : ∃ n : Nat, max 1 n0 = (n : Int) := ⟨(max 1 n0).toNat, by omega⟩
  have hR : edR s 80 n0 = putM (edS 80 row top bot s) (edM 80 (max 0 n0) n r c row col top bot s.cur.a (getM s)) := by
    rw [edR_put, er, ec, erow, ecol, etop, ebot, edN, en]
    simp only [Int.toNat_natCast]
  have hGF : GF (noWrap s) r c := ⟨er, ec, f1.symm.trans er, f2.symm.trans ec⟩
  have hML := getM_len hs er ec
  have hr1 : 1 ≤ r ∧ r ≤ 40 := by omega
  have hc1 : 1 ≤ c ∧ c ≤ 40 := by omega
  have hrr : row < r := by omega
  have hcc : col < c := by omega
  have htb : top ≤ bot := by omega
  have hbr : bot < r := by omega
  have hn1 : 1 ≤ n := by omega
  have hn2 : n ≤ 9999 := by omega
  have hok := getM_row hs er ec hrr
  have hrI : row * c + c ≤ (getM s).length := by rw [hML]; exact row_inE hrr
  have hlen : (getM s).length ≤ 1600 := by rw [hML]; exact mul_le40 hr1.2 hc1.2
  have m1 := fun ts t w => run_max_is (P := Tryz.prog) en ts t w
  have HC := hid (fun W (hW : Below w.heap.size w W) => copyS_l (hr.below hW))
  have HRES := hid hR
  have HGF := hid hGF
  have HML := hid hML
  have HOK := hid hok
  have EROW := hid erow
  have ECOL := hid ecol
  have HV1 := hid (show ∀ m o t, (scrL (noWrap s) m o t)[37]? = some (.int .i64 (top : Int)) from fun m o t => by rw [← etop]; rfl)
  have HV2 := hid (show ∀ m o t, (scrL (noWrap s) m o t)[38]? = some (.int .i64 (bot : Int)) from fun m o t => by rw [← ebot]; rfl)
  obtain ⟨a, ha⟩ : ∃ a, s.cur.a = a := ⟨_, rfl⟩
  have HA := hid ha
  have HX := hid (Mem.start w)
  clear hr hs f1 f2 hR hGF hML hok erow ecol etop ebot er ec en ha hb1 hb2 hb3 hb4 hb5 hb6
  go_enter Tryz.func24, Tryz.ntmps24
  go_upto_region 0 with (fail)
  refine wp_region_lit ?_
  refine m_box HX.out rfl rfl rfl ?_
  intro b3 w1 hM1
  simp only [Act.put, List.setIfInBounds_toArray, List.set_cons_zero, List.set_cons_succ]
  refine m_alloc hM1 rfl rfl info_zS ?_
  intro b6 w2 hM
  simp only [Act.put, List.setIfInBounds_toArray, List.set_cons_zero, List.set_cons_succ]
  clear hM1
  have HM := hid (show Mem w w2 [(b6, Row 38 zL), (b3, Row 38 (scrL s m o t))] from hM)
  clear hM
  go_wp2_with (first | ((with_reducible refine wl_id ?_); refine m_loadS HM.out rfl rfl rfl (by first | exact .head _ | exact .tail _ (.head _) | exact .tail _ (.tail _ (.head _)) | exact .tail _ (.tail _ (.tail _ (.head _))) | exact .tail _ (.tail _ (.tail _ (.tail _ (.head _)))) | exact .tail _ (.tail _ (.tail _ (.tail _ (.tail _ (.head _))))) | exact .tail _ (.tail _ (.tail _ (.tail _ (.tail _ (.tail _ (.head _)))))) | exact .tail _ (.tail _ (.tail _ (.tail _ (.tail _ (.tail _ (.tail _ (.head _)))))))) (scrL s m o t) rfl Tryz.underlying38 rfl (by kernel_rfl) ?_; simp only [Act.put, List.setIfInBounds_toArray, List.set_cons_zero, List.set_cons_succ]) | (go_at_call 19; fail))
  refine (HC.out _ HM.out.below).mono ?_
  rintro e w3 ⟨m', o', t', rfl, hO, hB⟩
  obtain ⟨A1, k1, rfl⟩ := hO.hm.slice
  obtain ⟨A2, k2, rfl⟩ := hO.ho.slice
  obtain ⟨A3, k3, rfl⟩ := ownB_slice hO.ht
  have HM3 := hid (HM.out.call hB)
  have HO := hid (show OwnScr w3 w.heap.size s _ _ _ from ⟨OwnC.lower hO.hm HM.out.below.size, OwnC.lower hO.ho HM.out.below.size, ownB_lower (w' := w) hO.ht HM.out.below.size, hO.mo, hO.mt, hO.ot⟩)
  clear hO hB HM HC
  have HM := HM3
  clear HM3
  go_upto_region 2 with (first | ((with_reducible refine wl_id ?_); refine m_storeAG HM.out rfl rfl rfl 1 rfl rfl rfl (by kernel_rfl) rfl ?_; intro wx hM hg; simp only [Act.put, List.setIfInBounds_toArray, List.set_cons_zero, List.set_cons_succ]; simp only [List.set_cons_succ, List.set_cons_zero] at hM; have HMx := hid hM; have HGx := hid hg; clear hM hg))
  have HO2 := hid (HO.out.keptE HM.out (.tail _ (.head _)) HGx.out rfl rfl)
  clear HM HO HGx
  have HM := HMx
  clear HMx
  have HSN := hid (rseen_any HM.out (i := 1) rfl)
  go_upto_region 5 with (first | ((with_reducible refine wl_id ?_); refine m_storeAG HMc.out rfl rfl rfl 0 rfl rfl rfl (by kernel_rfl) rfl ?_; intro wd hM hg; simp only [Act.put, List.setIfInBounds_toArray, List.set_cons_zero, List.set_cons_succ]; simp only [List.set_cons_succ, List.set_cons_zero] at hM; have HMd := hid hM; have HGd := hid hg; clear hM hg) | ((with_reducible refine wl_id ?_); refine m_allocB HMb.out rfl rfl info_attr ?_; intro b9 wc hbn hBy hM; simp only [Act.put, List.setIfInBounds_toArray, List.set_cons_zero, List.set_cons_succ]; have HMc := hid hM; have HNc := hid hbn; have HBc := hid hBy; clear hM hbn hBy) | ((with_reducible refine wl_id ?_); refine m_loadS HMb.out rfl rfl rfl (.head _) (attrL s.cur.a) rfl Tryz.underlying33 rfl (by kernel_rfl) ?_; simp only [Act.put, List.setIfInBounds_toArray, List.set_cons_zero, List.set_cons_succ]) | ((with_reducible refine wl_id ?_); refine m_storeAG HMa.out rfl rfl rfl 0 rfl rfl rfl (by kernel_rfl) rfl ?_; intro wb hM hg; simp only [Act.put, List.setIfInBounds_toArray, List.set_cons_zero, List.set_cons_succ]; simp only [List.set_cons_succ, List.set_cons_zero] at hM; have HMb := hid hM; have HGb := hid hg; clear hM hg) | ((with_reducible refine wl_id ?_); refine m_allocB HM.out rfl rfl info_cur ?_; intro b8 wa hbn hBy hM; simp only [Act.put, List.setIfInBounds_toArray, List.set_cons_zero, List.set_cons_succ]; have HMa := hid hM; have HNa := hid hbn; have HBa := hid hBy; clear hM hbn hBy) | ((with_reducible refine wl_id ?_); refine m_loadS HM.out rfl rfl rfl (.tail _ (.head _)) (curL s.cur) rfl Tryz.underlying35 rfl (by kernel_rfl) ?_; simp only [Act.put, List.setIfInBounds_toArray, List.set_cons_zero, List.set_cons_succ]) | (go_at_call 41; (with_reducible refine HSN.out.mono ?_); rintro e w4 ⟨rfl, rfl⟩))
  have HO4 := hid ((HO2.out.putE HNa.out HBa.out HGb.out).putE HNc.out HBc.out HGd.out)
  clear HM HMa HMb HMc HO2 HSN HNa HBa HGb HNc HBc HGd
  have HM := HMd
  clear HMd
  go_upto_region 7 with (first | ((with_reducible refine wl_id ?_); refine m_store1G HM.out rfl rfl rfl 3 rfl rfl rfl rfl (Nat.le_of_ble_eq_true rfl) (by kernel_rfl) ?_; intro we hM hg; simp only [Act.put, List.setIfInBounds_toArray, List.set_cons_zero, List.set_cons_succ]; simp only [List.set_cons_succ, List.set_cons_zero] at hM; have HMe := hid hM; have HGe := hid hg; clear hM hg))
  have HR := hid (show RSt w we b3 b6 b8 b9 s (noWrap s) (getM s) _ _ _ from RSt.ofOwn (w0 := w) (W := we) (b3 := b3) (b6 := b6) (b8 := b8) (b9 := b9) (s := s) (s1 := noWrap s) HMe.out ((HO4.out.keptE HM.out (.tail _ (.tail _ (.tail _ (.head _)))) HGe.out rfl rfl).as rfl rfl rfl))
  clear HM HMe HGe HO4
  obtain ⟨wp, hwp⟩ : ∃ wp : World, wp = we := ⟨_, rfl⟩
  subst hwp
  go_upto_region 27 with (fail)
  refine xreg27_is (a := s.cur.a) HR.out.1 (gl_get HGF.out) (fun W hW => by rw [EROW.out]; exact rat_any (HR.out.rd.below hW) rfl hrI (by omega) hc1.1 (by omega) (by omega)) (fun _ _ _ _ _ h => by simp +zetaDelta only [Exit.then, Exit.inBlock] at h ⊢; exact h) _ _ _ _ _ _ _ _ _ _ _ _ _ _ _ _ _ _ _ _ _ _ _ _ _ _ _ _ _ _ _ _ _ _ _ _ _ _ _ _ _ _ _ _ _ _ _ _ _ _ _ _ _ _ _ _ _ _ _ _ _ _ _ _ _ _ _ _ _ _ _ _ _ _ _ _ _ _ _ _ _ _ _ _ _ _ _ _ _ _ _ _ _ _ _ _ _ _ _ _ _ _ _ _ _ _ _ _ _ _ _ _ _ _ _ _ _ _ _ _ _ _ _ _ _ _ _ _ _ _ _ _ _ _ _ _ _ _ _ _ _ _ _ _ _ _ _ _ _ _ _ _ _ _ _ _ _ _ _ _ _ _ _ _ _ _ _ _ _ _ _ _ _ _ _ _ _ _ _ _ _ _ _ _ _ _ _ _ _ _ _ _ _ _ _ _ _ _ _ _ _ _ _ _ _ _ _ _ _ _ _ _ _ _ _ _ _ _ _ _ _ _ _ _ _ _ _ _ _ _ _ _ _ _ _ _ _ _ _ ?_
  rintro w7 v15 x114 x115 x116 x117 x118 x119 hM hV hB
  conv => zeta
  have HR7 := hid (show RSt w w7 b3 b6 b8 b9 s (noWrap s) (getM s) _ _ _ from ⟨hM, HR.out.2.below hB⟩)
  have HV := hid hV
  clear hM hV hB HR
  have HR := HR7
  clear HR7
  go_upto_region 28 with (fail)
  obtain ⟨wi, hwi⟩ : ∃ b, decide (top ≤ row ∧ row ≤ bot) = b := ⟨_, rfl⟩
  refine xreg28_is HR.out.1 EROW.out (HV1.out _ _ _) (HV2.out _ _ _) hwi _ _ _ _ _ _ _ _ _ _ _ _ _ _ _ _ _ _ _ _ _ _ _ _ _ _ _ _ _ _ _ _ _ _ _ _ _ _ _ _ _ _ _ _ _ _ _ _ _ _ _ _ _ _ _ _ _ _ _ _ _ _ _ _ _ _ _ _ _ _ _ _ _ _ _ _ _ _ _ _ _ _ _ _ _ _ _ _ _ _ _ _ _ _ _ _ _ _ _ _ _ _ _ _ _ _ _ _ _ _ _ _ _ _ _ _ _ _ _ _ _ _ _ _ _ _ _ _ _ _ _ _ _ _ _ _ _ _ _ _ _ _ _ _ _ _ _ _ _ _ _ _ _ _ _ _ _ _ _ _ _ _ _ _ _ _ _ _ _ _ _ _ _ _ _ _ _ _ _ _ _ _ _ _ _ _ _ _ _ _ _ _ _ _ _ _ _ _ _ _ _ _ _ _ _ _ _ _ _ _ _ _ _ _ _ _ _ _ _ _ _ _ _ _ _ _ _ _ _ _ _ _ _ _ _ _ _ _ _ _ _ ?_
  rintro y120 y121 y122 y123 y124 y125 y126 y127 y128 y129 y130 y131
  conv => zeta
  go_upto_region 33 with (fail)
  refine xreg33_is (L1 := shutL col (min n (c - col)) s.cur.a (sub (row * c) c (getM s))) (a := s.cur.a) (c0 := s.cur) HR.out.1 (gl_get HGF.out) gl_q (fun W hW => by rw [ECOL.out, shut_same (by rw [sub_length]; omega) (by omega) (by rw [sub_length]; exact hcc) (rowE_of HOK.out) (rowOk_last HOK.out)]; exact rdelete_any (HV.out.below hW).rd (rowE_of HOK.out) (rowOk_last HOK.out) (by rw [sub_length]; exact hcc) (by omega) (by rw [sub_length]; omega) (by rw [sub_length]; omega)) (fun W v hW hv => by rw [EROW.out]; exact rwith_any (HR.out.rd.below hW) hv (by simp) rfl hrI (by omega) hc1.1 (by omega) (by omega)) (fun _ _ _ _ _ h => by simp +zetaDelta only [Exit.then, Exit.inBlock] at h ⊢; exact h) _ _ _ _ _ _ _ _ _ _ _ _ _ _ _ _ _ _ _ _ _ _ _ _ _ _ _ _ _ _ _ _ _ _ _ _ _ _ _ _ _ _ _ _ _ _ _ _ _ _ _ _ _ _ _ _ _ _ _ _ _ _ _ _ _ _ _ _ _ _ _ _ _ _ _ _ _ _ _ _ _ _ _ _ _ _ _ _ _ _ _ _ _ _ _ _ _ _ _ _ _ _ _ _ _ _ _ _ _ _ _ _ _ _ _ _ _ _ _ _ _ _ _ _ _ _ _ _ _ _ _ _ _ _ _ _ _ _ _ _ _ _ _ _ _ _ _ _ _ _ _ _ _ _ _ _ _ _ _ _ _ _ _ _ _ _ _ _ _ _ _ _ _ _ _ _ _ _ _ _ _ _ _ _ _ _ _ _ _ _ _ _ _ _ _ _ _ _ _ _ _ _ _ _ _ _ _ _ _ _ _ _ _ _ _ _ _ _ _ _ _ _ _ _ _ _ _ _ _ _ _ _ _ _ _ _ _ ?_
  rintro w8 A8 n8 k8 z159 z160 z161 z162 z163 z164 z165 z166 z167 z168 z169 z170 z171 z172 hM hU
  conv => zeta
  obtain ⟨m8, o8, hR8⟩ := HR.out.upd HGF.out hM hU
  have HRz := hid hR8
  clear hM hU hR8 HR HV
  obtain ⟨B1, j1, rfl⟩ := HRz.out.2.hm.slice
  obtain ⟨B2, j2, rfl⟩ := HRz.out.2.ho.slice
  go_wp2_with (first | ((with_reducible refine wl_id ?_); refine m_loadS HRz.out.1 rfl rfl rfl (.tail _ (.tail _ (.tail _ (.head _)))) (scrL (noWrap s) _ _ _) rfl Tryz.underlying38 rfl (by kernel_rfl) ?_; simp only [Act.put, List.setIfInBounds_toArray, List.set_cons_zero, List.set_cons_succ]) | ((with_reducible refine wl_id ?_); refine m_storeAG HRz.out.1 rfl rfl rfl 2 rfl rfl rfl (by kernel_rfl) rfl ?_; intro wy hM hg; simp only [Act.put, List.setIfInBounds_toArray, List.set_cons_zero, List.set_cons_succ]; simp only [List.set_cons_succ, List.set_cons_zero] at hM; have HMz := hid hM; have HGz := hid hg; clear hM hg))
  have hO := HRz.out.2.keptE HRz.out.1 (.tail _ (.tail _ (.head _))) HGz.out rfl rfl
  have hfin : edR s 80 n0 = putM (noWrap s) (onSub (row * c) c (fun _ => shutL col (min n (c - col)) s.cur.a (sub (row * c) c (getM s))) (getM s)) := by rw [HRES.out, edS, if_neg (by decide), if_neg (fun h => absurd h.1 (by decide))]; rfl
  exact bodyPost_ret (m_results1 HMz.out Tryz.results24 _ rfl (.tail _ (.tail _ (.head _))) (scrL (noWrap s) _ _ _) rfl Tryz.underlying38 rfl (by kernel_rfl)) rfl ⟨_, _, _, by rw [hfin, scrL_putM], by rw [hfin]; exact hO, HMz.out.below⟩
set_option maxRecDepth 100000 in
set_option maxHeartbeats 8000000 in
theorem redit_64 {s : Scr} {m o t : Value} {n0 : Int} {w : World} (hr : RdScr w s m o t) (hs : scrB s = true) (hn : -1 ≤ n0 ∧ n0 ≤ 9999) :
    Calls Tryz.prog 24 #[.agg (scrL s m o t).toArray, .int .i64 64, .int .i64 n0] w fun e w' => RPost w (edR s 64 n0) e w' := by
  obtain ⟨hb, -, -, f1, f2, -, -⟩ := scrB_facts hs
  have hb1 := hb.mr
  have hb2 := hb.mc
  have hb3 := hb.row
  have hb4 := hb.col
  have hb5 := hb.top
  have hb6 := hb.bot
  clear hb
  obtain ⟨r, er⟩ : ∃ r : Nat, s.mr = (r : Int) := ⟨s.mr.toNat, by omega⟩
  obtain ⟨c, ec⟩ : ∃ c : Nat, s.mc = (c : Int) := ⟨s.mc.toNat, by omega⟩
  obtain ⟨row, erow⟩ : ∃ x : Nat, s.cur.row = (x : Int) := ⟨s.cur.row.toNat, by omega⟩
  obtain ⟨col, ecol⟩ : ∃ x : Nat, s.cur.col = (x : Int) := ⟨s.cur.col.toNat, by omega⟩
  obtain ⟨top, etop⟩ : ∃ x : Nat, s.top = (x : Int) := ⟨s.top.toNat, by omega⟩
  obtain ⟨bot, ebot⟩ : ∃ x : Nat, s.bot = (x : Int) := ⟨s.bot.toNat, by omega⟩
  obtain ⟨n, en⟩ : ∃ n : Nat, max 1 n0 = (n : Int) := ⟨(max 1 n0).toNat, by omega⟩
  have hR : edR s 64 n0 = putM (edS 64 row top bot s) (edM 64 (max 0 n0) n r c row col top bot s.cur.a (getM s)) := by
    rw [edR_put, er, ec, erow, ecol, etop, ebot, edN, en]
    simp only [Int.toNat_natCast]
  have hGF : GF (noWrap s) r c := ⟨er, ec, f1.symm.trans er, f2.symm.trans ec⟩
  have hML := getM_len hs er ec
  have hr1 : 1 ≤ r ∧ r ≤ 40 := by omega
  have hc1 : 1 ≤ c ∧ c ≤ 40 := by omega
  have hrr : row < r := by omega
  have hcc : col < c := by omega
  have htb : top ≤ bot := by omega
  have hbr : bot < r := by omega
  have hn1 : 1 ≤ n := by omega
  have hn2 : n ≤ 9999 := by omega
  have hok := getM_row hs er ec hrr
  have hrI : row * c + c ≤ (getM s).length := by rw [hML]; exact row_inE hrr
  have hlen : (getM s).length ≤ 1600 := by rw [hML]; exact mul_le40 hr1.2 hc1.2
  have m1 := fun ts t w => run_max_is (P := Tryz.prog) en ts t w
  have HC := hid (fun W (hW : Below w.heap.size w W) => copyS_l (hr.below hW))
  have HRES := hid hR
  have HGF := hid hGF
  have HML := hid hML
  have HOK := hid hok
  have EROW := hid erow
  have ECOL := hid ecol
  have HV1 := hid (show ∀ m o t, (scrL (noWrap s) m o t)[37]? = some (.int .i64 (top : Int)) from fun m o t => by rw [← etop]; rfl)
  have HV2 := hid (show ∀ m o t, (scrL (noWrap s) m o t)[38]? = some (.int .i64 (bot : Int)) from fun m o t => by rw [← ebot]; rfl)
  obtain ⟨a, ha⟩ : ∃ a, s.cur.a = a := ⟨_, rfl⟩
  have HA := hid ha
  have HX := hid (Mem.start w)
  clear hr hs f1 f2 hR hGF hML hok erow ecol etop ebot er ec en ha hb1 hb2 hb3 hb4 hb5 hb6
  go_enter Tryz.func24, Tryz.ntmps24
  go_upto_region 0 with (fail)
  refine wp_region_lit ?_
  refine m_box HX.out rfl rfl rfl ?_
  intro b3 w1 hM1
  simp only [Act.put, List.setIfInBounds_toArray, List.set_cons_zero, List.set_cons_succ]
  refine m_alloc hM1 rfl rfl info_zS ?_
  intro b6 w2 hM
  simp only [Act.put, List.setIfInBounds_toArray, List.set_cons_zero, List.set_cons_succ]
  clear hM1
  have HM := hid (show Mem w w2 [(b6, Row 38 zL), (b3, Row 38 (scrL s m o t))] from hM)
  clear hM
  go_wp2_with (first | ((with_reducible refine wl_id ?_); refine m_loadS HM.out rfl rfl rfl (by first | exact .head _ | exact .tail _ (.head _) | exact .tail _ (.tail _ (.head _)) | exact .tail _ (.tail _ (.tail _ (.head _))) | exact .tail _ (.tail _ (.tail _ (.tail _ (.head _)))) | exact .tail _ (.tail _ (.tail _ (.tail _ (.tail _ (.head _))))) | exact .tail _ (.tail _ (.tail _ (.tail _ (.tail _ (.tail _ (.head _)))))) | exact .tail _ (.tail _ (.tail _ (.tail _ (.tail _ (.tail _ (.tail _ (.head _)))))))) (scrL s m o t) rfl Tryz.underlying38 rfl (by kernel_rfl) ?_; simp only [Act.put, List.setIfInBounds_toArray, List.set_cons_zero, List.set_cons_succ]) | (go_at_call 19; fail))
  refine (HC.out _ HM.out.below).mono ?_
  rintro e w3 ⟨m', o', t', rfl, hO, hB⟩
  obtain ⟨A1, k1, rfl⟩ := hO.hm.slice
  obtain ⟨A2, k2, rfl⟩ := hO.ho.slice
  obtain ⟨A3, k3, rfl⟩ := ownB_slice hO.ht
  have HM3 := hid (HM.out.call hB)
  have HO := hid (show OwnScr w3 w.heap.size s _ _ _ from ⟨OwnC.lower hO.hm HM.out.below.size, OwnC.lower hO.ho HM.out.below.size, ownB_lower (w' := w) hO.ht HM.out.below.size, hO.mo, hO.mt, hO.ot⟩)
  clear hO hB HM HC
  have HM := HM3
  clear HM3
  go_upto_region 2 with (first | ((with_reducible refine wl_id ?_); refine m_storeAG HM.out rfl rfl rfl 1 rfl rfl rfl (by kernel_rfl) rfl ?_; intro wx hM hg; simp only [Act.put, List.setIfInBounds_toArray, List.set_cons_zero, List.set_cons_succ]; simp only [List.set_cons_succ, List.set_cons_zero] at hM; have HMx := hid hM; have HGx := hid hg; clear hM hg))
  have HO2 := hid (HO.out.keptE HM.out (.tail _ (.head _)) HGx.out rfl rfl)
  clear HM HO HGx
  have HM := HMx
  clear HMx
  have HSN := hid (rseen_any HM.out (i := 1) rfl)
  go_upto_region 5 with (first | ((with_reducible refine wl_id ?_); refine m_storeAG HMc.out rfl rfl rfl 0 rfl rfl rfl (by kernel_rfl) rfl ?_; intro wd hM hg; simp only [Act.put, List.setIfInBounds_toArray, List.set_cons_zero, List.set_cons_succ]; simp only [List.set_cons_succ, List.set_cons_zero] at hM; have HMd := hid hM; have HGd := hid hg; clear hM hg) | ((with_reducible refine wl_id ?_); refine m_allocB HMb.out rfl rfl info_attr ?_; intro b9 wc hbn hBy hM; simp only [Act.put, List.setIfInBounds_toArray, List.set_cons_zero, List.set_cons_succ]; have HMc := hid hM; have HNc := hid hbn; have HBc := hid hBy; clear hM hbn hBy) | ((with_reducible refine wl_id ?_); refine m_loadS HMb.out rfl rfl rfl (.head _) (attrL s.cur.a) rfl Tryz.underlying33 rfl (by kernel_rfl) ?_; simp only [Act.put, List.setIfInBounds_toArray, List.set_cons_zero, List.set_cons_succ]) | ((with_reducible refine wl_id ?_); refine m_storeAG HMa.out rfl rfl rfl 0 rfl rfl rfl (by kernel_rfl) rfl ?_; intro wb hM hg; simp only [Act.put, List.setIfInBounds_toArray, List.set_cons_zero, List.set_cons_succ]; simp only [List.set_cons_succ, List.set_cons_zero] at hM; have HMb := hid hM; have HGb := hid hg; clear hM hg) | ((with_reducible refine wl_id ?_); refine m_allocB HM.out rfl rfl info_cur ?_; intro b8 wa hbn hBy hM; simp only [Act.put, List.setIfInBounds_toArray, List.set_cons_zero, List.set_cons_succ]; have HMa := hid hM; have HNa := hid hbn; have HBa := hid hBy; clear hM hbn hBy) | ((with_reducible refine wl_id ?_); refine m_loadS HM.out rfl rfl rfl (.tail _ (.head _)) (curL s.cur) rfl Tryz.underlying35 rfl (by kernel_rfl) ?_; simp only [Act.put, List.setIfInBounds_toArray, List.set_cons_zero, List.set_cons_succ]) | (go_at_call 41; (with_reducible refine HSN.out.mono ?_); rintro e w4 ⟨rfl, rfl⟩))
  have HO4 := hid ((HO2.out.putE HNa.out HBa.out HGb.out).putE HNc.out HBc.out HGd.out)
  clear HM HMa HMb HMc HO2 HSN HNa HBa HGb HNc HBc HGd
  have HM := HMd
  clear HMd
  go_upto_region 7 with (first | ((with_reducible refine wl_id ?_); refine m_store1G HM.out rfl rfl rfl 3 rfl rfl rfl rfl (Nat.le_of_ble_eq_true rfl) (by kernel_rfl) ?_; intro we hM hg; simp only [Act.put, List.setIfInBounds_toArray, List.set_cons_zero, List.set_cons_succ]; simp only [List.set_cons_succ, List.set_cons_zero] at hM; have HMe := hid hM; have HGe := hid hg; clear hM hg))
  have HR := hid (show RSt w we b3 b6 b8 b9 s (noWrap s) (getM s) _ _ _ from RSt.ofOwn (w0 := w) (W := we) (b3 := b3) (b6 := b6) (b8 := b8) (b9 := b9) (s := s) (s1 := noWrap s) HMe.out ((HO4.out.keptE HM.out (.tail _ (.tail _ (.tail _ (.head _)))) HGe.out rfl rfl).as rfl rfl rfl))
  clear HM HMe HGe HO4
  obtain ⟨wp, hwp⟩ : ∃ wp : World, wp = we := ⟨_, rfl⟩
  subst hwp
  go_upto_region 27 with (fail)
  refine xreg27_is (a := s.cur.a) HR.out.1 (gl_get HGF.out) (fun W hW => by rw [EROW.out]; exact rat_any (HR.out.rd.below hW) rfl hrI (by omega) hc1.1 (by omega) (by omega)) (fun _ _ _ _ _ h => by simp +zetaDelta only [Exit.then, Exit.inBlock] at h ⊢; exact h) _ _ _ _ _ _ _ _ _ _ _ _ _ _ _ _ _ _ _ _ _ _ _ _ _ _ _ _ _ _ _ _ _ _ _ _ _ _ _ _ _ _ _ _ _ _ _ _ _ _ _ _ _ _ _ _ _ _ _ _ _ _ _ _ _ _ _ _ _ _ _ _ _ _ _ _ _ _ _ _ _ _ _ _ _ _ _ _ _ _ _ _ _ _ _ _ _ _ _ _ _ _ _ _ _ _ _ _ _ _ _ _ _ _ _ _ _ _ _ _ _ _ _ _ _ _ _ _ _ _ _ _ _ _ _ _ _ _ _ _ _ _ _ _ _ _ _ _ _ _ _ _ _ _ _ _ _ _ _ _ _ _ _ _ _ _ _ _ _ _ _ _ _ _ _ _ _ _ _ _ _ _ _ _ _ _ _ _ _ _ _ _ _ _ _ _ _ _ _ _ _ _ _ _ _ _ _ _ _ _ _ _ _ _ _ _ _ _ _ _ _ _ _ _ _ _ _ _ _ _ _ _ _ _ _ _ _ _ _ ?_
  rintro w7 v15 x114 x115 x116 x117 x118 x119 hM hV hB
  conv => zeta
  have HR7 := hid (show RSt w w7 b3 b6 b8 b9 s (noWrap s) (getM s) _ _ _ from ⟨hM, HR.out.2.below hB⟩)
  have HV := hid hV
  clear hM hV hB HR
  have HR := HR7
  clear HR7
  go_upto_region 28 with (fail)
  obtain ⟨wi, hwi⟩ : ∃ b, decide (top ≤ row ∧ row ≤ bot) = b := ⟨_, rfl⟩
  refine xreg28_is HR.out.1 EROW.out (HV1.out _ _ _) (HV2.out _ _ _) hwi _ _ _ _ _ _ _ _ _ _ _ _ _ _ _ _ _ _ _ _ _ _ _ _ _ _ _ _ _ _ _ _ _ _ _ _ _ _ _ _ _ _ _ _ _ _ _ _ _ _ _ _ _ _ _ _ _ _ _ _ _ _ _ _ _ _ _ _ _ _ _ _ _ _ _ _ _ _ _ _ _ _ _ _ _ _ _ _ _ _ _ _ _ _ _ _ _ _ _ _ _ _ _ _ _ _ _ _ _ _ _ _ _ _ _ _ _ _ _ _ _ _ _ _ _ _ _ _ _ _ _ _ _ _ _ _ _ _ _ _ _ _ _ _ _ _ _ _ _ _ _ _ _ _ _ _ _ _ _ _ _ _ _ _ _ _ _ _ _ _ _ _ _ _ _ _ _ _ _ _ _ _ _ _ _ _ _ _ _ _ _ _ _ _ _ _ _ _ _ _ _ _ _ _ _ _ _ _ _ _ _ _ _ _ _ _ _ _ _ _ _ _ _ _ _ _ _ _ _ _ _ _ _ _ _ _ _ _ _ _ _ ?_
  rintro y120 y121 y122 y123 y124 y125 y126 y127 y128 y129 y130 y131
  conv => zeta
  go_upto_region 35 with (fail)
  refine xreg35_is (L1 := openL col (min n (c - col)) s.cur.a (sub (row * c) c (getM s))) (a := s.cur.a) (c0 := s.cur) HR.out.1 (gl_get HGF.out) gl_q (fun W hW => by rw [ECOL.out, open_same (by rw [sub_length]; omega) (by omega) (rowE_of HOK.out)]; exact rinsert_any (HV.out.below hW).rd (rowE_of HOK.out) (by rw [sub_length]; exact hcc) (by omega) (by rw [sub_length]; omega) (by rw [sub_length]; omega)) (fun W v hW hv => by rw [EROW.out]; exact rwith_any (HR.out.rd.below hW) hv (by simp) rfl hrI (by omega) hc1.1 (by omega) (by omega)) (fun _ _ _ _ _ h => by simp +zetaDelta only [Exit.then, Exit.inBlock] at h ⊢; exact h) _ _ _ _ _ _ _ _ _ _ _ _ _ _ _ _ _ _ _ _ _ _ _ _ _ _ _ _ _ _ _ _ _ _ _ _ _ _ _ _ _ _ _ _ _ _ _ _ _ _ _ _ _ _ _ _ _ _ _ _ _ _ _ _ _ _ _ _ _ _ _ _ _ _ _ _ _ _ _ _ _ _ _ _ _ _ _ _ _ _ _ _ _ _ _ _ _ _ _ _ _ _ _ _ _ _ _ _ _ _ _ _ _ _ _ _ _ _ _ _ _ _ _ _ _ _ _ _ _ _ _ _ _ _ _ _ _ _ _ _ _ _ _ _ _ _ _ _ _ _ _ _ _ _ _ _ _ _ _ _ _ _ _ _ _ _ _ _ _ _ _ _ _ _ _ _ _ _ _ _ _ _ _ _ _ _ _ _ _ _ _ _ _ _ _ _ _ _ _ _ _ _ _ _ _ _ _ _ _ _ _ _ _ _ _ _ _ _ _ _ _ _ _ _ _ _ _ _ _ _ _ _ _ _ _ _ _ ?_
  rintro w8 A8 n8 k8 z175 z176 z177 z178 z179 z180 z181 z182 z183 z184 z185 z186 z187 z188 hM hU
  conv => zeta
  obtain ⟨m8, o8, hR8⟩ := HR.out.upd HGF.out hM hU
  have HRz := hid hR8
  clear hM hU hR8 HR HV
  obtain ⟨B1, j1, rfl⟩ := HRz.out.2.hm.slice
  obtain ⟨B2, j2, rfl⟩ := HRz.out.2.ho.slice
  go_wp2_with (first | ((with_reducible refine wl_id ?_); refine m_loadS HRz.out.1 rfl rfl rfl (.tail _ (.tail _ (.tail _ (.head _)))) (scrL (noWrap s) _ _ _) rfl Tryz.underlying38 rfl (by kernel_rfl) ?_; simp only [Act.put, List.setIfInBounds_toArray, List.set_cons_zero, List.set_cons_succ]) | ((with_reducible refine wl_id ?_); refine m_storeAG HRz.out.1 rfl rfl rfl 2 rfl rfl rfl (by kernel_rfl) rfl ?_; intro wy hM hg; simp only [Act.put, List.setIfInBounds_toArray, List.set_cons_zero, List.set_cons_succ]; simp only [List.set_cons_succ, List.set_cons_zero] at hM; have HMz := hid hM; have HGz := hid hg; clear hM hg))
  have hO := HRz.out.2.keptE HRz.out.1 (.tail _ (.tail _ (.head _))) HGz.out rfl rfl
  have hfin : edR s 64 n0 = putM (noWrap s) (onSub (row * c) c (fun _ => openL col (min n (c - col)) s.cur.a (sub (row * c) c (getM s))) (getM s)) := by rw [HRES.out, edS, if_neg (by decide), if_neg (fun h => absurd h.1 (by decide))]; rfl
  exact bodyPost_ret (m_results1 HMz.out Tryz.results24 _ rfl (.tail _ (.tail _ (.head _))) (scrL (noWrap s) _ _ _) rfl Tryz.underlying38 rfl (by kernel_rfl)) rfl ⟨_, _, _, by rw [hfin, scrL_putM], by rw [hfin]; exact hO, HMz.out.below⟩
set_option maxRecDepth 100000 in
set_option maxHeartbeats 8000000 in
theorem redit_76in {s : Scr} {m o t : Value} {n0 : Int} {w : World} (hr : RdScr w s m o t) (hs : scrB s = true) (hn : -1 ≤ n0 ∧ n0 ≤ 9999) (hin : s.top.toNat ≤ s.cur.row.toNat ∧ s.cur.row.toNat ≤ s.bot.toNat) :
    Calls Tryz.prog 24 #[.agg (scrL s m o t).toArray, .int .i64 76, .int .i64 n0] w fun e w' => RPost w (edR s 76 n0) e w' := by
  obtain ⟨hb, -, -, f1, f2, -, -⟩ := scrB_facts hs
  have hb1 := hb.mr
  have hb2 := hb.mc
  have hb3 := hb.row
  have hb4 := hb.col
  have hb5 := hb.top
  have hb6 := hb.bot
  clear hb
  obtain ⟨r, er⟩ : ∃ r : Nat, s.mr = (r : Int) := ⟨s.mr.toNat, by omega⟩
  obtain ⟨c, ec⟩ : ∃ c : Nat, s.mc = (c : Int) := ⟨s.mc.toNat, by omega⟩
  obtain ⟨row, erow⟩ : ∃ x : Nat, s.cur.row = (x : Int) := ⟨s.cur.row.toNat, by omega⟩
  obtain ⟨col, ecol⟩ : ∃ x : Nat, s.cur.col = (x : Int) := ⟨s.cur.col.toNat, by omega⟩
  obtain ⟨top, etop⟩ : ∃ x : Nat, s.top = (x : Int) := ⟨s.top.toNat, by omega⟩
  obtain ⟨bot, ebot⟩ : ∃ x : Nat, s.bot = (x : Int) := ⟨s.bot.toNat, by omega⟩
  obtain ⟨n, en⟩ : ∃ n : Nat, max 1 n0 = (n : Int) := ⟨(max 1 n0).toNat, by omega⟩
  have hR : edR s 76 n0 = putM (edS 76 row top bot s) (edM 76 (max 0 n0) n r c row col top bot s.cur.a (getM s)) := by
    rw [edR_put, er, ec, erow, ecol, etop, ebot, edN, en]
    simp only [Int.toNat_natCast]
  have hGF : GF (noWrap s) r c := ⟨er, ec, f1.symm.trans er, f2.symm.trans ec⟩
  have hML := getM_len hs er ec
  have hr1 : 1 ≤ r ∧ r ≤ 40 := by omega
  have hc1 : 1 ≤ c ∧ c ≤ 40 := by omega
  have hrr : row < r := by omega
  have hcc : col < c := by omega
  have htb : top ≤ bot := by omega
  have hbr : bot < r := by omega
  have hn1 : 1 ≤ n := by omega
  have hn2 : n ≤ 9999 := by omega
  have hok := getM_row hs er ec hrr
  have hrI : row * c + c ≤ (getM s).length := by rw [hML]; exact row_inE hrr
  have hlen : (getM s).length ≤ 1600 := by rw [hML]; exact mul_le40 hr1.2 hc1.2
  rw [etop, erow, ebot, Int.toNat_natCast, Int.toNat_natCast, Int.toNat_natCast] at hin
  have s4 : IntKind.i64.wrap (-(n : Int)) = -(n : Int) := IntWalk.i64_in _ (by omega)
  have m1 := fun ts t w => run_max_is (P := Tryz.prog) en ts t w
  have HC := hid (fun W (hW : Below w.heap.size w W) => copyS_l (hr.below hW))
  have HRES := hid hR
  have HGF := hid hGF
  have HML := hid hML
  have HOK := hid hok
  have EROW := hid erow
  have ECOL := hid ecol
  have HV1 := hid (show ∀ m o t, (scrL (noWrap s) m o t)[37]? = some (.int .i64 (top : Int)) from fun m o t => by rw [← etop]; rfl)
  have HV2 := hid (show ∀ m o t, (scrL (noWrap s) m o t)[38]? = some (.int .i64 (bot : Int)) from fun m o t => by rw [← ebot]; rfl)
  obtain ⟨a, ha⟩ : ∃ a, s.cur.a = a := ⟨_, rfl⟩
  have HA := hid ha
  have HX := hid (Mem.start w)
  clear hr hs f1 f2 hR hGF hML hok erow ecol etop ebot er ec en ha hb1 hb2 hb3 hb4 hb5 hb6
  go_enter Tryz.func24, Tryz.ntmps24
  go_upto_region 0 with (fail)
  refine wp_region_lit ?_
  refine m_box HX.out rfl rfl rfl ?_
  intro b3 w1 hM1
  simp only [Act.put, List.setIfInBounds_toArray, List.set_cons_zero, List.set_cons_succ]
  refine m_alloc hM1 rfl rfl info_zS ?_
  intro b6 w2 hM
  simp only [Act.put, List.setIfInBounds_toArray, List.set_cons_zero, List.set_cons_succ]
  clear hM1
  have HM := hid (show Mem w w2 [(b6, Row 38 zL), (b3, Row 38 (scrL s m o t))] from hM)
  clear hM
  go_wp2_with (first | ((with_reducible refine wl_id ?_); refine m_loadS HM.out rfl rfl rfl (by first | exact .head _ | exact .tail _ (.head _) | exact .tail _ (.tail _ (.head _)) | exact .tail _ (.tail _ (.tail _ (.head _))) | exact .tail _ (.tail _ (.tail _ (.tail _ (.head _)))) | exact .tail _ (.tail _ (.tail _ (.tail _ (.tail _ (.head _))))) | exact .tail _ (.tail _ (.tail _ (.tail _ (.tail _ (.tail _ (.head _)))))) | exact .tail _ (.tail _ (.tail _ (.tail _ (.tail _ (.tail _ (.tail _ (.head _)))))))) (scrL s m o t) rfl Tryz.underlying38 rfl (by kernel_rfl) ?_; simp only [Act.put, List.setIfInBounds_toArray, List.set_cons_zero, List.set_cons_succ]) | (go_at_call 19; fail))
  refine (HC.out _ HM.out.below).mono ?_
  rintro e w3 ⟨m', o', t', rfl, hO, hB⟩
  obtain ⟨A1, k1, rfl⟩ := hO.hm.slice
  obtain ⟨A2, k2, rfl⟩ := hO.ho.slice
  obtain ⟨A3, k3, rfl⟩ := ownB_slice hO.ht
  have HM3 := hid (HM.out.call hB)
  have HO := hid (show OwnScr w3 w.heap.size s _ _ _ from ⟨OwnC.lower hO.hm HM.out.below.size, OwnC.lower hO.ho HM.out.below.size, ownB_lower (w' := w) hO.ht HM.out.below.size, hO.mo, hO.mt, hO.ot⟩)
  clear hO hB HM HC
  have HM := HM3
  clear HM3
  go_upto_region 2 with (first | ((with_reducible refine wl_id ?_); refine m_storeAG HM.out rfl rfl rfl 1 rfl rfl rfl (by kernel_rfl) rfl ?_; intro wx hM hg; simp only [Act.put, List.setIfInBounds_toArray, List.set_cons_zero, List.set_cons_succ]; simp only [List.set_cons_succ, List.set_cons_zero] at hM; have HMx := hid hM; have HGx := hid hg; clear hM hg))
  have HO2 := hid (HO.out.keptE HM.out (.tail _ (.head _)) HGx.out rfl rfl)
  clear HM HO HGx
  have HM := HMx
  clear HMx
  have HSN := hid (rseen_any HM.out (i := 1) rfl)
  go_upto_region 5 with (first | ((with_reducible refine wl_id ?_); refine m_storeAG HMc.out rfl rfl rfl 0 rfl rfl rfl (by kernel_rfl) rfl ?_; intro wd hM hg; simp only [Act.put, List.setIfInBounds_toArray, List.set_cons_zero, List.set_cons_succ]; simp only [List.set_cons_succ, List.set_cons_zero] at hM; have HMd := hid hM; have HGd := hid hg; clear hM hg) | ((with_reducible refine wl_id ?_); refine m_allocB HMb.out rfl rfl info_attr ?_; intro b9 wc hbn hBy hM; simp only [Act.put, List.setIfInBounds_toArray, List.set_cons_zero, List.set_cons_succ]; have HMc := hid hM; have HNc := hid hbn; have HBc := hid hBy; clear hM hbn hBy) | ((with_reducible refine wl_id ?_); refine m_loadS HMb.out rfl rfl rfl (.head _) (attrL s.cur.a) rfl Tryz.underlying33 rfl (by kernel_rfl) ?_; simp only [Act.put, List.setIfInBounds_toArray, List.set_cons_zero, List.set_cons_succ]) | ((with_reducible refine wl_id ?_); refine m_storeAG HMa.out rfl rfl rfl 0 rfl rfl rfl (by kernel_rfl) rfl ?_; intro wb hM hg; simp only [Act.put, List.setIfInBounds_toArray, List.set_cons_zero, List.set_cons_succ]; simp only [List.set_cons_succ, List.set_cons_zero] at hM; have HMb := hid hM; have HGb := hid hg; clear hM hg) | ((with_reducible refine wl_id ?_); refine m_allocB HM.out rfl rfl info_cur ?_; intro b8 wa hbn hBy hM; simp only [Act.put, List.setIfInBounds_toArray, List.set_cons_zero, List.set_cons_succ]; have HMa := hid hM; have HNa := hid hbn; have HBa := hid hBy; clear hM hbn hBy) | ((with_reducible refine wl_id ?_); refine m_loadS HM.out rfl rfl rfl (.tail _ (.head _)) (curL s.cur) rfl Tryz.underlying35 rfl (by kernel_rfl) ?_; simp only [Act.put, List.setIfInBounds_toArray, List.set_cons_zero, List.set_cons_succ]) | (go_at_call 41; (with_reducible refine HSN.out.mono ?_); rintro e w4 ⟨rfl, rfl⟩))
  have HO4 := hid ((HO2.out.putE HNa.out HBa.out HGb.out).putE HNc.out HBc.out HGd.out)
  clear HM HMa HMb HMc HO2 HSN HNa HBa HGb HNc HBc HGd
  have HM := HMd
  clear HMd
  go_upto_region 7 with (first | ((with_reducible refine wl_id ?_); refine m_store1G HM.out rfl rfl rfl 3 rfl rfl rfl rfl (Nat.le_of_ble_eq_true rfl) (by kernel_rfl) ?_; intro we hM hg; simp only [Act.put, List.setIfInBounds_toArray, List.set_cons_zero, List.set_cons_succ]; simp only [List.set_cons_succ, List.set_cons_zero] at hM; have HMe := hid hM; have HGe := hid hg; clear hM hg))
  have HR := hid (show RSt w we b3 b6 b8 b9 s (noWrap s) (getM s) _ _ _ from RSt.ofOwn (w0 := w) (W := we) (b3 := b3) (b6 := b6) (b8 := b8) (b9 := b9) (s := s) (s1 := noWrap s) HMe.out ((HO4.out.keptE HM.out (.tail _ (.tail _ (.tail _ (.head _)))) HGe.out rfl rfl).as rfl rfl rfl))
  clear HM HMe HGe HO4
  obtain ⟨wp, hwp⟩ : ∃ wp : World, wp = we := ⟨_, rfl⟩
  subst hwp
  go_upto_region 27 with (fail)
  refine xreg27_is (a := s.cur.a) HR.out.1 (gl_get HGF.out) (fun W hW => by rw [EROW.out]; exact rat_any (HR.out.rd.below hW) rfl hrI (by omega) hc1.1 (by omega) (by omega)) (fun _ _ _ _ _ h => by simp +zetaDelta only [Exit.then, Exit.inBlock] at h ⊢; exact h) _ _ _ _ _ _ _ _ _ _ _ _ _ _ _ _ _ _ _ _ _ _ _ _ _ _ _ _ _ _ _ _ _ _ _ _ _ _ _ _ _ _ _ _ _ _ _ _ _ _ _ _ _ _ _ _ _ _ _ _ _ _ _ _ _ _ _ _ _ _ _ _ _ _ _ _ _ _ _ _ _ _ _ _ _ _ _ _ _ _ _ _ _ _ _ _ _ _ _ _ _ _ _ _ _ _ _ _ _ _ _ _ _ _ _ _ _ _ _ _ _ _ _ _ _ _ _ _ _ _ _ _ _ _ _ _ _ _ _ _ _ _ _ _ _ _ _ _ _ _ _ _ _ _ _ _ _ _ _ _ _ _ _ _ _ _ _ _ _ _ _ _ _ _ _ _ _ _ _ _ _ _ _ _ _ _ _ _ _ _ _ _ _ _ _ _ _ _ _ _ _ _ _ _ _ _ _ _ _ _ _ _ _ _ _ _ _ _ _ _ _ _ _ _ _ _ _ _ _ _ _ _ _ _ _ _ _ _ _ ?_
  rintro w7 v15 x114 x115 x116 x117 x118 x119 hM hV hB
  conv => zeta
  have HR7 := hid (show RSt w w7 b3 b6 b8 b9 s (noWrap s) (getM s) _ _ _ from ⟨hM, HR.out.2.below hB⟩)
  have HV := hid hV
  clear hM hV hB HR
  have HR := HR7
  clear HR7
  go_upto_region 28 with (fail)
  obtain ⟨wi, hwi⟩ : ∃ b, decide (top ≤ row ∧ row ≤ bot) = b := ⟨_, rfl⟩
  refine xreg28_is HR.out.1 EROW.out (HV1.out _ _ _) (HV2.out _ _ _) hwi _ _ _ _ _ _ _ _ _ _ _ _ _ _ _ _ _ _ _ _ _ _ _ _ _ _ _ _ _ _ _ _ _ _ _ _ _ _ _ _ _ _ _ _ _ _ _ _ _ _ _ _ _ _ _ _ _ _ _ _ _ _ _ _ _ _ _ _ _ _ _ _ _ _ _ _ _ _ _ _ _ _ _ _ _ _ _ _ _ _ _ _ _ _ _ _ _ _ _ _ _ _ _ _ _ _ _ _ _ _ _ _ _ _ _ _ _ _ _ _ _ _ _ _ _ _ _ _ _ _ _ _ _ _ _ _ _ _ _ _ _ _ _ _ _ _ _ _ _ _ _ _ _ _ _ _ _ _ _ _ _ _ _ _ _ _ _ _ _ _ _ _ _ _ _ _ _ _ _ _ _ _ _ _ _ _ _ _ _ _ _ _ _ _ _ _ _ _ _ _ _ _ _ _ _ _ _ _ _ _ _ _ _ _ _ _ _ _ _ _ _ _ _ _ _ _ _ _ _ _ _ _ _ _ _ _ _ _ _ _ _ ?_
  rintro y120 y121 y122 y123 y124 y125 y126 y127 y128 y129 y130 y131
  conv => zeta
  obtain rfl : wi = true := by rw [← hwi]; simpa using hin
  go_upto_region 42 with (fail)
  refine xreg42_is (M' := mvTo c row bot (-(n : Int)) s.cur.a (getM s) r) (a := s.cur.a) (c0 := s.cur) HR.out.1 (gl_get HGF.out) gl_q (HV2.out _ _ _) (fun W hW => by rw [EROW.out]; exact rmoveG_any (HR.out.rd.below hW) HML.out hin.2 hbr (by omega) hc1.1 (by omega) (by omega) (by omega)) (fun _ _ _ _ _ h => by simp +zetaDelta only [Exit.then, Exit.inBlock] at h ⊢; exact h) _ _ _ _ _ _ _ _ _ _ _ _ _ _ _ _ _ _ _ _ _ _ _ _ _ _ _ _ _ _ _ _ _ _ _ _ _ _ _ _ _ _ _ _ _ _ _ _ _ _ _ _ _ _ _ _ _ _ _ _ _ _ _ _ _ _ _ _ _ _ _ _ _ _ _ _ _ _ _ _ _ _ _ _ _ _ _ _ _ _ _ _ _ _ _ _ _ _ _ _ _ _ _ _ _ _ _ _ _ _ _ _ _ _ _ _ _ _ _ _ _ _ _ _ _ _ _ _ _ _ _ _ _ _ _ _ _ _ _ _ _ _ _ _ _ _ _ _ _ _ _ _ _ _ _ _ _ _ _ _ _ _ _ _ _ _ _ _ _ _ _ _ _ _ _ _ _ _ _ _ _ _ _ _ _ _ _ _ _ _ _ _ _ _ _ _ _ _ _ _ _ _ _ _ _ _ _ _ _ _ _ _ _ _ _ _ _ _ _ _ _ _ _ _ _ _ _ _ _ _ _ _ _ _ _ _ _ _ ?_
  rintro w8 A8 n8 k8 z199 z200 z201 z202 z203 z204 z205 z206 z207 z208 z209 z210 hM hU
  conv => zeta
  obtain ⟨m8, o8, hR8⟩ := HR.out.upd HGF.out hM hU
  have HR8 := hid hR8
  clear hM hU hR8 HR HV
  go_upto_region 48 with (first | ((with_reducible refine wl_id ?_); refine m_store1G HR8.out.1 rfl rfl rfl 3 rfl rfl rfl rfl (Nat.le_of_ble_eq_true rfl) (by kernel_rfl) ?_; intro we hM hg; simp only [Act.put, List.setIfInBounds_toArray, List.set_cons_zero, List.set_cons_succ]; simp only [List.set_cons_succ, List.set_cons_zero] at hM; have HMe := hid hM; have HGe := hid hg; clear hM hg))
  have hm := mvTo_down (b := n) (a := s.cur.a) HML.out hin.2 hbr hc1.1 hn1
  have HRz := hid (show RSt w we b3 b6 b8 b9 s (atCol (noWrap s) 0) (onSub (row * c) ((bot + 1) * c - row * c) (downL (min n (bot - row + 1) * c) s.cur.a) (getM s)) m8 o8 _ from ⟨HMe.out, by
    have h := HR8.out.2.keptE HR8.out.1 (.tail _ (.tail _ (.tail _ (.head _)))) HGe.out rfl rfl
    rw [hm] at h
    unfold putM at h ⊢
    cases hsw : s.sw with
    | true => rw [if_pos (show (noWrap s).sw = true from hsw)] at h; rw [if_pos (show (atCol (noWrap s) 0).sw = true from hsw)]; exact h.as rfl rfl rfl
    | false => rw [if_neg (show ¬ (noWrap s).sw = true by simp [noWrap, hsw])] at h; rw [if_neg (show ¬ (atCol (noWrap s) 0).sw = true by simp [atCol, noWrap, hsw])]; exact h.as rfl rfl rfl⟩)
  clear HR8 HMe HGe
  obtain ⟨B1, j1, rfl⟩ := HRz.out.2.hm.slice
  obtain ⟨B2, j2, rfl⟩ := HRz.out.2.ho.slice
  go_wp2_with (first | ((with_reducible refine wl_id ?_); refine m_loadS HRz.out.1 rfl rfl rfl (.tail _ (.tail _ (.tail _ (.head _)))) (scrL (atCol (noWrap s) 0) _ _ _) rfl Tryz.underlying38 rfl (by kernel_rfl) ?_; simp only [Act.put, List.setIfInBounds_toArray, List.set_cons_zero, List.set_cons_succ]) | ((with_reducible refine wl_id ?_); refine m_storeAG HRz.out.1 rfl rfl rfl 2 rfl rfl rfl (by kernel_rfl) rfl ?_; intro wy hM hg; simp only [Act.put, List.setIfInBounds_toArray, List.set_cons_zero, List.set_cons_succ]; simp only [List.set_cons_succ, List.set_cons_zero] at hM; have HMz := hid hM; have HGz := hid hg; clear hM hg))
  have hO := HRz.out.2.keptE HRz.out.1 (.tail _ (.tail _ (.head _))) HGz.out rfl rfl
  have hfin : edR s 76 n0 = putM (atCol (noWrap s) 0) (onSub (row * c) ((bot + 1) * c - row * c) (downL (min n (bot - row + 1) * c) s.cur.a) (getM s)) := by rw [HRES.out, edS, if_neg (by decide), if_pos ⟨by decide, hin⟩]; unfold edM; simp only [if_pos hin]; rfl
  exact bodyPost_ret (m_results1 HMz.out Tryz.results24 _ rfl (.tail _ (.tail _ (.head _))) (scrL (atCol (noWrap s) 0) _ _ _) rfl Tryz.underlying38 rfl (by kernel_rfl)) rfl ⟨_, _, _, by rw [hfin, scrL_putM], by rw [hfin]; exact hO, HMz.out.below⟩
set_option maxRecDepth 100000 in
set_option maxHeartbeats 8000000 in
theorem redit_76out {s : Scr} {m o t : Value} {n0 : Int} {w : World} (hr : RdScr w s m o t) (hs : scrB s = true) (hn : -1 ≤ n0 ∧ n0 ≤ 9999) (hin : ¬ (s.top.toNat ≤ s.cur.row.toNat ∧ s.cur.row.toNat ≤ s.bot.toNat)) :
    Calls Tryz.prog 24 #[.agg (scrL s m o t).toArray, .int .i64 76, .int .i64 n0] w fun e w' => RPost w (edR s 76 n0) e w' := by
  obtain ⟨hb, -, -, f1, f2, -, -⟩ := scrB_facts hs
  have hb1 := hb.mr
  have hb2 := hb.mc
  have hb3 := hb.row
  have hb4 := hb.col
  have hb5 := hb.top
  have hb6 := hb.bot
  clear hb
  obtain ⟨r, er⟩ : ∃ r : Nat, s.mr = (r : Int) := ⟨s.mr.toNat, by omega⟩
  obtain ⟨c, ec⟩ : ∃ c : Nat, s.mc = (c : Int) := ⟨s.mc.toNat, by omega⟩
  obtain ⟨row, erow⟩ : ∃ x : Nat, s.cur.row = (x : Int) := ⟨s.cur.row.toNat, by omega⟩
  obtain ⟨col, ecol⟩ : ∃ x : Nat, s.cur.col = (x : Int) := ⟨s.cur.col.toNat, by omega⟩
  obtain ⟨top, etop⟩ : ∃ x : Nat, s.top = (x : Int) := ⟨s.top.toNat, by omega⟩
  obtain ⟨bot, ebot⟩ : ∃ x : Nat, s.bot = (x : Int) := ⟨s.bot.toNat, by omega⟩
  obtain ⟨n, en⟩ : ∃ n : Nat, max 1 n0 = (n : Int) := ⟨(max 1 n0).toNat, by omega⟩
  have hR : edR s 76 n0 = putM (edS 76 row top bot s) (edM 76 (max 0 n0) n r c row col top bot s.cur.a (getM s)) := by
    rw [edR_put, er, ec, erow, ecol, etop, ebot, edN, en]
    simp only [Int.toNat_natCast]
  have hGF : GF (noWrap s) r c := ⟨er, ec, f1.symm.trans er, f2.symm.trans ec⟩
  have hML := getM_len hs er ec
  have hr1 : 1 ≤ r ∧ r ≤ 40 := by omega
  have hc1 : 1 ≤ c ∧ c ≤ 40 := by omega
  have hrr : row < r := by omega
  have hcc : col < c := by omega
  have htb : top ≤ bot := by omega
  have hbr : bot < r := by omega
  have hn1 : 1 ≤ n := by omega
  have hn2 : n ≤ 9999 := by omega
  have hok := getM_row hs er ec hrr
  have hrI : row * c + c ≤ (getM s).length := by rw [hML]; exact row_inE hrr
  have hlen : (getM s).length ≤ 1600 := by rw [hML]; exact mul_le40 hr1.2 hc1.2
  rw [etop, erow, ebot, Int.toNat_natCast, Int.toNat_natCast, Int.toNat_natCast] at hin
  have m1 := fun ts t w => run_max_is (P := Tryz.prog) en ts t w
  have HC := hid (fun W (hW : Below w.heap.size w W) => copyS_l (hr.below hW))
  have HRES := hid hR
  have HGF := hid hGF
  have HML := hid hML
  have HOK := hid hok
  have EROW := hid erow
  have ECOL := hid ecol
  have HV1 := hid (show ∀ m o t, (scrL (noWrap s) m o t)[37]? = some (.int .i64 (top : Int)) from fun m o t => by rw [← etop]; rfl)
  have HV2 := hid (show ∀ m o t, (scrL (noWrap s) m o t)[38]? = some (.int .i64 (bot : Int)) from fun m o t => by rw [← ebot]; rfl)
  obtain ⟨a, ha⟩ : ∃ a, s.cur.a = a := ⟨_, rfl⟩
  have HA := hid ha
  have HX := hid (Mem.start w)
  clear hr hs f1 f2 hR hGF hML hok erow ecol etop ebot er ec en ha hb1 hb2 hb3 hb4 hb5 hb6
  go_enter Tryz.func24, Tryz.ntmps24
  go_upto_region 0 with (fail)
  refine wp_region_lit ?_
  refine m_box HX.out rfl rfl rfl ?_
  intro b3 w1 hM1
  simp only [Act.put, List.setIfInBounds_toArray, List.set_cons_zero, List.set_cons_succ]
  refine m_alloc hM1 rfl rfl info_zS ?_
  intro b6 w2 hM
  simp only [Act.put, List.setIfInBounds_toArray, List.set_cons_zero, List.set_cons_succ]
  clear hM1
  have HM := hid (show Mem w w2 [(b6, Row 38 zL), (b3, Row 38 (scrL s m o t))] from hM)
  clear hM
  go_wp2_with (first | ((with_reducible refine wl_id ?_); refine m_loadS HM.out rfl rfl rfl (by first | exact .head _ | exact .tail _ (.head _) | exact .tail _ (.tail _ (.head _)) | exact .tail _ (.tail _ (.tail _ (.head _))) | exact .tail _ (.tail _ (.tail _ (.tail _ (.head _)))) | exact .tail _ (.tail _ (.tail _ (.tail _ (.tail _ (.head _))))) | exact .tail _ (.tail _ (.tail _ (.tail _ (.tail _ (.tail _ (.head _)))))) | exact .tail _ (.tail _ (.tail _ (.tail _ (.tail _ (.tail _ (.tail _ (.head _)))))))) (scrL s m o t) rfl Tryz.underlying38 rfl (by kernel_rfl) ?_; simp only [Act.put, List.setIfInBounds_toArray, List.set_cons_zero, List.set_cons_succ]) | (go_at_call 19; fail))
  refine (HC.out _ HM.out.below).mono ?_
  rintro e w3 ⟨m', o', t', rfl, hO, hB⟩
  obtain ⟨A1, k1, rfl⟩ := hO.hm.slice
  obtain ⟨A2, k2, rfl⟩ := hO.ho.slice
  obtain ⟨A3, k3, rfl⟩ := ownB_slice hO.ht
  have HM3 := hid (HM.out.call hB)
  have HO := hid (show OwnScr w3 w.heap.size s _ _ _ from ⟨OwnC.lower hO.hm HM.out.below.size, OwnC.lower hO.ho HM.out.below.size, ownB_lower (w' := w) hO.ht HM.out.below.size, hO.mo, hO.mt, hO.ot⟩)
  clear hO hB HM HC
  have HM := HM3
  clear HM3
  go_upto_region 2 with (first | ((with_reducible refine wl_id ?_); refine m_storeAG HM.out rfl rfl rfl 1 rfl rfl rfl (by kernel_rfl) rfl ?_; intro wx hM hg; simp only [Act.put, List.setIfInBounds_toArray, List.set_cons_zero, List.set_cons_succ]; simp only [List.set_cons_succ, List.set_cons_zero] at hM; have HMx := hid hM; have HGx := hid hg; clear hM hg))
  have HO2 := hid (HO.out.keptE HM.out (.tail _ (.head _)) HGx.out rfl rfl)
  clear HM HO HGx
  have HM := HMx
  clear HMx
  have HSN := hid (rseen_any HM.out (i := 1) rfl)
  go_upto_region 5 with (first | ((with_reducible refine wl_id ?_); refine m_storeAG HMc.out rfl rfl rfl 0 rfl rfl rfl (by kernel_rfl) rfl ?_; intro wd hM hg; simp only [Act.put, List.setIfInBounds_toArray, List.set_cons_zero, List.set_cons_succ]; simp only [List.set_cons_succ, List.set_cons_zero] at hM; have HMd := hid hM; have HGd := hid hg; clear hM hg) | ((with_reducible refine wl_id ?_); refine m_allocB HMb.out rfl rfl info_attr ?_; intro b9 wc hbn hBy hM; simp only [Act.put, List.setIfInBounds_toArray, List.set_cons_zero, List.set_cons_succ]; have HMc := hid hM; have HNc := hid hbn; have HBc := hid hBy; clear hM hbn hBy) | ((with_reducible refine wl_id ?_); refine m_loadS HMb.out rfl rfl rfl (.head _) (attrL s.cur.a) rfl Tryz.underlying33 rfl (by kernel_rfl) ?_; simp only [Act.put, List.setIfInBounds_toArray, List.set_cons_zero, List.set_cons_succ]) | ((with_reducible refine wl_id ?_); refine m_storeAG HMa.out rfl rfl rfl 0 rfl rfl rfl (by kernel_rfl) rfl ?_; intro wb hM hg; simp only [Act.put, List.setIfInBounds_toArray, List.set_cons_zero, List.set_cons_succ]; simp only [List.set_cons_succ, List.set_cons_zero] at hM; have HMb := hid hM; have HGb := hid hg; clear hM hg) | ((with_reducible refine wl_id ?_); refine m_allocB HM.out rfl rfl info_cur ?_; intro b8 wa hbn hBy hM; simp only [Act.put, List.setIfInBounds_toArray, List.set_cons_zero, List.set_cons_succ]; have HMa := hid hM; have HNa := hid hbn; have HBa := hid hBy; clear hM hbn hBy) | ((with_reducible refine wl_id ?_); refine m_loadS HM.out rfl rfl rfl (.tail _ (.head _)) (curL s.cur) rfl Tryz.underlying35 rfl (by kernel_rfl) ?_; simp only [Act.put, List.setIfInBounds_toArray, List.set_cons_zero, List.set_cons_succ]) | (go_at_call 41; (with_reducible refine HSN.out.mono ?_); rintro e w4 ⟨rfl, rfl⟩))
  have HO4 := hid ((HO2.out.putE HNa.out HBa.out HGb.out).putE HNc.out HBc.out HGd.out)
  clear HM HMa HMb HMc HO2 HSN HNa HBa HGb HNc HBc HGd
  have HM := HMd
  clear HMd
  go_upto_region 7 with (first | ((with_reducible refine wl_id ?_); refine m_store1G HM.out rfl rfl rfl 3 rfl rfl rfl rfl (Nat.le_of_ble_eq_true rfl) (by kernel_rfl) ?_; intro we hM hg; simp only [Act.put, List.setIfInBounds_toArray, List.set_cons_zero, List.set_cons_succ]; simp only [List.set_cons_succ, List.set_cons_zero] at hM; have HMe := hid hM; have HGe := hid hg; clear hM hg))
  have HR := hid (show RSt w we b3 b6 b8 b9 s (noWrap s) (getM s) _ _ _ from RSt.ofOwn (w0 := w) (W := we) (b3 := b3) (b6 := b6) (b8 := b8) (b9 := b9) (s := s) (s1 := noWrap s) HMe.out ((HO4.out.keptE HM.out (.tail _ (.tail _ (.tail _ (.head _)))) HGe.out rfl rfl).as rfl rfl rfl))
  clear HM HMe HGe HO4
  obtain ⟨wp, hwp⟩ : ∃ wp : World, wp = we := ⟨_, rfl⟩
  subst hwp
  go_upto_region 27 with (fail)
  refine xreg27_is (a := s.cur.a) HR.out.1 (gl_get HGF.out) (fun W hW => by rw [EROW.out]; exact rat_any (HR.out.rd.below hW) rfl hrI (by omega) hc1.1 (by omega) (by omega)) (fun _ _ _ _ _ h => by simp +zetaDelta only [Exit.then, Exit.inBlock] at h ⊢; exact h) _ _ _ _ _ _ _ _ _ _ _ _ _ _ _ _ _ _ _ _ _ _ _ _ _ _ _ _ _ _ _ _ _ _ _ _ _ _ _ _ _ _ _ _ _ _ _ _ _ _ _ _ _ _ _ _ _ _ _ _ _ _ _ _ _ _ _ _ _ _ _ _ _ _ _ _ _ _ _ _ _ _ _ _ _ _ _ _ _ _ _ _ _ _ _ _ _ _ _ _ _ _ _ _ _ _ _ _ _ _ _ _ _ _ _ _ _ _ _ _ _ _ _ _ _ _ _ _ _ _ _ _ _ _ _ _ _ _ _ _ _ _ _ _ _ _ _ _ _ _ _ _ _ _ _ _ _ _ _ _ _ _ _ _ _ _ _ _ _ _ _ _ _ _ _ _ _ _ _ _ _ _ _ _ _ _ _ _ _ _ _ _ _ _ _ _ _ _ _ _ _ _ _ _ _ _ _ _ _ _ _ _ _ _ _ _ _ _ _ _ _ _ _ _ _ _ _ _ _ _ _ _ _ _ _ _ _ _ _ ?_
  rintro w7 v15 x114 x115 x116 x117 x118 x119 hM hV hB
  conv => zeta
  have HR7 := hid (show RSt w w7 b3 b6 b8 b9 s (noWrap s) (getM s) _ _ _ from ⟨hM, HR.out.2.below hB⟩)
  have HV := hid hV
  clear hM hV hB HR
  have HR := HR7
  clear HR7
  go_upto_region 28 with (fail)
  obtain ⟨wi, hwi⟩ : ∃ b, decide (top ≤ row ∧ row ≤ bot) = b := ⟨_, rfl⟩
  refine xreg28_is HR.out.1 EROW.out (HV1.out _ _ _) (HV2.out _ _ _) hwi _ _ _ _ _ _ _ _ _ _ _ _ _ _ _ _ _ _ _ _ _ _ _ _ _ _ _ _ _ _ _ _ _ _ _ _ _ _ _ _ _ _ _ _ _ _ _ _ _ _ _ _ _ _ _ _ _ _ _ _ _ _ _ _ _ _ _ _ _ _ _ _ _ _ _ _ _ _ _ _ _ _ _ _ _ _ _ _ _ _ _ _ _ _ _ _ _ _ _ _ _ _ _ _ _ _ _ _ _ _ _ _ _ _ _ _ _ _ _ _ _ _ _ _ _ _ _ _ _ _ _ _ _ _ _ _ _ _ _ _ _ _ _ _ _ _ _ _ _ _ _ _ _ _ _ _ _ _ _ _ _ _ _ _ _ _ _ _ _ _ _ _ _ _ _ _ _ _ _ _ _ _ _ _ _ _ _ _ _ _ _ _ _ _ _ _ _ _ _ _ _ _ _ _ _ _ _ _ _ _ _ _ _ _ _ _ _ _ _ _ _ _ _ _ _ _ _ _ _ _ _ _ _ _ _ _ _ _ _ _ _ ?_
  rintro y120 y121 y122 y123 y124 y125 y126 y127 y128 y129 y130 y131
  conv => zeta
  obtain rfl : wi = false := by rw [← hwi]; simpa using hin
  have HRz := HR
  clear HR HV
  go_wp2_with (first | ((with_reducible refine wl_id ?_); refine m_loadS HRz.out.1 rfl rfl rfl (.tail _ (.tail _ (.tail _ (.head _)))) (scrL (noWrap s) _ _ _) rfl Tryz.underlying38 rfl (by kernel_rfl) ?_; simp only [Act.put, List.setIfInBounds_toArray, List.set_cons_zero, List.set_cons_succ]) | ((with_reducible refine wl_id ?_); refine m_storeAG HRz.out.1 rfl rfl rfl 2 rfl rfl rfl (by kernel_rfl) rfl ?_; intro wy hM hg; simp only [Act.put, List.setIfInBounds_toArray, List.set_cons_zero, List.set_cons_succ]; simp only [List.set_cons_succ, List.set_cons_zero] at hM; have HMz := hid hM; have HGz := hid hg; clear hM hg))
  have hO := HRz.out.2.keptE HRz.out.1 (.tail _ (.tail _ (.head _))) HGz.out rfl rfl
  have hfin : edR s 76 n0 = putM (noWrap s) (getM s) := by rw [HRES.out, edS, if_neg (by decide), if_neg (fun h => hin h.2)]; unfold edM; simp only [if_neg hin]; rfl
  exact bodyPost_ret (m_results1 HMz.out Tryz.results24 _ rfl (.tail _ (.tail _ (.head _))) (scrL (noWrap s) _ _ _) rfl Tryz.underlying38 rfl (by kernel_rfl)) rfl ⟨_, _, _, by rw [hfin, scrL_putM], by rw [hfin]; exact hO, HMz.out.below⟩
set_option maxRecDepth 100000 in
set_option maxHeartbeats 8000000 in
theorem redit_77in {s : Scr} {m o t : Value} {n0 : Int} {w : World} (hr : RdScr w s m o t) (hs : scrB s = true) (hn : -1 ≤ n0 ∧ n0 ≤ 9999) (hin : s.top.toNat ≤ s.cur.row.toNat ∧ s.cur.row.toNat ≤ s.bot.toNat) :
    Calls Tryz.prog 24 #[.agg (scrL s m o t).toArray, .int .i64 77, .int .i64 n0] w fun e w' => RPost w (edR s 77 n0) e w' := by
  obtain ⟨hb, -, -, f1, f2, -, -⟩ := scrB_facts hs
  have hb1 := hb.mr
  have hb2 := hb.mc
  have hb3 := hb.row
  have hb4 := hb.col
  have hb5 := hb.top
  have hb6 := hb.bot
  clear hb
  obtain ⟨r, er⟩ : ∃ r : Nat, s.mr = (r : Int) := ⟨s.mr.toNat, by omega⟩
  obtain ⟨c, ec⟩ : ∃ c : Nat, s.mc = (c : Int) := ⟨s.mc.toNat, by omega⟩
  obtain ⟨row, erow⟩ : ∃ x : Nat, s.cur.row = (x : Int) := ⟨s.cur.row.toNat, by omega⟩
  obtain ⟨col, ecol⟩ : ∃ x : Nat, s.cur.col = (x : Int) := ⟨s.cur.col.toNat, by omega⟩
  obtain ⟨top, etop⟩ : ∃ x : Nat, s.top = (x : Int) := ⟨s.top.toNat, by omega⟩
  obtain ⟨bot, ebot⟩ : ∃ x : Nat, s.bot = (x : Int) := ⟨s.bot.toNat, by omega⟩
  obtain ⟨n, en⟩ : ∃ n : Nat, max 1 n0 = (n : Int) := ⟨(max 1 n0).toNat, by omega⟩
  have hR : edR s 77 n0 = putM (edS 77 row top bot s) (edM 77 (max 0 n0) n r c row col top bot s.cur.a (getM s)) := by
    rw [edR_put, er, ec, erow, ecol, etop, ebot, edN, en]
    simp only [Int.toNat_natCast]
  have hGF : GF (noWrap s) r c := ⟨er, ec, f1.symm.trans er, f2.symm.trans ec⟩
  have hML := getM_len hs er ec
  have hr1 : 1 ≤ r ∧ r ≤ 40 := by omega
  have hc1 : 1 ≤ c ∧ c ≤ 40 := by omega
  have hrr : row < r := by omega
  have hcc : col < c := by omega
  have htb : top ≤ bot := by omega
  have hbr : bot < r := by omega
  have hn1 : 1 ≤ n := by omega
  have hn2 : n ≤ 9999 := by omega
  have hok := getM_row hs er ec hrr
  have hrI : row * c + c ≤ (getM s).length := by rw [hML]; exact row_inE hrr
  have hlen : (getM s).length ≤ 1600 := by rw [hML]; exact mul_le40 hr1.2 hc1.2
  rw [etop, erow, ebot, Int.toNat_natCast, Int.toNat_natCast, Int.toNat_natCast] at hin
  have s4 : IntKind.i64.wrap (-(n : Int)) = -(n : Int) := IntWalk.i64_in _ (by omega)
  have m1 := fun ts t w => run_max_is (P := Tryz.prog) en ts t w
  have HC := hid (fun W (hW : Below w.heap.size w W) => copyS_l (hr.below hW))
  have HRES := hid hR
  have HGF := hid hGF
  have HML := hid hML
  have HOK := hid hok
  have EROW := hid erow
  have ECOL := hid ecol
  have HV1 := hid (show ∀ m o t, (scrL (noWrap s) m o t)[37]? = some (.int .i64 (top : Int)) from fun m o t => by rw [← etop]; rfl)
  have HV2 := hid (show ∀ m o t, (scrL (noWrap s) m o t)[38]? = some (.int .i64 (bot : Int)) from fun m o t => by rw [← ebot]; rfl)
  obtain ⟨a, ha⟩ : ∃ a, s.cur.a = a := ⟨_, rfl⟩
  have HA := hid ha
  have HX := hid (Mem.start w)
  clear hr hs f1 f2 hR hGF hML hok erow ecol etop ebot er ec en ha hb1 hb2 hb3 hb4 hb5 hb6
  go_enter Tryz.func24, Tryz.ntmps24
  go_upto_region 0 with (fail)
  refine wp_region_lit ?_
  refine m_box HX.out rfl rfl rfl ?_
  intro b3 w1 hM1
  simp only [Act.put, List.setIfInBounds_toArray, List.set_cons_zero, List.set_cons_succ]
  refine m_alloc hM1 rfl rfl info_zS ?_
  intro b6 w2 hM
  simp only [Act.put, List.setIfInBounds_toArray, List.set_cons_zero, List.set_cons_succ]
  clear hM1
  have HM := hid (show Mem w w2 [(b6, Row 38 zL), (b3, Row 38 (scrL s m o t))] from hM)
  clear hM
  go_wp2_with (first | ((with_reducible refine wl_id ?_); refine m_loadS HM.out rfl rfl rfl (by first | exact .head _ | exact .tail _ (.head _) | exact .tail _ (.tail _ (.head _)) | exact .tail _ (.tail _ (.tail _ (.head _))) | exact .tail _ (.tail _ (.tail _ (.tail _ (.head _)))) | exact .tail _ (.tail _ (.tail _ (.tail _ (.tail _ (.head _))))) | exact .tail _ (.tail _ (.tail _ (.tail _ (.tail _ (.tail _ (.head _)))))) | exact .tail _ (.tail _ (.tail _ (.tail _ (.tail _ (.tail _ (.tail _ (.head _)))))))) (scrL s m o t) rfl Tryz.underlying38 rfl (by kernel_rfl) ?_; simp only [Act.put, List.setIfInBounds_toArray, List.set_cons_zero, List.set_cons_succ]) | (go_at_call 19; fail))
  refine (HC.out _ HM.out.below).mono ?_
  rintro e w3 ⟨m', o', t', rfl, hO, hB⟩
  obtain ⟨A1, k1, rfl⟩ := hO.hm.slice
  obtain ⟨A2, k2, rfl⟩ := hO.ho.slice
  obtain ⟨A3, k3, rfl⟩ := ownB_slice hO.ht
  have HM3 := hid (HM.out.call hB)
  have HO := hid (show OwnScr w3 w.heap.size s _ _ _ from ⟨OwnC.lower hO.hm HM.out.below.size, OwnC.lower hO.ho HM.out.below.size, ownB_lower (w' := w) hO.ht HM.out.below.size, hO.mo, hO.mt, hO.ot⟩)
  clear hO hB HM HC
  have HM := HM3
  clear HM3
  go_upto_region 2 with (first | ((with_reducible refine wl_id ?_); refine m_storeAG HM.out rfl rfl rfl 1 rfl rfl rfl (by kernel_rfl) rfl ?_; intro wx hM hg; simp only [Act.put, List.setIfInBounds_toArray, List.set_cons_zero, List.set_cons_succ]; simp only [List.set_cons_succ, List.set_cons_zero] at hM; have HMx := hid hM; have HGx := hid hg; clear hM hg))
  have HO2 := hid (HO.out.keptE HM.out (.tail _ (.head _)) HGx.out rfl rfl)
  clear HM HO HGx
  have HM := HMx
  clear HMx
  have HSN := hid (rseen_any HM.out (i := 1) rfl)
  go_upto_region 5 with (first | ((with_reducible refine wl_id ?_); refine m_storeAG HMc.out rfl rfl rfl 0 rfl rfl rfl (by kernel_rfl) rfl ?_; intro wd hM hg; simp only [Act.put, List.setIfInBounds_toArray, List.set_cons_zero, List.set_cons_succ]; simp only [List.set_cons_succ, List.set_cons_zero] at hM; have HMd := hid hM; have HGd := hid hg; clear hM hg) | ((with_reducible refine wl_id ?_); refine m_allocB HMb.out rfl rfl info_attr ?_; intro b9 wc hbn hBy hM; simp only [Act.put, List.setIfInBounds_toArray, List.set_cons_zero, List.set_cons_succ]; have HMc := hid hM; have HNc := hid hbn; have HBc := hid hBy; clear hM hbn hBy) | ((with_reducible refine wl_id ?_); refine m_loadS HMb.out rfl rfl rfl (.head _) (attrL s.cur.a) rfl Tryz.underlying33 rfl (by kernel_rfl) ?_; simp only [Act.put, List.setIfInBounds_toArray, List.set_cons_zero, List.set_cons_succ]) | ((with_reducible refine wl_id ?_); refine m_storeAG HMa.out rfl rfl rfl 0 rfl rfl rfl (by kernel_rfl) rfl ?_; intro wb hM hg; simp only [Act.put, List.setIfInBounds_toArray, List.set_cons_zero, List.set_cons_succ]; simp only [List.set_cons_succ, List.set_cons_zero] at hM; have HMb := hid hM; have HGb := hid hg; clear hM hg) | ((with_reducible refine wl_id ?_); refine m_allocB HM.out rfl rfl info_cur ?_; intro b8 wa hbn hBy hM; simp only [Act.put, List.setIfInBounds_toArray, List.set_cons_zero, List.set_cons_succ]; have HMa := hid hM; have HNa := hid hbn; have HBa := hid hBy; clear hM hbn hBy) | ((with_reducible refine wl_id ?_); refine m_loadS HM.out rfl rfl rfl (.tail _ (.head _)) (curL s.cur) rfl Tryz.underlying35 rfl (by kernel_rfl) ?_; simp only [Act.put, List.setIfInBounds_toArray, List.set_cons_zero, List.set_cons_succ]) | (go_at_call 41; (with_reducible refine HSN.out.mono ?_); rintro e w4 ⟨rfl, rfl⟩))
  have HO4 := hid ((HO2.out.putE HNa.out HBa.out HGb.out).putE HNc.out HBc.out HGd.out)
  clear HM HMa HMb HMc HO2 HSN HNa HBa HGb HNc HBc HGd
  have HM := HMd
  clear HMd
  go_upto_region 7 with (first | ((with_reducible refine wl_id ?_); refine m_store1G HM.out rfl rfl rfl 3 rfl rfl rfl rfl (Nat.le_of_ble_eq_true rfl) (by kernel_rfl) ?_; intro we hM hg; simp only [Act.put, List.setIfInBounds_toArray, List.set_cons_zero, List.set_cons_succ]; simp only [List.set_cons_succ, List.set_cons_zero] at hM; have HMe := hid hM; have HGe := hid hg; clear hM hg))
  have HR := hid (show RSt w we b3 b6 b8 b9 s (noWrap s) (getM s) _ _ _ from RSt.ofOwn (w0 := w) (W := we) (b3 := b3) (b6 := b6) (b8 := b8) (b9 := b9) (s := s) (s1 := noWrap s) HMe.out ((HO4.out.keptE HM.out (.tail _ (.tail _ (.tail _ (.head _)))) HGe.out rfl rfl).as rfl rfl rfl))
  clear HM HMe HGe HO4
  obtain ⟨wp, hwp⟩ : ∃ wp : World, wp = we := ⟨_, rfl⟩
  subst hwp
  go_upto_region 27 with (fail)
  refine xreg27_is (a := s.cur.a) HR.out.1 (gl_get HGF.out) (fun W hW => by rw [EROW.out]; exact rat_any (HR.out.rd.below hW) rfl hrI (by omega) hc1.1 (by omega) (by omega)) (fun _ _ _ _ _ h => by simp +zetaDelta only [Exit.then, Exit.inBlock] at h ⊢; exact h) _ _ _ _ _ _ _ _ _ _ _ _ _ _ _ _ _ _ _ _ _ _ _ _ _ _ _ _ _ _ _ _ _ _ _ _ _ _ _ _ _ _ _ _ _ _ _ _ _ _ _ _ _ _ _ _ _ _ _ _ _ _ _ _ _ _ _ _ _ _ _ _ _ _ _ _ _ _ _ _ _ _ _ _ _ _ _ _ _ _ _ _ _ _ _ _ _ _ _ _ _ _ _ _ _ _ _ _ _ _ _ _ _ _ _ _ _ _ _ _ _ _ _ _ _ _ _ _ _ _ _ _ _ _ _ _ _ _ _ _ _ _ _ _ _ _ _ _ _ _ _ _ _ _ _ _ _ _ _ _ _ _ _ _ _ _ _ _ _ _ _ _ _ _ _ _ _ _ _ _ _ _ _ _ _ _ _ _ _ _ _ _ _ _ _ _ _ _ _ _ _ _ _ _ _ _ _ _ _ _ _ _ _ _ _ _ _ _ _ _ _ _ _ _ _ _ _ _ _ _ _ _ _ _ _ _ _ _ _ ?_
  rintro w7 v15 x114 x115 x116 x117 x118 x119 hM hV hB
  conv => zeta
  have HR7 := hid (show RSt w w7 b3 b6 b8 b9 s (noWrap s) (getM s) _ _ _ from ⟨hM, HR.out.2.below hB⟩)
  have HV := hid hV
  clear hM hV hB HR
  have HR := HR7
  clear HR7
  go_upto_region 28 with (fail)
  obtain ⟨wi, hwi⟩ : ∃ b, decide (top ≤ row ∧ row ≤ bot) = b := ⟨_, rfl⟩
  refine xreg28_is HR.out.1 EROW.out (HV1.out _ _ _) (HV2.out _ _ _) hwi _ _ _ _ _ _ _ _ _ _ _ _ _ _ _ _ _ _ _ _ _ _ _ _ _ _ _ _ _ _ _ _ _ _ _ _ _ _ _ _ _ _ _ _ _ _ _ _ _ _ _ _ _ _ _ _ _ _ _ _ _ _ _ _ _ _ _ _ _ _ _ _ _ _ _ _ _ _ _ _ _ _ _ _ _ _ _ _ _ _ _ _ _ _ _ _ _ _ _ _ _ _ _ _ _ _ _ _ _ _ _ _ _ _ _ _ _ _ _ _ _ _ _ _ _ _ _ _ _ _ _ _ _ _ _ _ _ _ _ _ _ _ _ _ _ _ _ _ _ _ _ _ _ _ _ _ _ _ _ _ _ _ _ _ _ _ _ _ _ _ _ _ _ _ _ _ _ _ _ _ _ _ _ _ _ _ _ _ _ _ _ _ _ _ _ _ _ _ _ _ _ _ _ _ _ _ _ _ _ _ _ _ _ _ _ _ _ _ _ _ _ _ _ _ _ _ _ _ _ _ _ _ _ _ _ _ _ _ _ _ _ ?_
  rintro y120 y121 y122 y123 y124 y125 y126 y127 y128 y129 y130 y131
  conv => zeta
  obtain rfl : wi = true := by rw [← hwi]; simpa using hin
  go_upto_region 42 with (fail)
  refine xreg42_is (M' := mvTo c row bot (n : Int) s.cur.a (getM s) r) (a := s.cur.a) (c0 := s.cur) HR.out.1 (gl_get HGF.out) gl_q (HV2.out _ _ _) (fun W hW => by rw [EROW.out]; exact rmoveG_any (HR.out.rd.below hW) HML.out hin.2 hbr (by omega) hc1.1 (by omega) (by omega) (by omega)) (fun _ _ _ _ _ h => by simp +zetaDelta only [Exit.then, Exit.inBlock] at h ⊢; exact h) _ _ _ _ _ _ _ _ _ _ _ _ _ _ _ _ _ _ _ _ _ _ _ _ _ _ _ _ _ _ _ _ _ _ _ _ _ _ _ _ _ _ _ _ _ _ _ _ _ _ _ _ _ _ _ _ _ _ _ _ _ _ _ _ _ _ _ _ _ _ _ _ _ _ _ _ _ _ _ _ _ _ _ _ _ _ _ _ _ _ _ _ _ _ _ _ _ _ _ _ _ _ _ _ _ _ _ _ _ _ _ _ _ _ _ _ _ _ _ _ _ _ _ _ _ _ _ _ _ _ _ _ _ _ _ _ _ _ _ _ _ _ _ _ _ _ _ _ _ _ _ _ _ _ _ _ _ _ _ _ _ _ _ _ _ _ _ _ _ _ _ _ _ _ _ _ _ _ _ _ _ _ _ _ _ _ _ _ _ _ _ _ _ _ _ _ _ _ _ _ _ _ _ _ _ _ _ _ _ _ _ _ _ _ _ _ _ _ _ _ _ _ _ _ _ _ _ _ _ _ _ _ _ _ _ _ _ _ ?_
  rintro w8 A8 n8 k8 z199 z200 z201 z202 z203 z204 z205 z206 z207 z208 z209 z210 hM hU
  conv => zeta
  obtain ⟨m8, o8, hR8⟩ := HR.out.upd HGF.out hM hU
  have HR8 := hid hR8
  clear hM hU hR8 HR HV
  go_upto_region 48 with (first | ((with_reducible refine wl_id ?_); refine m_store1G HR8.out.1 rfl rfl rfl 3 rfl rfl rfl rfl (Nat.le_of_ble_eq_true rfl) (by kernel_rfl) ?_; intro we hM hg; simp only [Act.put, List.setIfInBounds_toArray, List.set_cons_zero, List.set_cons_succ]; simp only [List.set_cons_succ, List.set_cons_zero] at hM; have HMe := hid hM; have HGe := hid hg; clear hM hg))
  have hm := mvTo_up (b := n) (a := s.cur.a) HML.out hin.2 hbr hc1.1 hn1
  have HRz := hid (show RSt w we b3 b6 b8 b9 s (atCol (noWrap s) 0) (onSub (row * c) ((bot + 1) * c - row * c) (upL (min n (bot - row + 1) * c) s.cur.a) (getM s)) m8 o8 _ from ⟨HMe.out, by
    have h := HR8.out.2.keptE HR8.out.1 (.tail _ (.tail _ (.tail _ (.head _)))) HGe.out rfl rfl
    rw [hm] at h
    unfold putM at h ⊢
    cases hsw : s.sw with
    | true => rw [if_pos (show (noWrap s).sw = true from hsw)] at h; rw [if_pos (show (atCol (noWrap s) 0).sw = true from hsw)]; exact h.as rfl rfl rfl
    | false => rw [if_neg (show ¬ (noWrap s).sw = true by simp [noWrap, hsw])] at h; rw [if_neg (show ¬ (atCol (noWrap s) 0).sw = true by simp [atCol, noWrap, hsw])]; exact h.as rfl rfl rfl⟩)
  clear HR8 HMe HGe
  obtain ⟨B1, j1, rfl⟩ := HRz.out.2.hm.slice
  obtain ⟨B2, j2, rfl⟩ := HRz.out.2.ho.slice
  go_wp2_with (first | ((with_reducible refine wl_id ?_); refine m_loadS HRz.out.1 rfl rfl rfl (.tail _ (.tail _ (.tail _ (.head _)))) (scrL (atCol (noWrap s) 0) _ _ _) rfl Tryz.underlying38 rfl (by kernel_rfl) ?_; simp only [Act.put, List.setIfInBounds_toArray, List.set_cons_zero, List.set_cons_succ]) | ((with_reducible refine wl_id ?_); refine m_storeAG HRz.out.1 rfl rfl rfl 2 rfl rfl rfl (by kernel_rfl) rfl ?_; intro wy hM hg; simp only [Act.put, List.setIfInBounds_toArray, List.set_cons_zero, List.set_cons_succ]; simp only [List.set_cons_succ, List.set_cons_zero] at hM; have HMz := hid hM; have HGz := hid hg; clear hM hg))
  have hO := HRz.out.2.keptE HRz.out.1 (.tail _ (.tail _ (.head _))) HGz.out rfl rfl
  have hfin : edR s 77 n0 = putM (atCol (noWrap s) 0) (onSub (row * c) ((bot + 1) * c - row * c) (upL (min n (bot - row + 1) * c) s.cur.a) (getM s)) := by rw [HRES.out, edS, if_neg (by decide), if_pos ⟨by decide, hin⟩]; unfold edM; simp only [if_pos hin]; rfl
  exact bodyPost_ret (m_results1 HMz.out Tryz.results24 _ rfl (.tail _ (.tail _ (.head _))) (scrL (atCol (noWrap s) 0) _ _ _) rfl Tryz.underlying38 rfl (by kernel_rfl)) rfl ⟨_, _, _, by rw [hfin, scrL_putM], by rw [hfin]; exact hO, HMz.out.below⟩
set_option maxRecDepth 100000 in
set_option maxHeartbeats 8000000 in
theorem redit_77out {s : Scr} {m o t : Value} {n0 : Int} {w : World} (hr : RdScr w s m o t) (hs : scrB s = true) (hn : -1 ≤ n0 ∧ n0 ≤ 9999) (hin : ¬ (s.top.toNat ≤ s.cur.row.toNat ∧ s.cur.row.toNat ≤ s.bot.toNat)) :
    Calls Tryz.prog 24 #[.agg (scrL s m o t).toArray, .int .i64 77, .int .i64 n0] w fun e w' => RPost w (edR s 77 n0) e w' := by
  obtain ⟨hb, -, -, f1, f2, -, -⟩ := scrB_facts hs
  have hb1 := hb.mr
  have hb2 := hb.mc
  have hb3 := hb.row
  have hb4 := hb.col
  have hb5 := hb.top
  have hb6 := hb.bot
  clear hb
  obtain ⟨r, er⟩ : ∃ r : Nat, s.mr = (r : Int) := ⟨s.mr.toNat, by omega⟩
  obtain ⟨c, ec⟩ : ∃ c : Nat, s.mc = (c : Int) := ⟨s.mc.toNat, by omega⟩
  obtain ⟨row, erow⟩ : ∃ x : Nat, s.cur.row = (x : Int) := ⟨s.cur.row.toNat, by omega⟩
  obtain ⟨col, ecol⟩ : ∃ x : Nat, s.cur.col = (x : Int) := ⟨s.cur.col.toNat, by omega⟩
  obtain ⟨top, etop⟩ : ∃ x : Nat, s.top = (x : Int) := ⟨s.top.toNat, by omega⟩
  obtain ⟨bot, ebot⟩ : ∃ x : Nat, s.bot = (x : Int) := ⟨s.bot.toNat, by omega⟩
  obtain ⟨n, en⟩ : ∃ n : Nat, max 1 n0 = (n : Int) := ⟨(max 1 n0).toNat, by omega⟩
  have hR : edR s 77 n0 = putM (edS 77 row top bot s) (edM 77 (max 0 n0) n r c row col top bot s.cur.a (getM s)) := by
    rw [edR_put, er, ec, erow, ecol, etop, ebot, edN, en]
    simp only [Int.toNat_natCast]
  have hGF : GF (noWrap s) r c := ⟨er, ec, f1.symm.trans er, f2.symm.trans ec⟩
  have hML := getM_len hs er ec
  have hr1 : 1 ≤ r ∧ r ≤ 40 := by omega
  have hc1 : 1 ≤ c ∧ c ≤ 40 := by omega
  have hrr : row < r := by omega
  have hcc : col < c := by omega
  have htb : top ≤ bot := by omega
  have hbr : bot < r := by omega
  have hn1 : 1 ≤ n := by omega
  have hn2 : n ≤ 9999 := by omega
  have hok := getM_row hs er ec hrr
  have hrI : row * c + c ≤ (getM s).length := by rw [hML]; exact row_inE hrr
  have hlen : (getM s).length ≤ 1600 := by rw [hML]; exact mul_le40 hr1.2 hc1.2
  rw [etop, erow, ebot, Int.toNat_natCast, Int.toNat_natCast, Int.toNat_natCast] at hin
  have m1 := fun ts t w => run_max_is (P := Tryz.prog) en ts t w
  have HC := hid (fun W (hW : Below w.heap.size w W) => copyS_l (hr.below hW))
  have HRES := hid hR
  have HGF := hid hGF
  have HML := hid hML
  have HOK := hid hok
  have EROW := hid erow
  have ECOL := hid ecol
  have HV1 := hid (show ∀ m o t, (scrL (noWrap s) m o t)[37]? = some (.int .i64 (top : Int)) from fun m o t => by rw [← etop]; rfl)
  have HV2 := hid (show ∀ m o t, (scrL (noWrap s) m o t)[38]? = some (.int .i64 (bot : Int)) from fun m o t => by rw [← ebot]; rfl)
  obtain ⟨a, ha⟩ : ∃ a, s.cur.a = a := ⟨_, rfl⟩
  have HA := hid ha
  have HX := hid (Mem.start w)
  clear hr hs f1 f2 hR hGF hML hok erow ecol etop ebot er ec en ha hb1 hb2 hb3 hb4 hb5 hb6
  go_enter Tryz.func24, Tryz.ntmps24
  go_upto_region 0 with (fail)
  refine wp_region_lit ?_
  refine m_box HX.out rfl rfl rfl ?_
  intro b3 w1 hM1
  simp only [Act.put, List.setIfInBounds_toArray, List.set_cons_zero, List.set_cons_succ]
  refine m_alloc hM1 rfl rfl info_zS ?_
  intro b6 w2 hM
  simp only [Act.put, List.setIfInBounds_toArray, List.set_cons_zero, List.set_cons_succ]
  clear hM1
  have HM := hid (show Mem w w2 [(b6, Row 38 zL), (b3, Row 38 (scrL s m o t))] from hM)
  clear hM
  go_wp2_with (first | ((with_reducible refine wl_id ?_); refine m_loadS HM.out rfl rfl rfl (by first | exact .head _ | exact .tail _ (.head _) | exact .tail _ (.tail _ (.head _)) | exact .tail _ (.tail _ (.tail _ (.head _))) | exact .tail _ (.tail _ (.tail _ (.tail _ (.head _)))) | exact .tail _ (.tail _ (.tail _ (.tail _ (.tail _ (.head _))))) | exact .tail _ (.tail _ (.tail _ (.tail _ (.tail _ (.tail _ (.head _)))))) | exact .tail _ (.tail _ (.tail _ (.tail _ (.tail _ (.tail _ (.tail _ (.head _)))))))) (scrL s m o t) rfl Tryz.underlying38 rfl (by kernel_rfl) ?_; simp only [Act.put, List.setIfInBounds_toArray, List.set_cons_zero, List.set_cons_succ]) | (go_at_call 19; fail))
  refine (HC.out _ HM.out.below).mono ?_
  rintro e w3 ⟨m', o', t', rfl, hO, hB⟩
  obtain ⟨A1, k1, rfl⟩ := hO.hm.slice
  obtain ⟨A2, k2, rfl⟩ := hO.ho.slice
  obtain ⟨A3, k3, rfl⟩ := ownB_slice hO.ht
  have HM3 := hid (HM.out.call hB)
  have HO := hid (show OwnScr w3 w.heap.size s _ _ _ from ⟨OwnC.lower hO.hm HM.out.below.size, OwnC.lower hO.ho HM.out.below.size, ownB_lower (w' := w) hO.ht HM.out.below.size, hO.mo, hO.mt, hO.ot⟩)
  clear hO hB HM HC
  have HM := HM3
  clear HM3
  go_upto_region 2 with (first | ((with_reducible refine wl_id ?_); refine m_storeAG HM.out rfl rfl rfl 1 rfl rfl rfl (by kernel_rfl) rfl ?_; intro wx hM hg; simp only [Act.put, List.setIfInBounds_toArray, List.set_cons_zero, List.set_cons_succ]; simp only [List.set_cons_succ, List.set_cons_zero] at hM; have HMx := hid hM; have HGx := hid hg; clear hM hg))
  have HO2 := hid (HO.out.keptE HM.out (.tail _ (.head _)) HGx.out rfl rfl)
  clear HM HO HGx
  have HM := HMx
  clear HMx
  have HSN := hid (rseen_any HM.out (i := 1) rfl)
  go_upto_region 5 with (first | ((with_reducible refine wl_id ?_); refine m_storeAG HMc.out rfl rfl rfl 0 rfl rfl rfl (by kernel_rfl) rfl ?_; intro wd hM hg; simp only [Act.put, List.setIfInBounds_toArray, List.set_cons_zero, List.set_cons_succ]; simp only [List.set_cons_succ, List.set_cons_zero] at hM; have HMd := hid hM; have HGd := hid hg; clear hM hg) | ((with_reducible refine wl_id ?_); refine m_allocB HMb.out rfl rfl info_attr ?_; intro b9 wc hbn hBy hM; simp only [Act.put, List.setIfInBounds_toArray, List.set_cons_zero, List.set_cons_succ]; have HMc := hid hM; have HNc := hid hbn; have HBc := hid hBy; clear hM hbn hBy) | ((with_reducible refine wl_id ?_); refine m_loadS HMb.out rfl rfl rfl (.head _) (attrL s.cur.a) rfl Tryz.underlying33 rfl (by kernel_rfl) ?_; simp only [Act.put, List.setIfInBounds_toArray, List.set_cons_zero, List.set_cons_succ]) | ((with_reducible refine wl_id ?_); refine m_storeAG HMa.out rfl rfl rfl 0 rfl rfl rfl (by kernel_rfl) rfl ?_; intro wb hM hg; simp only [Act.put, List.setIfInBounds_toArray, List.set_cons_zero, List.set_cons_succ]; simp only [List.set_cons_succ, List.set_cons_zero] at hM; have HMb := hid hM; have HGb := hid hg; clear hM hg) | ((with_reducible refine wl_id ?_); refine m_allocB HM.out rfl rfl info_cur ?_; intro b8 wa hbn hBy hM; simp only [Act.put, List.setIfInBounds_toArray, List.set_cons_zero, List.set_cons_succ]; have HMa := hid hM; have HNa := hid hbn; have HBa := hid hBy; clear hM hbn hBy) | ((with_reducible refine wl_id ?_); refine m_loadS HM.out rfl rfl rfl (.tail _ (.head _)) (curL s.cur) rfl Tryz.underlying35 rfl (by kernel_rfl) ?_; simp only [Act.put, List.setIfInBounds_toArray, List.set_cons_zero, List.set_cons_succ]) | (go_at_call 41; (with_reducible refine HSN.out.mono ?_); rintro e w4 ⟨rfl, rfl⟩))
  have HO4 := hid ((HO2.out.putE HNa.out HBa.out HGb.out).putE HNc.out HBc.out HGd.out)
  clear HM HMa HMb HMc HO2 HSN HNa HBa HGb HNc HBc HGd
  have HM := HMd
  clear HMd
  go_upto_region 7 with (first | ((with_reducible refine wl_id ?_); refine m_store1G HM.out rfl rfl rfl 3 rfl rfl rfl rfl (Nat.le_of_ble_eq_true rfl) (by kernel_rfl) ?_; intro we hM hg; simp only [Act.put, List.setIfInBounds_toArray, List.set_cons_zero, List.set_cons_succ]; simp only [List.set_cons_succ, List.set_cons_zero] at hM; have HMe := hid hM; have HGe := hid hg; clear hM hg))
  have HR := hid (show RSt w we b3 b6 b8 b9 s (noWrap s) (getM s) _ _ _ from RSt.ofOwn (w0 := w) (W := we) (b3 := b3) (b6 := b6) (b8 := b8) (b9 := b9) (s := s) (s1 := noWrap s) HMe.out ((HO4.out.keptE HM.out (.tail _ (.tail _ (.tail _ (.head _)))) HGe.out rfl rfl).as rfl rfl rfl))
  clear HM HMe HGe HO4
  obtain ⟨wp, hwp⟩ : ∃ wp : World, wp = we := ⟨_, rfl⟩
  subst hwp
  go_upto_region 27 with (fail)
  refine xreg27_is (a := s.cur.a) HR.out.1 (gl_get HGF.out) (fun W hW => by rw [EROW.out]; exact rat_any (HR.out.rd.below hW) rfl hrI (by omega) hc1.1 (by omega) (by omega)) (fun _ _ _ _ _ h => by simp +zetaDelta only [Exit.then, Exit.inBlock] at h ⊢; exact h) _ _ _ _ _ _ _ _ _ _ _ _ _ _ _ _ _ _ _ _ _ _ _ _ _ _ _ _ _ _ _ _ _ _ _ _ _ _ _ _ _ _ _ _ _ _ _ _ _ _ _ _ _ _ _ _ _ _ _ _ _ _ _ _ _ _ _ _ _ _ _ _ _ _ _ _ _ _ _ _ _ _ _ _ _ _ _ _ _ _ _ _ _ _ _ _ _ _ _ _ _ _ _ _ _ _ _ _ _ _ _ _ _ _ _ _ _ _ _ _ _ _ _ _ _ _ _ _ _ _ _ _ _ _ _ _ _ _ _ _ _ _ _ _ _ _ _ _ _ _ _ _ _ _ _ _ _ _ _ _ _ _ _ _ _ _ _ _ _ _ _ _ _ _ _ _ _ _ _ _ _ _ _ _ _ _ _ _ _ _ _ _ _ _ _ _ _ _ _ _ _ _ _ _ _ _ _ _ _ _ _ _ _ _ _ _ _ _ _ _ _ _ _ _ _ _ _ _ _ _ _ _ _ _ _ _ _ _ _ ?_
  rintro w7 v15 x114 x115 x116 x117 x118 x119 hM hV hB
  conv => zeta
  have HR7 := hid (show RSt w w7 b3 b6 b8 b9 s (noWrap s) (getM s) _ _ _ from ⟨hM, HR.out.2.below hB⟩)
  have HV := hid hV
  clear hM hV hB HR
  have HR := HR7
  clear HR7
  go_upto_region 28 with (fail)
  obtain ⟨wi, hwi⟩ : ∃ b, decide (top ≤ row ∧ row ≤ bot) = b := ⟨_, rfl⟩
  refine xreg28_is HR.out.1 EROW.out (HV1.out _ _ _) (HV2.out _ _ _) hwi _ _ _ _ _ _ _ _ _ _ _ _ _ _ _ _ _ _ _ _ _ _ _ _ _ _ _ _ _ _ _ _ _ _ _ _ _ _ _ _ _ _ _ _ _ _ _ _ _ _ _ _ _ _ _ _ _ _ _ _ _ _ _ _ _ _ _ _ _ _ _ _ _ _ _ _ _ _ _ _ _ _ _ _ _ _ _ _ _ _ _ _ _ _ _ _ _ _ _ _ _ _ _ _ _ _ _ _ _ _ _ _ _ _ _ _ _ _ _ _ _ _ _ _ _ _ _ _ _ _ _ _ _ _ _ _ _ _ _ _ _ _ _ _ _ _ _ _ _ _ _ _ _ _ _ _ _ _ _ _ _ _ _ _ _ _ _ _ _ _ _ _ _ _ _ _ _ _ _ _ _ _ _ _ _ _ _ _ _ _ _ _ _ _ _ _ _ _ _ _ _ _ _ _ _ _ _ _ _ _ _ _ _ _ _ _ _ _ _ _ _ _ _ _ _ _ _ _ _ _ _ _ _ _ _ _ _ _ _ _ _ ?_
  rintro y120 y121 y122 y123 y124 y125 y126 y127 y128 y129 y130 y131
  conv => zeta
  obtain rfl : wi = false := by rw [← hwi]; simpa using hin
  have HRz := HR
  clear HR HV
  go_wp2_with (first | ((with_reducible refine wl_id ?_); refine m_loadS HRz.out.1 rfl rfl rfl (.tail _ (.tail _ (.tail _ (.head _)))) (scrL (noWrap s) _ _ _) rfl Tryz.underlying38 rfl (by kernel_rfl) ?_; simp only [Act.put, List.setIfInBounds_toArray, List.set_cons_zero, List.set_cons_succ]) | ((with_reducible refine wl_id ?_); refine m_storeAG HRz.out.1 rfl rfl rfl 2 rfl rfl rfl (by kernel_rfl) rfl ?_; intro wy hM hg; simp only [Act.put, List.setIfInBounds_toArray, List.set_cons_zero, List.set_cons_succ]; simp only [List.set_cons_succ, List.set_cons_zero] at hM; have HMz := hid hM; have HGz := hid hg; clear hM hg))
  have hO := HRz.out.2.keptE HRz.out.1 (.tail _ (.tail _ (.head _))) HGz.out rfl rfl
  have hfin : edR s 77 n0 = putM (noWrap s) (getM s) := by rw [HRES.out, edS, if_neg (by decide), if_neg (fun h => hin h.2)]; unfold edM; simp only [if_neg hin]; rfl
  exact bodyPost_ret (m_results1 HMz.out Tryz.results24 _ rfl (.tail _ (.tail _ (.head _))) (scrL (noWrap s) _ _ _) rfl Tryz.underlying38 rfl (by kernel_rfl)) rfl ⟨_, _, _, by rw [hfin, scrL_putM], by rw [hfin]; exact hO, HMz.out.below⟩
set_option maxRecDepth 100000 in
set_option maxHeartbeats 8000000 in
theorem redit_83 {s : Scr} {m o t : Value} {n0 : Int} {w : World} (hr : RdScr w s m o t) (hs : scrB s = true) (hn : -1 ≤ n0 ∧ n0 ≤ 9999) :
    Calls Tryz.prog 24 #[.agg (scrL s m o t).toArray, .int .i64 83, .int .i64 n0] w fun e w' => RPost w (edR s 83 n0) e w' := by
  obtain ⟨hb, -, -, f1, f2, -, -⟩ := scrB_facts hs
  have hb1 := hb.mr
  have hb2 := hb.mc
  have hb3 := hb.row
  have hb4 := hb.col
  have hb5 := hb.top
  have hb6 := hb.bot
  clear hb
  obtain ⟨r, er⟩ : ∃ r : Nat, s.mr = (r : Int) := ⟨s.mr.toNat, by omega⟩
  obtain ⟨c, ec⟩ : ∃ c : Nat, s.mc = (c : Int) := ⟨s.mc.toNat, by omega⟩
  obtain ⟨row, erow⟩ : ∃ x : Nat, s.cur.row = (x : Int) := ⟨s.cur.row.toNat, by omega⟩
  obtain ⟨col, ecol⟩ : ∃ x : Nat, s.cur.col = (x : Int) := ⟨s.cur.col.toNat, by omega⟩
  obtain ⟨top, etop⟩ : ∃ x : Nat, s.top = (x : Int) := ⟨s.top.toNat, by omega⟩
  obtain ⟨bot, ebot⟩ : ∃ x : Nat, s.bot = (x : Int) := ⟨s.bot.toNat, by omega⟩
  obtain ⟨n, en⟩ : ∃ n : Nat, max 1 n0 = (n : Int) := ⟨(max 1 n0).toNat, by omega⟩
  have hR : edR s 83 n0 = putM (edS 83 row top bot s) (edM 83 (max 0 n0) n r c row col top bot s.cur.a (getM s)) := by
    rw [edR_put, er, ec, erow, ecol, etop, ebot, edN, en]
    simp only [Int.toNat_natCast]
  have hGF : GF s r c := ⟨er, ec, f1.symm.trans er, f2.symm.trans ec⟩
  have hML := getM_len hs er ec
  have hr1 : 1 ≤ r ∧ r ≤ 40 := by omega
  have hc1 : 1 ≤ c ∧ c ≤ 40 := by omega
  have hrr : row < r := by omega
  have hcc : col < c := by omega
  have htb : top ≤ bot := by omega
  have hbr : bot < r := by omega
  have hn1 : 1 ≤ n := by omega
  have hn2 : n ≤ 9999 := by omega
  have hok := getM_row hs er ec hrr
  have hrI : row * c + c ≤ (getM s).length := by rw [hML]; exact row_inE hrr
  have hlen : (getM s).length ≤ 1600 := by rw [hML]; exact mul_le40 hr1.2 hc1.2
  have s4 : IntKind.i64.wrap (-(n : Int)) = -(n : Int) := IntWalk.i64_in _ (by omega)
  have m1 := fun ts t w => run_max_is (P := Tryz.prog) en ts t w
  have HC := hid (fun W (hW : Below w.heap.size w W) => copyS_l (hr.below hW))
  have HRES := hid hR
  have HGF := hid hGF
  have HML := hid hML
  have HOK := hid hok
  have EROW := hid erow
  have ECOL := hid ecol
  have HV1 := hid (show ∀ m o t, (scrL s m o t)[37]? = some (.int .i64 (top : Int)) from fun m o t => by rw [← etop]; rfl)
  have HV2 := hid (show ∀ m o t, (scrL s m o t)[38]? = some (.int .i64 (bot : Int)) from fun m o t => by rw [← ebot]; rfl)
  obtain ⟨a, ha⟩ : ∃ a, s.cur.a = a := ⟨_, rfl⟩
  have HA := hid ha
  have HX := hid (Mem.start w)
  clear hr hs f1 f2 hR hGF hML hok erow ecol etop ebot er ec en ha hb1 hb2 hb3 hb4 hb5 hb6
  go_enter Tryz.func24, Tryz.ntmps24
  go_upto_region 0 with (fail)
  refine wp_region_lit ?_
  refine m_box HX.out rfl rfl rfl ?_
  intro b3 w1 hM1
  simp only [Act.put, List.setIfInBounds_toArray, List.set_cons_zero, List.set_cons_succ]
  refine m_alloc hM1 rfl rfl info_zS ?_
  intro b6 w2 hM
  simp only [Act.put, List.setIfInBounds_toArray, List.set_cons_zero, List.set_cons_succ]
  clear hM1
  have HM := hid (show Mem w w2 [(b6, Row 38 zL), (b3, Row 38 (scrL s m o t))] from hM)
  clear hM
  go_wp2_with (first | ((with_reducible refine wl_id ?_); refine m_loadS HM.out rfl rfl rfl (by first | exact .head _ | exact .tail _ (.head _) | exact .tail _ (.tail _ (.head _)) | exact .tail _ (.tail _ (.tail _ (.head _))) | exact .tail _ (.tail _ (.tail _ (.tail _ (.head _)))) | exact .tail _ (.tail _ (.tail _ (.tail _ (.tail _ (.head _))))) | exact .tail _ (.tail _ (.tail _ (.tail _ (.tail _ (.tail _ (.head _)))))) | exact .tail _ (.tail _ (.tail _ (.tail _ (.tail _ (.tail _ (.tail _ (.head _)))))))) (scrL s m o t) rfl Tryz.underlying38 rfl (by kernel_rfl) ?_; simp only [Act.put, List.setIfInBounds_toArray, List.set_cons_zero, List.set_cons_succ]) | (go_at_call 19; fail))
  refine (HC.out _ HM.out.below).mono ?_
  rintro e w3 ⟨m', o', t', rfl, hO, hB⟩
  obtain ⟨A1, k1, rfl⟩ := hO.hm.slice
  obtain ⟨A2, k2, rfl⟩ := hO.ho.slice
  obtain ⟨A3, k3, rfl⟩ := ownB_slice hO.ht
  have HM3 := hid (HM.out.call hB)
  have HO := hid (show OwnScr w3 w.heap.size s _ _ _ from ⟨OwnC.lower hO.hm HM.out.below.size, OwnC.lower hO.ho HM.out.below.size, ownB_lower (w' := w) hO.ht HM.out.below.size, hO.mo, hO.mt, hO.ot⟩)
  clear hO hB HM HC
  have HM := HM3
  clear HM3
  go_upto_region 2 with (first | ((with_reducible refine wl_id ?_); refine m_storeAG HM.out rfl rfl rfl 1 rfl rfl rfl (by kernel_rfl) rfl ?_; intro wx hM hg; simp only [Act.put, List.setIfInBounds_toArray, List.set_cons_zero, List.set_cons_succ]; simp only [List.set_cons_succ, List.set_cons_zero] at hM; have HMx := hid hM; have HGx := hid hg; clear hM hg))
  have HO2 := hid (HO.out.keptE HM.out (.tail _ (.head _)) HGx.out rfl rfl)
  clear HM HO HGx
  have HM := HMx
  clear HMx
  have HSN := hid (rseen_any HM.out (i := 1) rfl)
  go_upto_region 5 with (first | ((with_reducible refine wl_id ?_); refine m_storeAG HMc.out rfl rfl rfl 0 rfl rfl rfl (by kernel_rfl) rfl ?_; intro wd hM hg; simp only [Act.put, List.setIfInBounds_toArray, List.set_cons_zero, List.set_cons_succ]; simp only [List.set_cons_succ, List.set_cons_zero] at hM; have HMd := hid hM; have HGd := hid hg; clear hM hg) | ((with_reducible refine wl_id ?_); refine m_allocB HMb.out rfl rfl info_attr ?_; intro b9 wc hbn hBy hM; simp only [Act.put, List.setIfInBounds_toArray, List.set_cons_zero, List.set_cons_succ]; have HMc := hid hM; have HNc := hid hbn; have HBc := hid hBy; clear hM hbn hBy) | ((with_reducible refine wl_id ?_); refine m_loadS HMb.out rfl rfl rfl (.head _) (attrL s.cur.a) rfl Tryz.underlying33 rfl (by kernel_rfl) ?_; simp only [Act.put, List.setIfInBounds_toArray, List.set_cons_zero, List.set_cons_succ]) | ((with_reducible refine wl_id ?_); refine m_storeAG HMa.out rfl rfl rfl 0 rfl rfl rfl (by kernel_rfl) rfl ?_; intro wb hM hg; simp only [Act.put, List.setIfInBounds_toArray, List.set_cons_zero, List.set_cons_succ]; simp only [List.set_cons_succ, List.set_cons_zero] at hM; have HMb := hid hM; have HGb := hid hg; clear hM hg) | ((with_reducible refine wl_id ?_); refine m_allocB HM.out rfl rfl info_cur ?_; intro b8 wa hbn hBy hM; simp only [Act.put, List.setIfInBounds_toArray, List.set_cons_zero, List.set_cons_succ]; have HMa := hid hM; have HNa := hid hbn; have HBa := hid hBy; clear hM hbn hBy) | ((with_reducible refine wl_id ?_); refine m_loadS HM.out rfl rfl rfl (.tail _ (.head _)) (curL s.cur) rfl Tryz.underlying35 rfl (by kernel_rfl) ?_; simp only [Act.put, List.setIfInBounds_toArray, List.set_cons_zero, List.set_cons_succ]) | (go_at_call 41; (with_reducible refine HSN.out.mono ?_); rintro e w4 ⟨rfl, rfl⟩))
  have HO4 := hid ((HO2.out.putE HNa.out HBa.out HGb.out).putE HNc.out HBc.out HGd.out)
  clear HM HMa HMb HMc HO2 HSN HNa HBa HGb HNc HBc HGd
  have HM := HMd
  clear HMd
  have HR := hid (RSt.ofOwn (w0 := w) (W := wd) (b3 := b3) (b6 := b6) (b8 := b8) (b9 := b9) (s := s) (s1 := s) HM.out HO4.out)
  clear HM HO4
  go_upto_region 27 with (fail)
  refine xreg27_is (a := s.cur.a) HR.out.1 (gl_get HGF.out) (fun W hW => by rw [EROW.out]; exact rat_any (HR.out.rd.below hW) rfl hrI (by omega) hc1.1 (by omega) (by omega)) (fun _ _ _ _ _ h => by simp +zetaDelta only [Exit.then, Exit.inBlock] at h ⊢; exact h) _ _ _ _ _ _ _ _ _ _ _ _ _ _ _ _ _ _ _ _ _ _ _ _ _ _ _ _ _ _ _ _ _ _ _ _ _ _ _ _ _ _ _ _ _ _ _ _ _ _ _ _ _ _ _ _ _ _ _ _ _ _ _ _ _ _ _ _ _ _ _ _ _ _ _ _ _ _ _ _ _ _ _ _ _ _ _ _ _ _ _ _ _ _ _ _ _ _ _ _ _ _ _ _ _ _ _ _ _ _ _ _ _ _ _ _ _ _ _ _ _ _ _ _ _ _ _ _ _ _ _ _ _ _ _ _ _ _ _ _ _ _ _ _ _ _ _ _ _ _ _ _ _ _ _ _ _ _ _ _ _ _ _ _ _ _ _ _ _ _ _ _ _ _ _ _ _ _ _ _ _ _ _ _ _ _ _ _ _ _ _ _ _ _ _ _ _ _ _ _ _ _ _ _ _ _ _ _ _ _ _ _ _ _ _ _ _ _ _ _ _ _ _ _ _ _ _ _ _ _ _ _ _ _ _ _ _ _ _ ?_
  rintro w7 v15 x114 x115 x116 x117 x118 x119 hM hV hB
  conv => zeta
  have HR7 := hid (show RSt w w7 b3 b6 b8 b9 s s (getM s) _ _ _ from ⟨hM, HR.out.2.below hB⟩)
  have HV := hid hV
  clear hM hV hB HR
  have HR := HR7
  clear HR7
  go_upto_region 28 with (fail)
  obtain ⟨wi, hwi⟩ : ∃ b, decide (top ≤ row ∧ row ≤ bot) = b := ⟨_, rfl⟩
  refine xreg28_is HR.out.1 EROW.out (HV1.out _ _ _) (HV2.out _ _ _) hwi _ _ _ _ _ _ _ _ _ _ _ _ _ _ _ _ _ _ _ _ _ _ _ _ _ _ _ _ _ _ _ _ _ _ _ _ _ _ _ _ _ _ _ _ _ _ _ _ _ _ _ _ _ _ _ _ _ _ _ _ _ _ _ _ _ _ _ _ _ _ _ _ _ _ _ _ _ _ _ _ _ _ _ _ _ _ _ _ _ _ _ _ _ _ _ _ _ _ _ _ _ _ _ _ _ _ _ _ _ _ _ _ _ _ _ _ _ _ _ _ _ _ _ _ _ _ _ _ _ _ _ _ _ _ _ _ _ _ _ _ _ _ _ _ _ _ _ _ _ _ _ _ _ _ _ _ _ _ _ _ _ _ _ _ _ _ _ _ _ _ _ _ _ _ _ _ _ _ _ _ _ _ _ _ _ _ _ _ _ _ _ _ _ _ _ _ _ _ _ _ _ _ _ _ _ _ _ _ _ _ _ _ _ _ _ _ _ _ _ _ _ _ _ _ _ _ _ _ _ _ _ _ _ _ _ _ _ _ _ _ _ ?_
  rintro y120 y121 y122 y123 y124 y125 y126 y127 y128 y129 y130 y131
  conv => zeta
  go_upto_region 45 with (fail)
  refine xreg45_is (M' := mvTo c top bot (n : Int) s.cur.a (getM s) r) (a := s.cur.a) (c0 := s.cur) HR.out.1 (gl_get HGF.out) gl_q (HV2.out _ _ _) (HV1.out _ _ _) (fun W hW => rmoveG_any (HR.out.rd.below hW) HML.out htb hbr (by omega) hc1.1 (by omega) (by omega) (by omega)) (fun _ _ _ _ _ h => by simp +zetaDelta only [Exit.then, Exit.inBlock] at h ⊢; exact h) _ _ _ _ _ _ _ _ _ _ _ _ _ _ _ _ _ _ _ _ _ _ _ _ _ _ _ _ _ _ _ _ _ _ _ _ _ _ _ _ _ _ _ _ _ _ _ _ _ _ _ _ _ _ _ _ _ _ _ _ _ _ _ _ _ _ _ _ _ _ _ _ _ _ _ _ _ _ _ _ _ _ _ _ _ _ _ _ _ _ _ _ _ _ _ _ _ _ _ _ _ _ _ _ _ _ _ _ _ _ _ _ _ _ _ _ _ _ _ _ _ _ _ _ _ _ _ _ _ _ _ _ _ _ _ _ _ _ _ _ _ _ _ _ _ _ _ _ _ _ _ _ _ _ _ _ _ _ _ _ _ _ _ _ _ _ _ _ _ _ _ _ _ _ _ _ _ _ _ _ _ _ _ _ _ _ _ _ _ _ _ _ _ _ _ _ _ _ _ _ _ _ _ _ _ _ _ _ _ _ _ _ _ _ _ _ _ _ _ _ _ _ _ _ _ _ _ _ _ _ _ _ _ _ _ _ _ _ ?_
  rintro w8 A8 n8 k8 z215 z216 z217 z218 z219 z220 z221 z222 z223 z224 z225 z226 hM hU
  conv => zeta
  obtain ⟨m8, o8, hR8⟩ := HR.out.upd HGF.out hM hU
  have HRz := hid hR8
  clear hM hU hR8 HR HV
  have hm := mvTo_up (b := n) (a := s.cur.a) HML.out htb hbr hc1.1 hn1
  have HRy := HRz
  clear HRz
  have HRz := hid (show RSt w w8 b3 b6 b8 b9 s s (onSub (top * c) ((bot + 1) * c - top * c) (upL (min n (bot - top + 1) * c) s.cur.a) (getM s)) m8 o8 _ from by have h := HRy.out; rw [hm] at h; exact h)
  clear HRy
  obtain ⟨B1, j1, rfl⟩ := HRz.out.2.hm.slice
  obtain ⟨B2, j2, rfl⟩ := HRz.out.2.ho.slice
  go_wp2_with (first | ((with_reducible refine wl_id ?_); refine m_loadS HRz.out.1 rfl rfl rfl (.tail _ (.tail _ (.tail _ (.head _)))) (scrL s _ _ _) rfl Tryz.underlying38 rfl (by kernel_rfl) ?_; simp only [Act.put, List.setIfInBounds_toArray, List.set_cons_zero, List.set_cons_succ]) | ((with_reducible refine wl_id ?_); refine m_storeAG HRz.out.1 rfl rfl rfl 2 rfl rfl rfl (by kernel_rfl) rfl ?_; intro wy hM hg; simp only [Act.put, List.setIfInBounds_toArray, List.set_cons_zero, List.set_cons_succ]; simp only [List.set_cons_succ, List.set_cons_zero] at hM; have HMz := hid hM; have HGz := hid hg; clear hM hg))
  have hO := HRz.out.2.keptE HRz.out.1 (.tail _ (.tail _ (.head _))) HGz.out rfl rfl
  have hfin : edR s 83 n0 = putM s (onSub (top * c) ((bot + 1) * c - top * c) (upL (min n (bot - top + 1) * c) s.cur.a) (getM s)) := by rw [HRES.out, edS, if_pos (by decide)]; rfl
  exact bodyPost_ret (m_results1 HMz.out Tryz.results24 _ rfl (.tail _ (.tail _ (.head _))) (scrL s _ _ _) rfl Tryz.underlying38 rfl (by kernel_rfl)) rfl ⟨_, _, _, by rw [hfin, scrL_putM], by rw [hfin]; exact hO, HMz.out.below⟩
set_option maxRecDepth 100000 in
set_option maxHeartbeats 8000000 in
theorem redit_84 {s : Scr} {m o t : Value} {n0 : Int} {w : World} (hr : RdScr w s m o t) (hs : scrB s = true) (hn : -1 ≤ n0 ∧ n0 ≤ 9999) :
    Calls Tryz.prog 24 #[.agg (scrL s m o t).toArray, .int .i64 84, .int .i64 n0] w fun e w' => RPost w (edR s 84 n0) e w' := by
  obtain ⟨hb, -, -, f1, f2, -, -⟩ := scrB_facts hs
  have hb1 := hb.mr
  have hb2 := hb.mc
  have hb3 := hb.row
  have hb4 := hb.col
  have hb5 := hb.top
  have hb6 := hb.bot
  clear hb
  obtain ⟨r, er⟩ : ∃ r : Nat, s.mr = (r : Int) := ⟨s.mr.toNat, by omega⟩
  obtain ⟨c, ec⟩ : ∃ c : Nat, s.mc = (c : Int) := ⟨s.mc.toNat, by omega⟩
  obtain ⟨row, erow⟩ : ∃ x : Nat, s.cur.row = (x : Int) := ⟨s.cur.row.toNat, by omega⟩
  obtain ⟨col, ecol⟩ : ∃ x : Nat, s.cur.col = (x : Int) := ⟨s.cur.col.toNat, by omega⟩
  obtain ⟨top, etop⟩ : ∃ x : Nat, s.top = (x : Int) := ⟨s.top.toNat, by omega⟩
  obtain ⟨bot, ebot⟩ : ∃ x : Nat, s.bot = (x : Int) := ⟨s.bot.toNat, by omega⟩
  obtain ⟨n, en⟩ : ∃ n : Nat, max 1 n0 = (n : Int) := ⟨(max 1 n0).toNat, by omega⟩
  have hR : edR s 84 n0 = putM (edS 84 row top bot s) (edM 84 (max 0 n0) n r c row col top bot s.cur.a (getM s)) := by
    rw [edR_put, er, ec, erow, ecol, etop, ebot, edN, en]
    simp only [Int.toNat_natCast]
  have hGF : GF s r c := ⟨er, ec, f1.symm.trans er, f2.symm.trans ec⟩
  have hML := getM_len hs er ec
  have hr1 : 1 ≤ r ∧ r ≤ 40 := by omega
  have hc1 : 1 ≤ c ∧ c ≤ 40 := by omega
  have hrr : row < r := by omega
  have hcc : col < c := by omega
  have htb : top ≤ bot := by omega
  have hbr : bot < r := by omega
  have hn1 : 1 ≤ n := by omega
  have hn2 : n ≤ 9999 := by omega
  have hok := getM_row hs er ec hrr
  have hrI : row * c + c ≤ (getM s).length := by rw [hML]; exact row_inE hrr
  have hlen : (getM s).length ≤ 1600 := by rw [hML]; exact mul_le40 hr1.2 hc1.2
  have s4 : IntKind.i64.wrap (-(n : Int)) = -(n : Int) := IntWalk.i64_in _ (by omega)
  have m1 := fun ts t w => run_max_is (P := Tryz.prog) en ts t w
  have HC := hid (fun W (hW : Below w.heap.size w W) => copyS_l (hr.below hW))
  have HRES := hid hR
  have HGF := hid hGF
  have HML := hid hML
  have HOK := hid hok
  have EROW := hid erow
  have ECOL := hid ecol
  have HV1 := hid (show ∀ m o t, (scrL s m o t)[37]? = some (.int .i64 (top : Int)) from fun m o t => by rw [← etop]; rfl)
  have HV2 := hid (show ∀ m o t, (scrL s m o t)[38]? = some (.int .i64 (bot : Int)) from fun m o t => by rw [← ebot]; rfl)
  obtain ⟨a, ha⟩ : ∃ a, s.cur.a = a := ⟨_, rfl⟩
  have HA := hid ha
  have HX := hid (Mem.start w)
  clear hr hs f1 f2 hR hGF hML hok erow ecol etop ebot er ec en ha hb1 hb2 hb3 hb4 hb5 hb6
  go_enter Tryz.func24, Tryz.ntmps24
  go_upto_region 0 with (fail)
  refine wp_region_lit ?_
  refine m_box HX.out rfl rfl rfl ?_
  intro b3 w1 hM1
  simp only [Act.put, List.setIfInBounds_toArray, List.set_cons_zero, List.set_cons_succ]
  refine m_alloc hM1 rfl rfl info_zS ?_
  intro b6 w2 hM
  simp only [Act.put, List.setIfInBounds_toArray, List.set_cons_zero, List.set_cons_succ]
  clear hM1
  have HM := hid (show Mem w w2 [(b6, Row 38 zL), (b3, Row 38 (scrL s m o t))] from hM)
  clear hM
  go_wp2_with (first | ((with_reducible refine wl_id ?_); refine m_loadS HM.out rfl rfl rfl (by first | exact .head _ | exact .tail _ (.head _) | exact .tail _ (.tail _ (.head _)) | exact .tail _ (.tail _ (.tail _ (.head _))) | exact .tail _ (.tail _ (.tail _ (.tail _ (.head _)))) | exact .tail _ (.tail _ (.tail _ (.tail _ (.tail _ (.head _))))) | exact .tail _ (.tail _ (.tail _ (.tail _ (.tail _ (.tail _ (.head _)))))) | exact .tail _ (.tail _ (.tail _ (.tail _ (.tail _ (.tail _ (.tail _ (.head _)))))))) (scrL s m o t) rfl Tryz.underlying38 rfl (by kernel_rfl) ?_; simp only [Act.put, List.setIfInBounds_toArray, List.set_cons_zero, List.set_cons_succ]) | (go_at_call 19; fail))
  refine (HC.out _ HM.out.below).mono ?_
  rintro e w3 ⟨m', o', t', rfl, hO, hB⟩
  obtain ⟨A1, k1, rfl⟩ := hO.hm.slice
  obtain ⟨A2, k2, rfl⟩ := hO.ho.slice
  obtain ⟨A3, k3, rfl⟩ := ownB_slice hO.ht
  have HM3 := hid (HM.out.call hB)
  have HO := hid (show OwnScr w3 w.heap.size s _ _ _ from ⟨OwnC.lower hO.hm HM.out.below.size, OwnC.lower hO.ho HM.out.below.size, ownB_lower (w' := w) hO.ht HM.out.below.size, hO.mo, hO.mt, hO.ot⟩)
  clear hO hB HM HC
  have HM := HM3
  clear HM3
  go_upto_region 2 with (first | ((with_reducible refine wl_id ?_); refine m_storeAG HM.out rfl rfl rfl 1 rfl rfl rfl (by kernel_rfl) rfl ?_; intro wx hM hg; simp only [Act.put, List.setIfInBounds_toArray, List.set_cons_zero, List.set_cons_succ]; simp only [List.set_cons_succ, List.set_cons_zero] at hM; have HMx := hid hM; have HGx := hid hg; clear hM hg))
  have HO2 := hid (HO.out.keptE HM.out (.tail _ (.head _)) HGx.out rfl rfl)
  clear HM HO HGx
  have HM := HMx
  clear HMx
  have HSN := hid (rseen_any HM.out (i := 1) rfl)
  go_upto_region 5 with (first | ((with_reducible refine wl_id ?_); refine m_storeAG HMc.out rfl rfl rfl 0 rfl rfl rfl (by kernel_rfl) rfl ?_; intro wd hM hg; simp only [Act.put, List.setIfInBounds_toArray, List.set_cons_zero, List.set_cons_succ]; simp only [List.set_cons_succ, List.set_cons_zero] at hM; have HMd := hid hM; have HGd := hid hg; clear hM hg) | ((with_reducible refine wl_id ?_); refine m_allocB HMb.out rfl rfl info_attr ?_; intro b9 wc hbn hBy hM; simp only [Act.put, List.setIfInBounds_toArray, List.set_cons_zero, List.set_cons_succ]; have HMc := hid hM; have HNc := hid hbn; have HBc := hid hBy; clear hM hbn hBy) | ((with_reducible refine wl_id ?_); refine m_loadS HMb.out rfl rfl rfl (.head _) (attrL s.cur.a) rfl Tryz.underlying33 rfl (by kernel_rfl) ?_; simp only [Act.put, List.setIfInBounds_toArray, List.set_cons_zero, List.set_cons_succ]) | ((with_reducible refine wl_id ?_); refine m_storeAG HMa.out rfl rfl rfl 0 rfl rfl rfl (by kernel_rfl) rfl ?_; intro wb hM hg; simp only [Act.put, List.setIfInBounds_toArray, List.set_cons_zero, List.set_cons_succ]; simp only [List.set_cons_succ, List.set_cons_zero] at hM; have HMb := hid hM; have HGb := hid hg; clear hM hg) | ((with_reducible refine wl_id ?_); refine m_allocB HM.out rfl rfl info_cur ?_; intro b8 wa hbn hBy hM; simp only [Act.put, List.setIfInBounds_toArray, List.set_cons_zero, List.set_cons_succ]; have HMa := hid hM; have HNa := hid hbn; have HBa := hid hBy; clear hM hbn hBy) | ((with_reducible refine wl_id ?_); refine m_loadS HM.out rfl rfl rfl (.tail _ (.head _)) (curL s.cur) rfl Tryz.underlying35 rfl (by kernel_rfl) ?_; simp only [Act.put, List.setIfInBounds_toArray, List.set_cons_zero, List.set_cons_succ]) | (go_at_call 41; (with_reducible refine HSN.out.mono ?_); rintro e w4 ⟨rfl, rfl⟩))
  have HO4 := hid ((HO2.out.putE HNa.out HBa.out HGb.out).putE HNc.out HBc.out HGd.out)
  clear HM HMa HMb HMc HO2 HSN HNa HBa HGb HNc HBc HGd
  have HM := HMd
  clear HMd
  have HR := hid (RSt.ofOwn (w0 := w) (W := wd) (b3 := b3) (b6 := b6) (b8 := b8) (b9 := b9) (s := s) (s1 := s) HM.out HO4.out)
  clear HM HO4
  go_upto_region 27 with (fail)
  refine xreg27_is (a := s.cur.a) HR.out.1 (gl_get HGF.out) (fun W hW => by rw [EROW.out]; exact rat_any (HR.out.rd.below hW) rfl hrI (by omega) hc1.1 (by omega) (by omega)) (fun _ _ _ _ _ h => by simp +zetaDelta only [Exit.then, Exit.inBlock] at h ⊢; exact h) _ _ _ _ _ _ _ _ _ _ _ _ _ _ _ _ _ _ _ _ _ _ _ _ _ _ _ _ _ _ _ _ _ _ _ _ _ _ _ _ _ _ _ _ _ _ _ _ _ _ _ _ _ _ _ _ _ _ _ _ _ _ _ _ _ _ _ _ _ _ _ _ _ _ _ _ _ _ _ _ _ _ _ _ _ _ _ _ _ _ _ _ _ _ _ _ _ _ _ _ _ _ _ _ _ _ _ _ _ _ _ _ _ _ _ _ _ _ _ _ _ _ _ _ _ _ _ _ _ _ _ _ _ _ _ _ _ _ _ _ _ _ _ _ _ _ _ _ _ _ _ _ _ _ _ _ _ _ _ _ _ _ _ _ _ _ _ _ _ _ _ _ _ _ _ _ _ _ _ _ _ _ _ _ _ _ _ _ _ _ _ _ _ _ _ _ _ _ _ _ _ _ _ _ _ _ _ _ _ _ _ _ _ _ _ _ _ _ _ _ _ _ _ _ _ _ _ _ _ _ _ _ _ _ _ _ _ _ _ ?_
  rintro w7 v15 x114 x115 x116 x117 x118 x119 hM hV hB
  conv => zeta
  have HR7 := hid (show RSt w w7 b3 b6 b8 b9 s s (getM s) _ _ _ from ⟨hM, HR.out.2.below hB⟩)
  have HV := hid hV
  clear hM hV hB HR
  have HR := HR7
  clear HR7
  go_upto_region 28 with (fail)
  obtain ⟨wi, hwi⟩ : ∃ b, decide (top ≤ row ∧ row ≤ bot) = b := ⟨_, rfl⟩
  refine xreg28_is HR.out.1 EROW.out (HV1.out _ _ _) (HV2.out _ _ _) hwi _ _ _ _ _ _ _ _ _ _ _ _ _ _ _ _ _ _ _ _ _ _ _ _ _ _ _ _ _ _ _ _ _ _ _ _ _ _ _ _ _ _ _ _ _ _ _ _ _ _ _ _ _ _ _ _ _ _ _ _ _ _ _ _ _ _ _ _ _ _ _ _ _ _ _ _ _ _ _ _ _ _ _ _ _ _ _ _ _ _ _ _ _ _ _ _ _ _ _ _ _ _ _ _ _ _ _ _ _ _ _ _ _ _ _ _ _ _ _ _ _ _ _ _ _ _ _ _ _ _ _ _ _ _ _ _ _ _ _ _ _ _ _ _ _ _ _ _ _ _ _ _ _ _ _ _ _ _ _ _ _ _ _ _ _ _ _ _ _ _ _ _ _ _ _ _ _ _ _ _ _ _ _ _ _ _ _ _ _ _ _ _ _ _ _ _ _ _ _ _ _ _ _ _ _ _ _ _ _ _ _ _ _ _ _ _ _ _ _ _ _ _ _ _ _ _ _ _ _ _ _ _ _ _ _ _ _ _ _ _ _ ?_
  rintro y120 y121 y122 y123 y124 y125 y126 y127 y128 y129 y130 y131
  conv => zeta
  go_upto_region 47 with (fail)
  refine xreg47_is (M' := mvTo c top bot (-(n : Int)) s.cur.a (getM s) r) (a := s.cur.a) (c0 := s.cur) HR.out.1 (gl_get HGF.out) gl_q (HV2.out _ _ _) (HV1.out _ _ _) s4 (fun W hW => rmoveG_any (HR.out.rd.below hW) HML.out htb hbr (by omega) hc1.1 (by omega) (by omega) (by omega)) (fun _ _ _ _ _ h => by simp +zetaDelta only [Exit.then, Exit.inBlock] at h ⊢; exact h) _ _ _ _ _ _ _ _ _ _ _ _ _ _ _ _ _ _ _ _ _ _ _ _ _ _ _ _ _ _ _ _ _ _ _ _ _ _ _ _ _ _ _ _ _ _ _ _ _ _ _ _ _ _ _ _ _ _ _ _ _ _ _ _ _ _ _ _ _ _ _ _ _ _ _ _ _ _ _ _ _ _ _ _ _ _ _ _ _ _ _ _ _ _ _ _ _ _ _ _ _ _ _ _ _ _ _ _ _ _ _ _ _ _ _ _ _ _ _ _ _ _ _ _ _ _ _ _ _ _ _ _ _ _ _ _ _ _ _ _ _ _ _ _ _ _ _ _ _ _ _ _ _ _ _ _ _ _ _ _ _ _ _ _ _ _ _ _ _ _ _ _ _ _ _ _ _ _ _ _ _ _ _ _ _ _ _ _ _ _ _ _ _ _ _ _ _ _ _ _ _ _ _ _ _ _ _ _ _ _ _ _ _ _ _ _ _ _ _ _ _ _ _ _ _ _ _ _ _ _ _ _ _ _ _ _ _ _ ?_
  rintro w8 A8 n8 k8 z229 z230 z231 z232 z233 z234 z235 z236 z237 z238 z239 z240 z241 hM hU
  conv => zeta
  obtain ⟨m8, o8, hR8⟩ := HR.out.upd HGF.out hM hU
  have HRz := hid hR8
  clear hM hU hR8 HR HV
  have hm := mvTo_down (b := n) (a := s.cur.a) HML.out htb hbr hc1.1 hn1
  have HRy := HRz
  clear HRz
  have HRz := hid (show RSt w w8 b3 b6 b8 b9 s s (onSub (top * c) ((bot + 1) * c - top * c) (downL (min n (bot - top + 1) * c) s.cur.a) (getM s)) m8 o8 _ from by have h := HRy.out; rw [hm] at h; exact h)
  clear HRy
  obtain ⟨B1, j1, rfl⟩ := HRz.out.2.hm.slice
  obtain ⟨B2, j2, rfl⟩ := HRz.out.2.ho.slice
  go_wp2_with (first | ((with_reducible refine wl_id ?_); refine m_loadS HRz.out.1 rfl rfl rfl (.tail _ (.tail _ (.tail _ (.head _)))) (scrL s _ _ _) rfl Tryz.underlying38 rfl (by kernel_rfl) ?_; simp only [Act.put, List.setIfInBounds_toArray, List.set_cons_zero, List.set_cons_succ]) | ((with_reducible refine wl_id ?_); refine m_storeAG HRz.out.1 rfl rfl rfl 2 rfl rfl rfl (by kernel_rfl) rfl ?_; intro wy hM hg; simp only [Act.put, List.setIfInBounds_toArray, List.set_cons_zero, List.set_cons_succ]; simp only [List.set_cons_succ, List.set_cons_zero] at hM; have HMz := hid hM; have HGz := hid hg; clear hM hg))
  have hO := HRz.out.2.keptE HRz.out.1 (.tail _ (.tail _ (.head _))) HGz.out rfl rfl
  have hfin : edR s 84 n0 = putM s (onSub (top * c) ((bot + 1) * c - top * c) (downL (min n (bot - top + 1) * c) s.cur.a) (getM s)) := by rw [HRES.out, edS, if_pos (by decide)]; rfl
  exact bodyPost_ret (m_results1 HMz.out Tryz.results24 _ rfl (.tail _ (.tail _ (.head _))) (scrL s _ _ _) rfl Tryz.underlying38 rfl (by kernel_rfl)) rfl ⟨_, _, _, by rw [hfin, scrL_putM], by rw [hfin]; exact hO, HMz.out.below⟩
end Go.Proofs.YtpmfjombfcnhmaaGreatDoor
