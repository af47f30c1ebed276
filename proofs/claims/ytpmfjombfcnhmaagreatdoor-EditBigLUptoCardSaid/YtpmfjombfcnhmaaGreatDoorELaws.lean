import Derived.Test.YtpmfjombfcnhmaaGreatDoorNew
import Derived.Test.YtpmfjombfcnhmaaGreatDoorREdKeys
import Derived.Test.YtpmfjombfcnhmaaGreatDoorETx
import Derived.Test.YtpmfjombfcnhmaaGreatDoorEdits
set_option linter.unusedVariables false
set_option linter.unusedSimpArgs false
set_option linter.unnecessarySimpa false
/- A new screen may be; the laws' own look at one. -/
namespace Go.Proofs.YtpmfjombfcnhmaaGreatDoor
open Go Go.RowKit Go.Proofs.YtpmfjombfcnhmaaGreatDoorW.PrintLast

theorem at_blank {n i : Nat} {a : Attr} (h : i < n) : at_ (blankL n a) i = bare a := at_tab h
theorem cellOk_bare : cellOk (bare plainA) = true := by decide
theorem rowOk_all {L : List Cell} (h1 : 1 ≤ L.length) (h2 : L.length ≤ 40) (h : ∀ i, i < L.length → at_ L i = bare plainA) : rowOk L := by
  refine rowOk_of h1 h2 (fun i hi => ⟨by rw [h i hi]; exact cellOk_bare, ?_, fun h0 hw => ?_⟩) ?_
  · rw [h i hi]
    constructor
    · intro h2; cases h2
    · rintro ⟨h0, hw⟩
      rw [h (i - 1) (by omega)] at hw
      cases hw
  · rw [h (i - 1) (by omega)] at hw; cases hw
  · rw [h _ (by omega)]; decide
theorem gridOk_blank {r c : Nat} (hr : 1 ≤ r ∧ r ≤ 40) (hc : 1 ≤ c ∧ c ≤ 40) : gridOk r c (blankL (r * c) plainA) := by
  refine ⟨sidesOk_iff.2 ⟨by omega, by omega, by omega, by omega⟩, by rw [blankL_length]; push_cast; rfl, fun i hi => ?_⟩
  have hi2 : i < r := by omega
  have hb := row_in (c := c) hi2
  refine rowOk_all (by simp; omega) (by simp; omega) fun j hj => ?_
  simp only [Int.toNat_natCast, sub_length] at hj ⊢
  rw [sub_at hj, at_blank (by omega)]
theorem scrB_new {r c : Nat} (hr : 1 ≤ r ∧ r ≤ 40) (hc : 1 ≤ c ∧ c ≤ 40) : scrB (newScr r c) = true := by
  have hg := gridB_yes (gridOk_blank hr hc)
  have hcur : curOk fC r c = true := by
    have h1 : attrOk plainA = true := by decide
    have h2 : setOk1 0 = true := by decide
    have h3 : (0 : Int) < r := by omega
    have h4 : (0 : Int) < c := by omega
    simp [curOk, fC, h1, h2, h3, h4]
    omega
  have hmar : marginsOk (newScr r c) = true := by
    unfold marginsOk newScr
    simp only
    split <;> simp <;> omega
  have ht : titleOk ⟨#[]⟩ = true := by decide
  have hl : (wideT [] c).length = c := by simp [wideT]
  have e1 : gridsOk (newScr r c) = true := by
    unfold gridsOk newScr
    simp [hg]
  have e2 : cursOk (newScr r c) = true := by
    unfold cursOk newScr
    simp [hcur]
  have e3 : restOk (newScr r c) = true := by
    unfold restOk
    rw [hmar]
    simp [newScr, hl, ht]
  rw [scrB, e1, e2, e3]; rfl
theorem newScr_small {r c : Nat} (hr : r ≤ 40) (hc : c ≤ 40) : (newScr r c).small := by
  have h := mul_le40 hr hc
  have ht : txtOk (blankL (r * c) plainA) := fun i hi => by rw [at_blank (by simpa using hi)]; decide
  have h2 : (wideT [] c).length = c := by simp [wideT]
  refine ⟨by simp [newScr]; omega, by simp [newScr]; omega, by simp [newScr, h2]; omega, (by decide : (0 : Nat) ≤ 1048576), ht, ht⟩
end Go.Proofs.YtpmfjombfcnhmaaGreatDoor

/- The reference's Put of a rune of one cell, and Print of one on a screen (printed by genpr.py). -/
namespace Go.Proofs.YtpmfjombfcnhmaaGreatDoor
open Go Go.RowKit Go.Proofs.YtpmfjombfcnhmaaGreatDoorW.PrintLast

def putN (p : Nat) (rn : Int) (a : Attr) (L : List Cell) : List Cell := (cutL ((p : Int) + 1) (cutL p L)).set p ⟨rn, ⟨#[]⟩, 0, a⟩
@[simp] theorem putN_length (p : Nat) (rn : Int) (a : Attr) (L : List Cell) : (putN p rn a L).length = L.length := by simp [putN]
theorem build_cell (rn : Int) (a : Attr) (w : World) : (Instr.build 73 #[(0, .int .i64 rn), (3, .agg (attrL a).toArray)]).run Tryz.prog w = .ok (Cell.agg ⟨rn, ⟨#[]⟩, 0, a⟩) w := by kernel_rfl
set_option maxRecDepth 100000 in
set_option maxHeartbeats 4000000 in
theorem rput_any {L : List Cell} {v : Value} {w : World} {p : Nat} {rn : Int} {a : Attr} (hv : RdC w v L) (hp : p < L.length) (hrn : widthOf rn = 1) (hm : L.length ≤ 1000000) :
    Calls Tryz.prog 89 #[v, .int .i64 p, .int .i64 rn, .agg (attrL a).toArray] w fun e w' => ∃ v', e = .returned v' ∧ OwnC w' w.heap.size v' (putN p rn a L) ∧ Below w.heap.size w w' := by
  obtain ⟨A, cap, rfl, hlc, -⟩ := hv.open_
  have HC : Hid (∀ W, Below w.heap.size w W → Calls Tryz.prog 54 #[.slice A L.length cap] W _) := hid fun W hW => copyC_any L _ W (hv.below hW) (by omega)
  have HWD : Hid (∀ W, Calls Tryz.prog 36 #[.int .i64 rn] W fun e w' => e = .returned (.int .i64 1) ∧ Below W.heap.size W w') := hid fun W => width_is hrn W
  have h0 : 0 < L.length := by omega
  have s1 : IntKind.i64.wrap ((p : Int) + 1) = (p : Int) + 1 := IntWalk.i64_in _ (by omega)
  have hp2 : (p : Int) < (L.length : Int) := by omega
  have HX := hid (Mem.start w)
  clear hv hrn
  go_enter Tryz.func89, Tryz.ntmps89
  go_upto_region 0 with (fail)
  refine wp_region_lit ?_
  refine m_box HX.out rfl rfl rfl ?_
  intro b1 w1 hM
  simp only [Act.put, List.setIfInBounds_toArray, List.set_cons_zero, List.set_cons_succ]
  have HM := hid hM
  clear hM HX
  go_upto_region 2 with (go_at_call 54; (with_reducible refine (HC.out _ HM.out.below).mono ?_); rintro e w2 ⟨v', rfl, hO, hB⟩; obtain ⟨g, cp, rfl, hM2⟩ := HM.out.addOwn (HM.out.call hB) hO h0; have HM2 := hid hM2; clear hO hB hM2)
  clear HM HC
  have HM := HM2
  clear HM2
  go_upto_region 3 with (go_at_call 36; (with_reducible refine (HWD.out _).mono ?_); rintro e w3 ⟨rfl, hB⟩; have HM3 := hid (HM.out.call hB); clear hB)
  clear HM
  have HM := HM3
  clear HM3
  go_upto_region 5 with (first | (go_at_call 78; (with_reducible refine (rcutM (j := 0) (o := 0) (n := L.length) (p := (p : Int) + 1) HMq.out rfl rfl (by simp) (by simpa using hm) (by simpa using h0)).mono ?_); rintro e w5 ⟨rfl, hM⟩; simp only [List.set_cons_zero] at hM; rw [show onSub 0 L.length (cutL ((p : Int) + 1)) (cutL p L) = cutL ((p : Int) + 1) (cutL p L) by have := onSub_all (cutL ((p : Int) + 1)) (cutL p L) (by simp); rwa [cutL_length] at this] at hM; have HMr := hid hM; clear hM) | (go_at_call 78; (with_reducible refine (rcutM (j := 0) (o := 0) (n := L.length) HM.out rfl rfl (by simp) hm h0).mono ?_); rintro e w4 ⟨rfl, hM⟩; simp only [List.set_cons_zero] at hM; rw [onSub_all (cutL p) L (by simp)] at hM; have HMq := hid hM; clear hM))
  clear HM HMq
  have HM := HMr
  clear HMr
  have HI := hid (show p < (cutL ((p : Int) + 1) (cutL p L)).length by simp; omega)
  go_wp2_with (first | ((with_reducible refine wl_id ?_); refine m_loadS HM.out rfl rfl rfl (.tail _ (.head _)) (attrL a) rfl Tryz.underlying33 rfl (by kernel_rfl) ?_; simp only [Act.put, List.setIfInBounds_toArray, List.set_cons_zero, List.set_cons_succ]) | ((with_reducible refine wl_id ?_); refine m_build rfl rfl #[(0, .int .i64 rn), (3, .agg (attrL a).toArray)] (by simp only [List.map_toArray, List.map_cons, List.map_nil]; rfl) (build_cell rn a _) ?_; simp only [Act.put, List.setIfInBounds_toArray, List.set_cons_zero, List.set_cons_succ]) | ((with_reducible refine wl_id ?_); refine m_storeC HM.out rfl rfl rfl 0 rfl ⟨rn, ⟨#[]⟩, 0, a⟩ rfl p HI.out rfl (by kernel_rfl) ?_; intro w6 hM; simp only [Act.put, List.setIfInBounds_toArray, List.set_cons_zero, List.set_cons_succ]; simp only [List.set_cons_zero] at hM; have HM6 := hid hM; clear hM))
  go_ret
  exact ⟨_, rfl, entC_own HM6.out (.head _) (by simp), HM6.out.below⟩
noncomputable def preg (n : Nat) : Code := ((Tryz.f51.body.bind (findRegion n)).getD .skip)
set_option maxRecDepth 100000 in
set_option maxHeartbeats 4000000 in
theorem preg31_is {w wr : World} {b2 b4 q r c : Nat} {l : List Value} {V : Value} {row : Int} {L1 : List Cell} {Q : Exit → Act → World → Prop} (hM : Mem w wr [(b4, Row 38 zL), (b2, Row 38 l)]) (hg : (l.drop q).take (gridL r c V).length = gridL r c V) (h7 : l[7]? = some (.int .i64 row))
    (hc1 : ∀ W, Below wr.heap.size wr W → Calls Tryz.prog 44 #[.agg (gridL r c V).toArray, .int .i64 row] W fun e w' => ∃ v', e = .returned v' ∧ OwnC w' W.heap.size v' L1 ∧ Below W.heap.size W w')
    (hP : ∀ c a (d : Tmp) v w, Q (.panic c) (Act.put a (some d) v) w → Q (.panic c) a w) (u0 u1 u3 u4 u5 u6 u7 u8 u9 u10 u11 u13 u14 u15 u16 u17 u18 u19 u20 u21 u22 u23 u24 u25 u26 u27 u28 u29 u30 u31 u32 u33 u34 u35 u36 u37 u38 u39 u40 u41 u42 u43 u44 u45 u46 u47 u48 u49 u50 u51 u52 u53 u54 u55 u56 u57 u58 u59 u60 u61 u62 u63 u64 u65 u66 u67 u68 u69 u70 u71 u72 u73 u74 u75 u76 u77 u78 u79 u80 u81 u82 u83 u84 u85 u86 u87 u88 u89 u90 u91 u92 u93 u94 u95 u96 u97 u98 u99 u100 u101 u102 u103 u104 u105 u106 u107 u108 u109 u110 u111 u112 u113 u114 u115 u116 u117 u118 u119 u120 u121 u122 u123 u124 u125 u126 u127 u128 u129 u130 u131 u132 u133 u134 u135 u136 u137 u138 u139 u140 u141 u142 u143 u144 u145 u146 u147 u148 u149 u150 u151 u152 u153 u154 u155 u156 u157 u158 u159 u160 u161 u162 u163 u164 u165 u166 u167 u168 u169 u170 u171 u172 u173 u174 u175 u176 u177 : Value)
    (hQ : ∀ w' v13_ (v118 v119 v120 v121 v122 v123 v124 : Value), Mem w w' [(b4, Row 38 zL), (b2, Row 38 l)] → OwnC w' wr.heap.size v13_ L1 → Below wr.heap.size wr w' → Q .normal ⟨#[u0, u1, .pointer (some ⟨b2, 0, none⟩), u3, u4, u5, u6, u7, u8, u9, u10, u11, .pointer (some ⟨b2, q, none⟩), v13_, u14, u15, u16, u17, u18, u19, u20, u21, u22, u23, u24, u25, u26, u27, u28, u29, u30, u31, u32, u33, u34, u35, u36, u37, u38, u39, u40, u41, u42, u43, u44, u45, u46, u47, u48, u49, u50, u51, u52, u53, u54, u55, u56, u57, u58, u59, u60, u61, u62, u63, u64, u65, u66, u67, u68, u69, u70, u71, u72, u73, u74, u75, u76, u77, u78, u79, u80, u81, u82, u83, u84, u85, u86, u87, u88, u89, u90, u91, u92, u93, u94, u95, u96, u97, u98, u99, u100, u101, u102, u103, u104, u105, u106, u107, u108, u109, u110, u111, u112, u113, u114, u115, u116, u117, v118, v119, v120, v121, v122, v123, v124, u125, u126, u127, u128, u129, u130, u131, u132, u133, u134, u135, u136, u137, u138, u139, u140, u141, u142, u143, u144, u145, u146, u147, u148, u149, u150, u151, u152, u153, u154, u155, u156, u157, u158, u159, u160, u161, u162, u163, u164, u165, u166, u167, u168, u169, u170, u171, u172, u173, u174, u175, u176, u177], []⟩ w') :
    Code.wp Tryz.prog (preg 31) Q ⟨#[u0, u1, .pointer (some ⟨b2, 0, none⟩), u3, u4, u5, u6, u7, u8, u9, u10, u11, .pointer (some ⟨b2, q, none⟩), u13, u14, u15, u16, u17, u18, u19, u20, u21, u22, u23, u24, u25, u26, u27, u28, u29, u30, u31, u32, u33, u34, u35, u36, u37, u38, u39, u40, u41, u42, u43, u44, u45, u46, u47, u48, u49, u50, u51, u52, u53, u54, u55, u56, u57, u58, u59, u60, u61, u62, u63, u64, u65, u66, u67, u68, u69, u70, u71, u72, u73, u74, u75, u76, u77, u78, u79, u80, u81, u82, u83, u84, u85, u86, u87, u88, u89, u90, u91, u92, u93, u94, u95, u96, u97, u98, u99, u100, u101, u102, u103, u104, u105, u106, u107, u108, u109, u110, u111, u112, u113, u114, u115, u116, u117, u118, u119, u120, u121, u122, u123, u124, u125, u126, u127, u128, u129, u130, u131, u132, u133, u134, u135, u136, u137, u138, u139, u140, u141, u142, u143, u144, u145, u146, u147, u148, u149, u150, u151, u152, u153, u154, u155, u156, u157, u158, u159, u160, u161, u162, u163, u164, u165, u166, u167, u168, u169, u170, u171, u172, u173, u174, u175, u176, u177], []⟩ wr := by
  have HM := hid hM
  have HGR := hid hg
  have H7 := hid h7
  have HC1 := hid hc1
  clear hM hg h7 hc1
  conv => arg 2; whnf
  conv => arg 4; zeta
  refine start_ (n := 8) (S := fun W => Mem w W [(b4, Row 38 zL), (b2, Row 38 l)]) (ds := [6]) #[false, false, false, false, false, false, false, false] (by kernel_rfl) rfl rfl HM.out.drew (fun hS => ?_)
  refine take_ (i := 0) (N := some 118) (a' := ?_) (v := .pointer (some ⟨b2, q, none⟩)) #[true, false, false, false, false, false, false, false] rfl rfl (by kernel_rfl) (by first | exact fun _ _ _ h => h | exact fun _ _ _ h => hP _ _ _ _ _ h) (Or.inl ⟨by rfl, fun w' _ => by go_simp⟩) hS ?_ ?_
  rotate_left
  · simp only [Act.put, List.setIfInBounds_toArray, List.set_cons_zero, List.set_cons_succ]
    rfl
  refine take_ (i := 1) (N := some 119) (a' := ?_) (v := .pointer (some ⟨b2, q, none⟩)) #[true, true, false, false, false, false, false, false] rfl rfl (by kernel_rfl) (by first | exact fun _ _ _ h => h | exact fun _ _ _ h => hP _ _ _ _ _ h) (Or.inl ⟨by rfl, fun w' _ => by go_simp⟩) hS ?_ ?_
  rotate_left
  · simp only [Act.put, List.setIfInBounds_toArray, List.set_cons_zero, List.set_cons_succ]
    rfl
  refine take_ (i := 2) (N := some 120) (a' := ?_) (v := .agg (gridL r c V).toArray) #[true, true, true, false, false, false, false, false] rfl rfl (by kernel_rfl) (by first | exact fun _ _ _ h => h | exact fun _ _ _ h => hP _ _ _ _ _ h) (y_loadS rfl rfl rfl (.tail _ (.head _)) HGR.out Tryz.underlying31 rfl (by kernel_rfl)) hS ?_ ?_
  rotate_left
  · simp only [Act.put, List.setIfInBounds_toArray, List.set_cons_zero, List.set_cons_succ]
    rfl
  refine take_ (i := 3) (N := some 121) (a' := ?_) (v := .pointer (some ⟨b2, 7, none⟩)) #[true, true, true, true, false, false, false, false] rfl rfl (by kernel_rfl) (by first | exact fun _ _ _ h => h | exact fun _ _ _ h => hP _ _ _ _ _ h) (Or.inl ⟨by rfl, fun w' _ => by go_simp⟩) hS ?_ ?_
  rotate_left
  · simp only [Act.put, List.setIfInBounds_toArray, List.set_cons_zero, List.set_cons_succ]
    rfl
  refine take_ (i := 4) (N := some 122) (a' := ?_) (v := .pointer (some ⟨b2, 7, none⟩)) #[true, true, true, true, true, false, false, false] rfl rfl (by kernel_rfl) (by first | exact fun _ _ _ h => h | exact fun _ _ _ h => hP _ _ _ _ _ h) (Or.inl ⟨by rfl, fun w' _ => by go_simp⟩) hS ?_ ?_
  rotate_left
  · simp only [Act.put, List.setIfInBounds_toArray, List.set_cons_zero, List.set_cons_succ]
    rfl
  refine take_ (i := 5) (N := some 123) (a' := ?_) (v := .int .i64 row) #[true, true, true, true, true, true, false, false] rfl rfl (by kernel_rfl) (by first | exact fun _ _ _ h => h | exact fun _ _ _ h => hP _ _ _ _ _ h) (y_load rfl rfl rfl (.tail _ (.head _)) H7.out Tryz.underlying3 rfl) hS ?_ ?_
  rotate_left
  · simp only [Act.put, List.setIfInBounds_toArray, List.set_cons_zero, List.set_cons_succ]
    rfl
  have hB : Below wr.heap.size wr wr.drew := (Below.refl _ _).drew
  refine last_ (i := 6) (N := some 124) #[true, true, true, true, true, true, true, false] rfl rfl (by kernel_rfl) (by decide) (fun K hK => ?_)
  refine goes_ Tryz.func44 (by kernel_rfl) rfl #[.agg (gridL r c V).toArray, .int .i64 row] (by rfl) rfl rfl (by simp only [List.map_toArray, List.map_cons, List.map_nil]; rfl) ?_
  refine (HC1.out _ hB).mono ?_
  rintro e w4 ⟨v0_, rfl, hO1, hB1⟩
  refine ⟨_, rfl, hK.out _ _ ?_⟩
  clear hK K
  refine norm_ (a' := ?_) ?_ ?_
  rotate_left
  · simp only [Act.put, List.setIfInBounds_toArray, List.set_cons_zero, List.set_cons_succ]
    rfl
  refine pure_ (i := 7) (N := some 13) (a' := ?_) (v := v0_) #[true, true, true, true, true, true, true, true] rfl rfl (by kernel_rfl) (by first | exact fun _ _ _ h => h | exact fun _ _ _ h => hP _ _ _ _ _ h) (Or.inl ⟨by rfl, fun w' => by go_simp⟩) ?_ ?_
  rotate_left
  · simp only [Act.put, List.setIfInBounds_toArray, List.set_cons_zero, List.set_cons_succ]
    rfl
  refine done_ (by kernel_rfl) ?_
  exact hQ w4 _ _ _ _ _ _ _ _ (hS.call hB1) hO1 (hB.trans (hB1.mono hB.size))
set_option maxRecDepth 100000 in
set_option maxHeartbeats 4000000 in
theorem preg34_is {w wr : World} {b2 b4 q r c : Nat} {l : List Value} {V v13_ : Value} {row col rn : Int} {a : Attr} {L2 M' : List Cell} {Q : Exit → Act → World → Prop} (hM : Mem w wr [(b4, Row 38 zL), (b2, Row 38 l)]) (hg : (l.drop q).take (gridL r c V).length = gridL r c V) (hq : q + 3 ≤ l.length) (h7 : l[7]? = some (.int .i64 row)) (h8 : l[8]? = some (.int .i64 col)) (h10 : (l.drop 10).take (attrL a).length = attrL a)
    (hc1 : ∀ W, Below wr.heap.size wr W → Calls Tryz.prog 89 #[v13_, .int .i64 col, .int .i64 rn, .agg (attrL a).toArray] W fun e w' => ∃ v', e = .returned v' ∧ OwnC w' W.heap.size v' L2 ∧ Below W.heap.size W w')
    (hc2 : ∀ W v, Below wr.heap.size wr W → RdC W v L2 → Calls Tryz.prog 42 #[.agg (gridL r c V).toArray, .int .i64 row, v] W fun e w' => ∃ v', e = .returned (.agg (gridL r c v').toArray) ∧ OwnC w' W.heap.size v' M' ∧ Below W.heap.size W w')
    (hP : ∀ c a (d : Tmp) v w, Q (.panic c) (Act.put a (some d) v) w → Q (.panic c) a w) (u0 u3 u4 u5 u6 u7 u8 u9 u10 u11 u14 u15 u16 u17 u18 u19 u20 u21 u22 u23 u24 u25 u26 u27 u28 u29 u30 u31 u32 u33 u34 u35 u36 u37 u38 u39 u40 u41 u42 u43 u44 u45 u46 u47 u48 u49 u50 u51 u52 u53 u54 u55 u56 u57 u58 u59 u60 u61 u62 u63 u64 u65 u66 u67 u68 u69 u70 u71 u72 u73 u74 u75 u76 u77 u78 u79 u80 u81 u82 u83 u84 u85 u86 u87 u88 u89 u90 u91 u92 u93 u94 u95 u96 u97 u98 u99 u100 u101 u102 u103 u104 u105 u106 u107 u108 u109 u110 u111 u112 u113 u114 u115 u116 u117 u118 u119 u120 u121 u122 u123 u124 u125 u126 u127 u128 u129 u130 u131 u132 u133 u134 u135 u136 u137 u138 u139 u140 u141 u142 u143 u144 u145 u146 u147 u148 u149 u150 u151 u152 u153 u154 u155 u156 u157 u158 u159 u160 u161 u162 u163 u164 u165 u166 u167 u168 u169 u170 u171 u172 u173 u174 u175 u176 u177 : Value)
    (hQ : ∀ w' A2 n2 k2 (v138 v139 v140 v141 v142 v143 v144 v145 v146 v147 v148 v149 v150 v151 v152 v153 v154 v155 : Value), Mem w w' [(b4, Row 38 zL), (b2, Row 38 (Mem.putL l q (gridL r c (.slice A2 n2 k2))))] → Upd w wr [(b4, Row 38 zL), (b2, Row 38 l)] b2 (.slice A2 n2 k2) M' w' → Q .normal ⟨#[u0, .int .i64 rn, .pointer (some ⟨b2, 0, none⟩), u3, u4, u5, u6, u7, u8, u9, u10, u11, .pointer (some ⟨b2, q, none⟩), v13_, u14, u15, u16, u17, u18, u19, u20, u21, u22, u23, u24, u25, u26, u27, u28, u29, u30, u31, u32, u33, u34, u35, u36, u37, u38, u39, u40, u41, u42, u43, u44, u45, u46, u47, u48, u49, u50, u51, u52, u53, u54, u55, u56, u57, u58, u59, u60, u61, u62, u63, u64, u65, u66, u67, u68, u69, u70, u71, u72, u73, u74, u75, u76, u77, u78, u79, u80, u81, u82, u83, u84, u85, u86, u87, u88, u89, u90, u91, u92, u93, u94, u95, u96, u97, u98, u99, u100, u101, u102, u103, u104, u105, u106, u107, u108, u109, u110, u111, u112, u113, u114, u115, u116, u117, u118, u119, u120, u121, u122, u123, u124, u125, u126, u127, u128, u129, u130, u131, u132, u133, u134, u135, u136, u137, v138, v139, v140, v141, v142, v143, v144, v145, v146, v147, v148, v149, v150, v151, v152, v153, v154, v155, u156, u157, u158, u159, u160, u161, u162, u163, u164, u165, u166, u167, u168, u169, u170, u171, u172, u173, u174, u175, u176, u177], []⟩ w') :
    Code.wp Tryz.prog (preg 34) Q ⟨#[u0, .int .i64 rn, .pointer (some ⟨b2, 0, none⟩), u3, u4, u5, u6, u7, u8, u9, u10, u11, .pointer (some ⟨b2, q, none⟩), v13_, u14, u15, u16, u17, u18, u19, u20, u21, u22, u23, u24, u25, u26, u27, u28, u29, u30, u31, u32, u33, u34, u35, u36, u37, u38, u39, u40, u41, u42, u43, u44, u45, u46, u47, u48, u49, u50, u51, u52, u53, u54, u55, u56, u57, u58, u59, u60, u61, u62, u63, u64, u65, u66, u67, u68, u69, u70, u71, u72, u73, u74, u75, u76, u77, u78, u79, u80, u81, u82, u83, u84, u85, u86, u87, u88, u89, u90, u91, u92, u93, u94, u95, u96, u97, u98, u99, u100, u101, u102, u103, u104, u105, u106, u107, u108, u109, u110, u111, u112, u113, u114, u115, u116, u117, u118, u119, u120, u121, u122, u123, u124, u125, u126, u127, u128, u129, u130, u131, u132, u133, u134, u135, u136, u137, u138, u139, u140, u141, u142, u143, u144, u145, u146, u147, u148, u149, u150, u151, u152, u153, u154, u155, u156, u157, u158, u159, u160, u161, u162, u163, u164, u165, u166, u167, u168, u169, u170, u171, u172, u173, u174, u175, u176, u177], []⟩ wr := by
  have HM := hid hM
  have HGR := hid hg
  have H7 := hid h7
  have H8 := hid h8
  have H10 := hid h10
  have HC1 := hid hc1
  have HC2 := hid hc2
  clear hM hg h7 h8 h10 hc1 hc2
  conv => arg 2; whnf
  conv => arg 4; zeta
  refine start_ (n := 19) (S := fun W => Mem w W [(b4, Row 38 zL), (b2, Row 38 l)]) (ds := [18]) #[false, false, false, false, false, false, false, false, false, false, false, false, false, false, false, false, false, false, false] (by kernel_rfl) rfl rfl HM.out.drew (fun hS => ?_)
  refine take_ (i := 0) (N := some 138) (a' := ?_) (v := .pointer (some ⟨b2, q, none⟩)) #[true, false, false, false, false, false, false, false, false, false, false, false, false, false, false, false, false, false, false] rfl rfl (by kernel_rfl) (by first | exact fun _ _ _ h => h | exact fun _ _ _ h => hP _ _ _ _ _ h) (Or.inl ⟨by rfl, fun w' _ => by go_simp⟩) hS ?_ ?_
  rotate_left
  · simp only [Act.put, List.setIfInBounds_toArray, List.set_cons_zero, List.set_cons_succ]
    rfl
  refine take_ (i := 1) (N := some 139) (a' := ?_) (v := .pointer (some ⟨b2, q, none⟩)) #[true, true, false, false, false, false, false, false, false, false, false, false, false, false, false, false, false, false, false] rfl rfl (by kernel_rfl) (by first | exact fun _ _ _ h => h | exact fun _ _ _ h => hP _ _ _ _ _ h) (Or.inl ⟨by rfl, fun w' _ => by go_simp⟩) hS ?_ ?_
  rotate_left
  · simp only [Act.put, List.setIfInBounds_toArray, List.set_cons_zero, List.set_cons_succ]
    rfl
  refine take_ (i := 2) (N := some 140) (a' := ?_) (v := .pointer (some ⟨b2, q, none⟩)) #[true, true, true, false, false, false, false, false, false, false, false, false, false, false, false, false, false, false, false] rfl rfl (by kernel_rfl) (by first | exact fun _ _ _ h => h | exact fun _ _ _ h => hP _ _ _ _ _ h) (Or.inl ⟨by rfl, fun w' _ => by go_simp⟩) hS ?_ ?_
  rotate_left
  · simp only [Act.put, List.setIfInBounds_toArray, List.set_cons_zero, List.set_cons_succ]
    rfl
  refine take_ (i := 3) (N := some 141) (a' := ?_) (v := .agg (gridL r c V).toArray) #[true, true, true, true, false, false, false, false, false, false, false, false, false, false, false, false, false, false, false] rfl rfl (by kernel_rfl) (by first | exact fun _ _ _ h => h | exact fun _ _ _ h => hP _ _ _ _ _ h) (y_loadS rfl rfl rfl (.tail _ (.head _)) HGR.out Tryz.underlying31 rfl (by kernel_rfl)) hS ?_ ?_
  rotate_left
  · simp only [Act.put, List.setIfInBounds_toArray, List.set_cons_zero, List.set_cons_succ]
    rfl
  refine take_ (i := 4) (N := some 142) (a' := ?_) (v := .pointer (some ⟨b2, 7, none⟩)) #[true, true, true, true, true, false, false, false, false, false, false, false, false, false, false, false, false, false, false] rfl rfl (by kernel_rfl) (by first | exact fun _ _ _ h => h | exact fun _ _ _ h => hP _ _ _ _ _ h) (Or.inl ⟨by rfl, fun w' _ => by go_simp⟩) hS ?_ ?_
  rotate_left
  · simp only [Act.put, List.setIfInBounds_toArray, List.set_cons_zero, List.set_cons_succ]
    rfl
  refine take_ (i := 5) (N := some 143) (a' := ?_) (v := .pointer (some ⟨b2, 7, none⟩)) #[true, true, true, true, true, true, false, false, false, false, false, false, false, false, false, false, false, false, false] rfl rfl (by kernel_rfl) (by first | exact fun _ _ _ h => h | exact fun _ _ _ h => hP _ _ _ _ _ h) (Or.inl ⟨by rfl, fun w' _ => by go_simp⟩) hS ?_ ?_
  rotate_left
  · simp only [Act.put, List.setIfInBounds_toArray, List.set_cons_zero, List.set_cons_succ]
    rfl
  refine take_ (i := 6) (N := some 144) (a' := ?_) (v := .int .i64 row) #[true, true, true, true, true, true, true, false, false, false, false, false, false, false, false, false, false, false, false] rfl rfl (by kernel_rfl) (by first | exact fun _ _ _ h => h | exact fun _ _ _ h => hP _ _ _ _ _ h) (y_load rfl rfl rfl (.tail _ (.head _)) H7.out Tryz.underlying3 rfl) hS ?_ ?_
  rotate_left
  · simp only [Act.put, List.setIfInBounds_toArray, List.set_cons_zero, List.set_cons_succ]
    rfl
  refine take_ (i := 7) (N := some 145) (a' := ?_) (v := v13_) #[true, true, true, true, true, true, true, true, false, false, false, false, false, false, false, false, false, false, false] rfl rfl (by kernel_rfl) (by first | exact fun _ _ _ h => h | exact fun _ _ _ h => hP _ _ _ _ _ h) (Or.inl ⟨by rfl, fun w' _ => by go_simp⟩) hS ?_ ?_
  rotate_left
  · simp only [Act.put, List.setIfInBounds_toArray, List.set_cons_zero, List.set_cons_succ]
    rfl
  refine take_ (i := 8) (N := some 146) (a' := ?_) (v := .pointer (some ⟨b2, 7, none⟩)) #[true, true, true, true, true, true, true, true, true, false, false, false, false, false, false, false, false, false, false] rfl rfl (by kernel_rfl) (by first | exact fun _ _ _ h => h | exact fun _ _ _ h => hP _ _ _ _ _ h) (Or.inl ⟨by rfl, fun w' _ => by go_simp⟩) hS ?_ ?_
  rotate_left
  · simp only [Act.put, List.setIfInBounds_toArray, List.set_cons_zero, List.set_cons_succ]
    rfl
  refine take_ (i := 9) (N := some 147) (a' := ?_) (v := .pointer (some ⟨b2, 8, none⟩)) #[true, true, true, true, true, true, true, true, true, true, false, false, false, false, false, false, false, false, false] rfl rfl (by kernel_rfl) (by first | exact fun _ _ _ h => h | exact fun _ _ _ h => hP _ _ _ _ _ h) (Or.inl ⟨by rfl, fun w' _ => by go_simp⟩) hS ?_ ?_
  rotate_left
  · simp only [Act.put, List.setIfInBounds_toArray, List.set_cons_zero, List.set_cons_succ]
    rfl
  refine take_ (i := 10) (N := some 148) (a' := ?_) (v := .int .i64 col) #[true, true, true, true, true, true, true, true, true, true, true, false, false, false, false, false, false, false, false] rfl rfl (by kernel_rfl) (by first | exact fun _ _ _ h => h | exact fun _ _ _ h => hP _ _ _ _ _ h) (y_load rfl rfl rfl (.tail _ (.head _)) H8.out Tryz.underlying3 rfl) hS ?_ ?_
  rotate_left
  · simp only [Act.put, List.setIfInBounds_toArray, List.set_cons_zero, List.set_cons_succ]
    rfl
  refine take_ (i := 11) (N := some 149) (a' := ?_) (v := .int .i64 rn) #[true, true, true, true, true, true, true, true, true, true, true, true, false, false, false, false, false, false, false] rfl rfl (by kernel_rfl) (by first | exact fun _ _ _ h => h | exact fun _ _ _ h => hP _ _ _ _ _ h) (Or.inl ⟨by rfl, fun w' _ => by go_simp⟩) hS ?_ ?_
  rotate_left
  · simp only [Act.put, List.setIfInBounds_toArray, List.set_cons_zero, List.set_cons_succ]
    rfl
  refine take_ (i := 12) (N := some 150) (a' := ?_) (v := .pointer (some ⟨b2, 7, none⟩)) #[true, true, true, true, true, true, true, true, true, true, true, true, true, false, false, false, false, false, false] rfl rfl (by kernel_rfl) (by first | exact fun _ _ _ h => h | exact fun _ _ _ h => hP _ _ _ _ _ h) (Or.inl ⟨by rfl, fun w' _ => by go_simp⟩) hS ?_ ?_
  rotate_left
  · simp only [Act.put, List.setIfInBounds_toArray, List.set_cons_zero, List.set_cons_succ]
    rfl
  refine take_ (i := 13) (N := some 151) (a' := ?_) (v := .pointer (some ⟨b2, 10, none⟩)) #[true, true, true, true, true, true, true, true, true, true, true, true, true, true, false, false, false, false, false] rfl rfl (by kernel_rfl) (by first | exact fun _ _ _ h => h | exact fun _ _ _ h => hP _ _ _ _ _ h) (Or.inl ⟨by rfl, fun w' _ => by go_simp⟩) hS ?_ ?_
  rotate_left
  · simp only [Act.put, List.setIfInBounds_toArray, List.set_cons_zero, List.set_cons_succ]
    rfl
  refine take_ (i := 14) (N := some 152) (a' := ?_) (v := .agg (attrL a).toArray) #[true, true, true, true, true, true, true, true, true, true, true, true, true, true, true, false, false, false, false] rfl rfl (by kernel_rfl) (by first | exact fun _ _ _ h => h | exact fun _ _ _ h => hP _ _ _ _ _ h) (y_loadS rfl rfl rfl (.tail _ (.head _)) H10.out Tryz.underlying33 rfl (by kernel_rfl)) hS ?_ ?_
  rotate_left
  · simp only [Act.put, List.setIfInBounds_toArray, List.set_cons_zero, List.set_cons_succ]
    rfl
  have hB : Below wr.heap.size wr wr.drew := (Below.refl _ _).drew
  refine one_ (i := 15) (N := some 153) #[true, true, true, true, true, true, true, true, true, true, true, true, true, true, true, true, false, false, false] rfl rfl (by kernel_rfl) (by decide) (fun K hK => ?_)
  refine goes_ Tryz.func89 (by kernel_rfl) rfl #[v13_, .int .i64 col, .int .i64 rn, .agg (attrL a).toArray] (by rfl) rfl rfl (by simp only [List.map_toArray, List.map_cons, List.map_nil]; rfl) ?_
  refine (HC1.out _ hB).mono ?_
  rintro e w4 ⟨v0_, rfl, hO1, hB1⟩
  have hB0 := hB.trans (hB1.mono hB.size)
  clear hB
  have hB := hB0
  clear hB0
  refine ⟨_, rfl, hK.out _ _ (hS.call hB1) (fun hS2 => ?_)⟩
  clear hK K hS
  have hS := hS2
  clear hS2
  refine norm_ (a' := ?_) ?_ ?_
  rotate_left
  · simp only [Act.put, List.setIfInBounds_toArray, List.set_cons_zero, List.set_cons_succ]
    rfl
  refine one_ (i := 16) (N := some 154) #[true, true, true, true, true, true, true, true, true, true, true, true, true, true, true, true, true, false, false] rfl rfl (by kernel_rfl) (by decide) (fun K hK => ?_)
  refine goes_ Tryz.func42 (by kernel_rfl) rfl #[.agg (gridL r c V).toArray, .int .i64 row, v0_] (by rfl) rfl rfl (by simp only [List.map_toArray, List.map_cons, List.map_nil]; rfl) ?_
  refine (HC2.out _ _ hB hO1.rd).mono ?_
  rintro e w5 ⟨v1_, rfl, hO2, hB2⟩
  obtain ⟨A2, k2, rfl⟩ := hO2.slice
  have hBs := hB.size
  have hB0 := hB.trans (hB2.mono hB.size)
  clear hB
  have hB := hB0
  clear hB0
  refine ⟨_, rfl, hK.out _ _ (hS.call hB2) (fun hS2 => ?_)⟩
  clear hK K hS
  have hS := hS2
  clear hS2
  refine norm_ (a' := ?_) ?_ ?_
  rotate_left
  · simp only [Act.put, List.setIfInBounds_toArray, List.set_cons_zero, List.set_cons_succ]
    rfl
  refine take_ (i := 17) (N := some 155) (a' := ?_) (v := .pointer (some ⟨b2, q, none⟩)) #[true, true, true, true, true, true, true, true, true, true, true, true, true, true, true, true, true, true, false] rfl rfl (by kernel_rfl) (by first | exact fun _ _ _ h => h | exact fun _ _ _ h => hP _ _ _ _ _ h) (Or.inl ⟨by rfl, fun w' _ => by go_simp⟩) hS ?_ ?_
  rotate_left
  · simp only [Act.put, List.setIfInBounds_toArray, List.set_cons_zero, List.set_cons_succ]
    rfl
  refine last_ (i := 18) (N := none) #[true, true, true, true, true, true, true, true, true, true, true, true, true, true, true, true, true, true, true] rfl rfl (by kernel_rfl) (by decide) (fun K hK => ?_)
  refine y_storeE hS rfl rfl rfl rfl 1 rfl (cs := gridL r c (.slice A2 _ k2)) rfl _ rfl (by simpa [gridL] using hq) (by kernel_rfl) rfl (fun w9 hM9 hg9 => hK.out _ _ ?_)
  clear hK K
  refine done_ (by kernel_rfl) ?_
  exact hQ w9 _ _ _ _ _ _ _ _ _ _ _ _ _ _ _ _ _ _ _ _ _ hM9 ⟨_, hB, hS, hO2.lower hBs, hg9⟩
end Go.Proofs.YtpmfjombfcnhmaaGreatDoor

/- The reference's Print of the rune 'a' on a new screen of one row and two columns; it may be. -/
namespace Go.Proofs.YtpmfjombfcnhmaaGreatDoor
open Go Go.RowKit Go.Proofs.YtpmfjombfcnhmaaGreatDoorW.PrintLast

def prM : List Cell := onSub (0 * 2) 2 (fun _ => putN 0 97 plainA (sub (0 * 2) 2 (blankL (1 * 2) plainA))) (blankL (1 * 2) plainA)
def prA : Scr := { newScr 1 2 with cur := { fC with col := 1 }, ms := prM, last := 97 }
theorem prM_is : prM = [⟨97, ⟨#[]⟩, 0, plainA⟩, bare plainA] := by decide +kernel
theorem rowOk_wd0 {L : List Cell} (h1 : 1 ≤ L.length) (h2 : L.length ≤ 40) (h : ∀ i, i < L.length → cellOk (at_ L i) = true ∧ (at_ L i).wd = 0) : rowOk L :=
  ⟨h1, h2, fun i hi => ⟨(h i hi).1, fun e => by rw [(h i hi).2] at e; exact absurd e (by decide), fun e => by rw [(h i hi).2] at e; exact absurd e (by decide)⟩⟩
theorem scrB_prA : scrB prA = true := by
  have hg2 := gridB_yes (gridOk_blank (r := 1) (c := 2) (by decide) (by decide))
  have hg1 : gridB 1 2 prM = true := by
    refine gridB_yes ⟨sidesOk_iff.2 ⟨by decide, by decide, by decide, by decide⟩, by rw [prM_is]; rfl, fun i hi => ?_⟩
    have hi0 : i = 0 := by omega
    subst hi0
    rw [prM_is]
    refine rowOk_wd0 (by decide) (by decide) fun j hj => ?_
    match j, hj with
    | 0, _ => exact ⟨by decide, by decide⟩
    | 1, _ => exact ⟨by decide, by decide⟩
  have hc1 : curOk fC 1 2 = true := by decide
  have hc2 : curOk { fC with col := 1 } 1 2 = true := by decide
  have hmar : marginsOk prA = true := by decide
  have ht : titleOk ⟨#[]⟩ = true := by decide
  have hl : (wideT [] 2).length = 2 := by decide
  have e1 : gridsOk prA = true := by
    unfold gridsOk prA newScr
    simp only
    simp at hg2
    simp [hg1, hg2]
  have e2 : cursOk prA = true := by
    unfold cursOk prA newScr
    simp [hc1, hc2]
  have e3 : restOk prA = true := by
    unfold restOk
    rw [hmar]
    have hw : widthOf 97 = 1 := by decide
    simp [prA, newScr, hl, ht, hw]
  rw [scrB, e1, e2, e3]; rfl
theorem own_updF {w0 wr w' : World} {F : List Ent} {b base : Nat} {s1 : Scr} {M M' : List Cell} {m o t : Value} {l : List Value} {A : Option Addr} {n k : Nat} (hs : s1.sw = false) (hO : OwnScr wr base (putM s1 M) m o t) (hb : base ≤ wr.heap.size) (hmem : (b, Row 38 l) ∈ F) (hU : Upd w0 wr F b (.slice A n k) M' w') : OwnScr w' base (putM s1 M') (.slice A n k) o t := by
  obtain ⟨w5, hB, hM5, hO5, hgr⟩ := hU
  have hn : ¬ s1.sw = true := by simp [hs]
  unfold putM at hO ⊢
  rw [if_neg hn] at hO ⊢
  have hk : ∀ {e : TypeId} {q n2 : Nat} {v : Value} {xs : List Value}, (e == 38) = false → wr.ownsRow base e q v n2 xs → w'.ownsRow base e q v n2 xs := fun he hx => by
    have h5 := own_below hx hB
    exact h5.kept hgr (ownE_ne hM5 hmem h5 he)
  exact ⟨OwnC.lower (hO5.kept hgr (ownE_ne hM5 hmem hO5 rfl)) hb, hk rfl hO.ho, hk rfl hO.ht, apart_old hO.ho hO5 (Nat.le_refl _), apart_old hO.ht hO5 (Nat.le_refl _), hO.ot⟩
end Go.Proofs.YtpmfjombfcnhmaaGreatDoor

/- The reference's Print of the rune 'a' on a new screen: the walk. -/
namespace Go.Proofs.YtpmfjombfcnhmaaGreatDoor
open Go Go.RowKit Go.Proofs.YtpmfjombfcnhmaaGreatDoorW.PrintLast

theorem seen_rd {W : World} {base : Nat} {s1 : Scr} {m o t : Value} (hs : s1.sw = false) (hO : OwnScr W base s1 m o t) : RdC W (seenV s1 m o) (getM s1) := by
  unfold seenV getM
  rw [if_neg (by rw [hs]; decide), if_neg (by rw [hs]; decide)]
  exact hO.hm.rd
set_option maxRecDepth 100000 in
set_option maxHeartbeats 8000000 in
theorem print_a {m o t : Value} {w : World} (hr : RdScr w (newScr 1 2) m o t) :
    Calls Tryz.prog 51 #[.agg (scrL (newScr 1 2) m o t).toArray, .int .i64 97] w fun e w' => RPost w prA e w' := by
  obtain ⟨s, hs⟩ : ∃ s, newScr 1 2 = s := ⟨_, rfl⟩
  rw [hs] at hr ⊢
  have HS := hid hs
  have v1 : ∀ m o t, (scrL s m o t)[1]? = some (.int .i64 2) := fun m o t => by rw [← hs]; rfl
  have v8 : ∀ m o t, (scrL s m o t)[8]? = some (.int .i64 0) := fun m o t => by rw [← hs]; rfl
  have v9 : ∀ m o t, (scrL s m o t)[9]? = some (.bool false) := fun m o t => by rw [← hs]; rfl
  have v13 : ∀ m o t, (scrL s m o t)[13]? = some (.int .i64 0) := fun m o t => by rw [← hs]; rfl
  have v15 : ∀ m o t, (scrL s m o t)[15]? = some (.int .i64 0) := fun m o t => by rw [← hs]; rfl
  have v40 : ∀ m o t, (scrL s m o t)[40]? = some (.int .i64 9) := fun m o t => by rw [← hs]; rfl
  have w7 : ∀ m o t, (scrL (noWrap s) m o t)[7]? = some (.int .i64 0) := fun m o t => by rw [← hs]; rfl
  have w8 : ∀ m o t, (scrL (noWrap s) m o t)[8]? = some (.int .i64 0) := fun m o t => by rw [← hs]; rfl
  have w10 : ∀ m o t, ((scrL (noWrap s) m o t).drop 10).take (attrL plainA).length = attrL plainA := fun m o t => by rw [← hs]; rfl
  have w40 : ∀ m o t, (scrL (noWrap s) m o t)[40]? = some (.int .i64 9) := fun m o t => by rw [← hs]; rfl
  have hsw : (noWrap s).sw = false := by rw [← hs]; rfl
  have hGF : GF (noWrap s) 1 2 := by rw [← hs]; exact ⟨rfl, rfl, rfl, rfl⟩
  have hget : getM (noWrap s) = blankL (1 * 2) plainA := by rw [← hs]; rfl
  have HV1 := hid v1
  have HV8 := hid v8
  have HV9 := hid v9
  have HV13 := hid v13
  have HV15 := hid v15
  have HV40 := hid v40
  have HW7 := hid w7
  have HW8 := hid w8
  have HW10 := hid w10
  have HW40 := hid w40
  have HSW := hid hsw
  have HGF := hid hGF
  have HGET := hid hget
  have HWD : Hid (∀ W, Calls Tryz.prog 36 #[.int .i64 97] W fun e w' => e = .returned (.int .i64 1) ∧ Below W.heap.size W w') := hid fun W => width_is (by decide) W
  have HC := hid (fun W (hW : Below w.heap.size w W) => copyS_l (hr.below hW))
  have HX := hid (Mem.start w)
  clear hr hs v1 v8 v9 v13 v15 v40 w7 w8 w10 w40 hsw hGF hget
  go_enter Tryz.func51, Tryz.ntmps51
  go_upto_region 0 with (fail)
  refine wp_region_lit ?_
  refine m_box HX.out rfl rfl rfl ?_
  intro b2 w1 hM1
  simp only [Act.put, List.setIfInBounds_toArray, List.set_cons_zero, List.set_cons_succ]
  refine m_alloc hM1 rfl rfl info_zS ?_
  intro b4 w2 hM
  simp only [Act.put, List.setIfInBounds_toArray, List.set_cons_zero, List.set_cons_succ]
  clear hM1
  have HM := hid (show Mem w w2 [(b4, Row 38 zL), (b2, Row 38 (scrL s m o t))] from hM)
  clear hM
  go_wp2_with (first | ((with_reducible refine wl_id ?_); refine m_loadS HM.out rfl rfl rfl (by first | exact .head _ | exact .tail _ (.head _) | exact .tail _ (.tail _ (.head _)) | exact .tail _ (.tail _ (.tail _ (.head _))) | exact .tail _ (.tail _ (.tail _ (.tail _ (.head _)))) | exact .tail _ (.tail _ (.tail _ (.tail _ (.tail _ (.head _))))) | exact .tail _ (.tail _ (.tail _ (.tail _ (.tail _ (.tail _ (.head _)))))) | exact .tail _ (.tail _ (.tail _ (.tail _ (.tail _ (.tail _ (.tail _ (.head _)))))))) (scrL s m o t) rfl Tryz.underlying38 rfl (by kernel_rfl) ?_; simp only [Act.put, List.setIfInBounds_toArray, List.set_cons_zero, List.set_cons_succ]) | (go_at_call 19; fail))
  refine (HC.out _ HM.out.below).mono ?_
  rintro e w3 ⟨m', o', t', rfl, hO, hB⟩
  obtain ⟨A1, k1, rfl⟩ := hO.hm.slice
  obtain ⟨A2, k2, rfl⟩ := hO.ho.slice
  obtain ⟨A3, k3, rfl⟩ := ownB_slice hO.ht
  have HM3 := hid (HM.out.call hB)
  have HO := hid (show OwnScr w3 w.heap.size s _ _ _ from ⟨OwnC.lower hO.hm HM.out.below.size, OwnC.lower hO.ho HM.out.below.size, ownB_lower (w' := w) hO.ht HM.out.below.size, hO.mo, hO.mt, hO.ot⟩)
  clear hO hB HM HC
  have HM := HM3
  clear HM3
  go_upto_region 2 with (first | ((with_reducible refine wl_id ?_); refine m_storeAG HM.out rfl rfl rfl 1 rfl rfl rfl (by kernel_rfl) rfl ?_; intro wx hM hg; simp only [Act.put, List.setIfInBounds_toArray, List.set_cons_zero, List.set_cons_succ]; simp only [List.set_cons_succ, List.set_cons_zero] at hM; have HMx := hid hM; have HGx := hid hg; clear hM hg))
  have HO2 := hid (HO.out.keptE HM.out (.tail _ (.head _)) HGx.out rfl rfl)
  clear HM HO HGx
  have HM := HMx
  clear HMx
  go_upto_region 8 with (first | ((with_reducible refine wl_id ?_); refine m_load HM.out rfl rfl rfl (.tail _ (.head _)) (HV13.out _ _ _) Tryz.underlying3 rfl ?_; simp only [Act.put, List.setIfInBounds_toArray, List.set_cons_zero, List.set_cons_succ]) | ((with_reducible refine wl_id ?_); refine m_load HM.out rfl rfl rfl (.tail _ (.head _)) (HV15.out _ _ _) Tryz.underlying3 rfl ?_; simp only [Act.put, List.setIfInBounds_toArray, List.set_cons_zero, List.set_cons_succ]))
  go_upto_region 9 with (go_at_call 36; (with_reducible refine (HWD.out _).mono ?_); rintro e w4 ⟨rfl, hB⟩; have HM4 := hid (HM.out.call hB); have HO4 := hid (HO2.out.below hB); clear hB)
  clear HM HO2
  have HM := HM4
  clear HM4
  go_upto_region 30 with (first | ((with_reducible refine wl_id ?_); refine m_load HM.out rfl rfl rfl (.tail _ (.head _)) (HV1.out _ _ _) Tryz.underlying3 rfl ?_; simp only [Act.put, List.setIfInBounds_toArray, List.set_cons_zero, List.set_cons_succ]) | ((with_reducible refine wl_id ?_); refine m_load HM.out rfl rfl rfl (.tail _ (.head _)) (HV40.out _ _ _) Tryz.underlying3 rfl ?_; simp only [Act.put, List.setIfInBounds_toArray, List.set_cons_zero, List.set_cons_succ]) | ((with_reducible refine wl_id ?_); refine m_load HM.out rfl rfl rfl (.tail _ (.head _)) (HV9.out _ _ _) Tryz.underlying4 rfl ?_; simp only [Act.put, List.setIfInBounds_toArray, List.set_cons_zero, List.set_cons_succ]) | ((with_reducible refine wl_id ?_); refine m_store1G HM.out rfl rfl rfl 1 rfl rfl rfl rfl (Nat.le_of_ble_eq_true rfl) (by kernel_rfl) ?_; intro we hM hg; simp only [Act.put, List.setIfInBounds_toArray, List.set_cons_zero, List.set_cons_succ]; simp only [List.set_cons_succ, List.set_cons_zero] at hM; have HMe := hid hM; have HGe := hid hg; clear hM hg))
  have HO5 := hid ((HO4.out.keptE HM.out (.tail _ (.head _)) HGe.out rfl rfl).as (s' := noWrap s) rfl rfl rfl)
  have HM5 := hid (show Mem w we [(b4, Row 38 zL), (b2, Row 38 (scrL (noWrap s) _ _ _))] from HMe.out)
  clear HM HO4 HGe HMe
  have HM := HM5
  clear HM5
  have HSN := hid (rseen_any HM.out (i := 1) rfl)
  go_upto_region 31 with (go_at_call 41; (with_reducible refine HSN.out.mono ?_); rintro e w5 ⟨rfl, rfl⟩)
  refine preg31_is (row := 0) HM.out (gl_get HGF.out) (HW7.out _ _ _) (fun W hW => rat_any (M := blankL (1 * 2) plainA) (i := 0) (by have h2 := seen_rd HSW.out (HO5.out.below hW); rw [HGET.out] at h2; exact h2) rfl (by simp) (by decide) (by decide) (by decide) (by simp)) (fun _ _ _ _ _ h => by simp +zetaDelta only [Exit.then, Exit.inBlock] at h ⊢; exact h) _ _ _ _ _ _ _ _ _ _ _ _ _ _ _ _ _ _ _ _ _ _ _ _ _ _ _ _ _ _ _ _ _ _ _ _ _ _ _ _ _ _ _ _ _ _ _ _ _ _ _ _ _ _ _ _ _ _ _ _ _ _ _ _ _ _ _ _ _ _ _ _ _ _ _ _ _ _ _ _ _ _ _ _ _ _ _ _ _ _ _ _ _ _ _ _ _ _ _ _ _ _ _ _ _ _ _ _ _ _ _ _ _ _ _ _ _ _ _ _ _ _ _ _ _ _ _ _ _ _ _ _ _ _ _ _ _ _ _ _ _ _ _ _ _ _ _ _ _ _ _ _ _ _ _ _ _ _ _ _ _ _ _ _ _ _ _ _ _ _ _ _ _ _ _ _ ?_
  rintro w7 v13 z118 z119 z120 z121 z122 z123 z124 hM hV hB
  conv => zeta
  have HM7 := hid hM
  have HO7 := hid (HO5.out.below hB)
  have HV := hid hV
  clear hM hV hB HM HO5
  have HM := HM7
  clear HM7
  go_upto_region 34 with (first | ((with_reducible refine wl_id ?_); refine m_load HM.out rfl rfl rfl (.tail _ (.head _)) (HW40.out _ _ _) Tryz.underlying3 rfl ?_; simp only [Act.put, List.setIfInBounds_toArray, List.set_cons_zero, List.set_cons_succ]))
  refine preg34_is (row := 0) (col := 0) (rn := 97) (a := plainA) (M' := prM) HM.out (gl_get HGF.out) gl_q (HW7.out _ _ _) (HW8.out _ _ _) (HW10.out _ _ _) (fun W hW => rput_any (p := 0) (HV.out.below hW).rd (by simp) (by decide) (by simp)) (fun W v hW hv => rwith_any (M := blankL (1 * 2) plainA) (i := 0) (by have h2 := seen_rd HSW.out (HO7.out.below hW); rw [HGET.out] at h2; exact h2) hv (by simp) rfl (by simp) (by decide) (by decide) (by decide) (by simp)) (fun _ _ _ _ _ h => by simp +zetaDelta only [Exit.then, Exit.inBlock] at h ⊢; exact h) _ _ _ _ _ _ _ _ _ _ _ _ _ _ _ _ _ _ _ _ _ _ _ _ _ _ _ _ _ _ _ _ _ _ _ _ _ _ _ _ _ _ _ _ _ _ _ _ _ _ _ _ _ _ _ _ _ _ _ _ _ _ _ _ _ _ _ _ _ _ _ _ _ _ _ _ _ _ _ _ _ _ _ _ _ _ _ _ _ _ _ _ _ _ _ _ _ _ _ _ _ _ _ _ _ _ _ _ _ _ _ _ _ _ _ _ _ _ _ _ _ _ _ _ _ _ _ _ _ _ _ _ _ _ _ _ _ _ _ _ _ _ _ _ _ _ _ _ _ _ _ _ _ _ _ _ _ _ _ _ _ _ _ _ _ _ _ _ _ _ _ _ _ _ ?_
  rintro w8 A8 n8 k8 y138 y139 y140 y141 y142 y143 y144 y145 y146 y147 y148 y149 y150 y151 y152 y153 y154 y155 hM hU
  conv => zeta
  rw [gl_put HGF.out, HSW.out, if_neg (by decide), if_neg (by decide)] at hM
  have HO8 := hid (show OwnScr w8 w.heap.size { noWrap s with ms := prM } _ _ _ from by
    have h := own_updF (M := getM (noWrap s)) HSW.out (by rw [putM_get]; exact HO7.out) HM.out.below.size (.tail _ (.head _)) hU
    unfold putM at h
    rw [if_neg (by rw [HSW.out]; decide)] at h
    exact h)
  have HM8 := hid hM
  clear hM hU HM HO7 HV
  have HM := HM8
  clear HM8
  go_upto_region 36 with (first | ((with_reducible refine wl_id ?_); refine m_load HM.out rfl rfl rfl (.tail _ (.head _)) (HW8.out _ _ _) Tryz.underlying3 rfl ?_; simp only [Act.put, List.setIfInBounds_toArray, List.set_cons_zero, List.set_cons_succ]) | ((with_reducible refine wl_id ?_); refine m_store1G HM.out rfl rfl rfl 1 rfl rfl rfl rfl (Nat.le_of_ble_eq_true rfl) (by kernel_rfl) ?_; intro wf hM hg; simp only [Act.put, List.setIfInBounds_toArray, List.set_cons_zero, List.set_cons_succ]; simp only [List.set_cons_succ, List.set_cons_zero] at hM; have HMf := hid hM; have HGf := hid hg; clear hM hg))
  have HO9 := hid ((HO8.out.keptE HM.out (.tail _ (.head _)) HGf.out rfl rfl).as (s' := { atCol (noWrap s) 1 with ms := prM }) rfl rfl rfl)
  have HM9 := hid (show Mem w wf [(b4, Row 38 zL), (b2, Row 38 (scrL (atCol (noWrap s) 1) _ _ _))] from HMf.out)
  clear HM HO8 HGf HMf
  have HM := HM9
  clear HM9
  have HA8 := hid (show ∀ m o t, (scrL (atCol (noWrap s) 1) m o t)[8]? = some (.int .i64 1) from fun m o t => rfl)
  go_upto_region 40 with (first | ((with_reducible refine wl_id ?_); refine m_load HM.out rfl rfl rfl (.tail _ (.head _)) (HA8.out _ _ _) Tryz.underlying3 rfl ?_; simp only [Act.put, List.setIfInBounds_toArray, List.set_cons_zero, List.set_cons_succ]) | ((with_reducible refine wl_id ?_); refine m_store1G HM.out rfl rfl rfl 1 rfl rfl rfl rfl (Nat.le_of_ble_eq_true rfl) (by kernel_rfl) ?_; intro wh hM hg; simp only [Act.put, List.setIfInBounds_toArray, List.set_cons_zero, List.set_cons_succ]; simp only [List.set_cons_succ, List.set_cons_zero] at hM; have HMh := hid hM; have HGh := hid hg; clear hM hg))
  have HO10 := hid ((HO9.out.keptE HM.out (.tail _ (.head _)) HGh.out rfl rfl).as (s' := { atCol (noWrap s) 1 with ms := prM, last := 97 }) rfl rfl rfl)
  have HM10 := hid (show Mem w wh [(b4, Row 38 zL), (b2, Row 38 (scrL { atCol (noWrap s) 1 with ms := prM, last := 97 } _ _ _))] from HMh.out)
  clear HM HO9 HGh HMh
  have HM := HM10
  clear HM10
  have hfin : prA = { atCol (noWrap s) 1 with ms := prM, last := 97 } := by rw [← HS.out]; rfl
  rw [← hfin] at HM HO10
  clear hfin
  have hl := HO10.out.hm.slice
  go_wp2_with (first | ((with_reducible refine wl_id ?_); refine m_loadS HM.out rfl rfl rfl (.tail _ (.head _)) (scrL prA _ _ _) rfl Tryz.underlying38 rfl (by kernel_rfl) ?_; simp only [Act.put, List.setIfInBounds_toArray, List.set_cons_zero, List.set_cons_succ]) | ((with_reducible refine wl_id ?_); refine m_storeAG HM.out rfl rfl rfl 0 rfl rfl rfl (by kernel_rfl) rfl ?_; intro wy hM hg; simp only [Act.put, List.setIfInBounds_toArray, List.set_cons_zero, List.set_cons_succ]; simp only [List.set_cons_succ, List.set_cons_zero] at hM; have HMz := hid hM; have HGz := hid hg; clear hM hg))
  have hO := HO10.out.keptE HM.out (.head _) HGz.out rfl rfl
  exact bodyPost_ret (m_results1 HMz.out Tryz.results51 _ rfl (.head _) (scrL prA _ _ _) rfl Tryz.underlying38 rfl (by kernel_rfl)) rfl ⟨_, _, _, rfl, hO, HMz.out.below⟩
end Go.Proofs.YtpmfjombfcnhmaaGreatDoor

/- The law's own look (edits): what J makes of a printed screen. -/
namespace Go.Proofs.YtpmfjombfcnhmaaGreatDoor
open Go Go.RowKit Go.Proofs.YtpmfjombfcnhmaaGreatDoorW.PrintLast

theorem prA_small : prA.small := by
  have h := newScr_small (r := 1) (c := 2) (by decide) (by decide)
  obtain ⟨h1, h2, h3, h4, h5, h6⟩ := h
  refine ⟨by show prM.length ≤ _; rw [prM_is]; decide, h2, h3, h4, fun i hi => ?_, h6⟩
  show (at_ prM i).cb.size ≤ _
  have hi2 : i < prM.length := hi
  rw [prM_is] at hi2 ⊢
  match i, hi2 with
  | 0, _ => decide
  | 1, _ => decide
theorem edA_len : (edR prA 74 2).ms.length = 2 := by decide +kernel
theorem edA_rn : (at_ (edR prA 74 2).ms 0).rn = 32 := by decide +kernel
theorem edA_col : (edR prA 74 2).cur.col = 1 := by decide +kernel
theorem num11_any (x : Int) (w : World) : Calls Tryz.prog 53 #[.int .i64 x] w fun e w' => e = .returned (.int .i64 x) ∧ w = w' := by
  go_enter Tryz.func53, Tryz.ntmps53
  go_wp2
  go_ret
  exact ⟨rfl, rfl⟩
set_option maxRecDepth 100000 in
set_option maxHeartbeats 2000000 in
theorem wakes11_any (w : World) (hT : U8 w) : Calls Tryz.prog 26 #[] w fun e w' => e = .returned (.bool true) ∧ Below w.heap.size w w' := by
  have HT := hid hT
  have HX := hid (Mem.start w)
  clear hT
  go_enter Tryz.func26, Tryz.ntmps26
  go_wp2_with (go_at_call 52; fail)
  refine (newR_any (r := 1) (c := 2) (by decide) (by decide) w).mono ?_
  rintro e w1 ⟨m, o, t, rfl, hO, hB⟩
  have HR := hid (hO.rd (newScr_small (by decide) (by decide)))
  have HM := hid (HX.out.call hB)
  have HT1 := hid (HT.out.below hB)
  clear hO hB HX
  go_wp2_with (go_at_call 51; fail)
  refine (print_a HR.out).mono ?_
  rintro e w2 ⟨m', o', t', rfl, hO, hB⟩
  obtain ⟨A1, k1, rfl⟩ := hO.hm.slice
  obtain ⟨A2, k2, rfl⟩ := hO.ho.slice
  obtain ⟨A3, k3, rfl⟩ := ownB_slice hO.ht
  have HM2 := hid (HM.out.call hB)
  have HR2 := hid (hO.rd prA_small)
  have HT2 := hid (HT1.out.below hB)
  clear hO hB HM HR HT1 HT
  have HM := hid (Mem.start w2)
  go_upto_region 2 with (first | ((with_reducible refine wl_id ?_); refine m_alloc HM.out rfl rfl info_zS ?_; intro b1 wy hM; simp only [Act.put, List.setIfInBounds_toArray, List.set_cons_zero, List.set_cons_succ]; have HMy := hid (show Mem w2 wy [(b1, Row 38 zL)] from hM); clear hM) | ((with_reducible refine wl_id ?_); refine m_storeAG HMy.out rfl rfl rfl 0 rfl rfl rfl (by kernel_rfl) rfl ?_; intro wx hM hg; simp only [Act.put, List.setIfInBounds_toArray, List.set_cons_zero, List.set_cons_succ]; simp only [List.set_cons_zero] at hM; have HMx := hid hM; clear hM hg))
  clear HM HMy
  have HM := HMx
  clear HMx
  go_wp2_with (first | ((with_reducible refine wl_id ?_); refine m_loadS HM.out rfl rfl rfl (by first | exact .head _ | exact .tail _ (.head _) | exact .tail _ (.tail _ (.head _)) | exact .tail _ (.tail _ (.tail _ (.head _))) | exact .tail _ (.tail _ (.tail _ (.tail _ (.head _)))) | exact .tail _ (.tail _ (.tail _ (.tail _ (.tail _ (.head _))))) | exact .tail _ (.tail _ (.tail _ (.tail _ (.tail _ (.tail _ (.head _)))))) | exact .tail _ (.tail _ (.tail _ (.tail _ (.tail _ (.tail _ (.tail _ (.head _)))))))) (scrL prA _ _ _) rfl Tryz.underlying38 rfl (by kernel_rfl) ?_; simp only [Act.put, List.setIfInBounds_toArray, List.set_cons_zero, List.set_cons_succ]) | (go_at_call 20; fail))
  have hb := HM.out.below
  refine (edo_good (HR2.out.below hb) (HT2.out.below hb) scrB_prA rfl rfl).mono ?_
  rintro e w3 ⟨m4, o4, t4, rfl, hO, hB⟩
  clear hb
  obtain ⟨x, hx⟩ : ∃ x, edR prA 74 2 = x := ⟨_, rfl⟩
  have hlen := edA_len
  have hrn := edA_rn
  have hcol := edA_col
  rw [hx] at hO hlen hrn hcol
  simp only [hx]
  clear hx
  obtain ⟨A4, k4, rfl⟩ := hO.hm.slice
  obtain ⟨A5, k5, rfl⟩ := hO.ho.slice
  obtain ⟨A6, k6, rfl⟩ := ownB_slice hO.ht
  have HM3 := hid (HM.out.call hB)
  obtain ⟨A7, c7, e7, hc7, hrd⟩ := (hO.hm).rd.open_
  cases e7
  clear hO hB HM
  have HM := hid (Mem.start w3)
  rw [hlen] at hrd ⊢
  have HRD := hid hrd
  have HRN := hid hrn
  have HCOL := hid hcol
  clear hlen hrn hcol hrd hc7
  go_upto_region 3 with (first | ((with_reducible refine wl_id ?_); refine m_alloc HM.out rfl rfl info_zS ?_; intro bx wy hM; simp only [Act.put, List.setIfInBounds_toArray, List.set_cons_zero, List.set_cons_succ]; have HMy := hid hM; clear hM) | ((with_reducible refine wl_id ?_); refine m_storeAG HMy.out rfl rfl rfl 0 rfl rfl rfl (by kernel_rfl) rfl ?_; intro wz hM hg; simp only [Act.put, List.setIfInBounds_toArray, List.set_cons_zero, List.set_cons_succ]; simp only [List.set_cons_zero] at hM; have HMx := hid hM; clear hM hg))
  clear HM HMy
  have HM := HMx
  clear HMx
  obtain ⟨gb, go, eA, hc1, -⟩ := HRD.out _ HM.out.below 0 (by omega)
  subst eA
  rw [HRN.out] at hc1
  simp only [Nat.zero_mul, Nat.add_zero] at hc1
  have hc2 := HM.out.cell (.head _) (show (scrL x (Value.slice (some ⟨gb, go, none⟩) 2 k4) (Value.slice A5 x.os.length k5) (Value.slice A6 x.tabs.length k6))[2]? = some (Value.slice (some ⟨gb, go, none⟩) 2 k4) from rfl)
  have hc3 := HM.out.cell (.head _) (show (scrL x (Value.slice (some ⟨gb, go, none⟩) 2 k4) (Value.slice A5 x.os.length k5) (Value.slice A6 x.tabs.length k6))[8]? = some (.int .i64 1) from by show some (Value.int _ x.cur.col) = _; rw [HCOL.out])
  go_wp2_with (go_at_call 53; (with_reducible refine (num11_any _ _).mono ?_); rintro e w7 ⟨rfl, rfl⟩)
  go_ret
  exact ⟨rfl, ((HM2.out.call HM3.out.below).call HM.out.below).below⟩
end Go.Proofs.YtpmfjombfcnhmaaGreatDoor

/- The laws over edits: what each comes to, for every input that can be read (printed by genel.py). -/
namespace Go.Proofs.YtpmfjombfcnhmaaGreatDoor
open Go Go.RowKit

theorem m_slice {P : Program} {ops : Array Oper} {rest : List Oper} {op : Oper} {a : Act} {w0 w : World} {Q : Exit → Act → World → Prop} {F : List Ent} (hM : Mem w0 w F) (hgd : op.guard = none) {ty e : TypeId} {len : Nat} {parts : Array (Nat × Operand)} (ho : op.op = .buildSlice ty len parts) (ps : Array (Nat × Value)) (hp : (parts.map fun (i, x) => (i, a.eval x)) = ps)
    (l : List Value) (hr : ∀ w : World, (Instr.buildSlice ty len ps).run P w = .ok (.slice (some ⟨w.heap.size, 0, none⟩) len len) (w.alloc (.cells l.toArray e)))
    (h : ∀ b w', Mem w0 w' ((b, Row e l) :: F) → wpList P ops Q rest (a.put op.dst (.slice (some ⟨b, 0, none⟩) len len)) w') : wpList P ops Q (op :: rest) a w :=
  wpList_plain hgd fun K hK => by
    unfold Oper.wp execOp
    simp only [ho, hp, Sem.run_bind, Sem.run_pure, Result.andThen_ok, hr]
    exact hK _ _ (h _ _ (by simpa using hM.cells l.toArray e))
theorem rdI_mem {w0 w : World} {F : List Ent} {g n : Nat} {l : List Int} {t : TypeId} (hM : Mem w0 w F) (hF : (g, Row t (l.map (Value.int .i64))) ∈ F) (hn : l.length = n) : RdI w (.slice (some ⟨g, 0, none⟩) n n) l := by
  subst hn
  refine ⟨_, _, rfl, Nat.le_refl _, fun _ => ⟨_, _, rfl, fun i hi j hj => ?_⟩⟩
  obtain rfl : j = 0 := by omega
  exact hM.cell hF (by simp [hi])
theorem slice1k (a : Int) (w : World) : (Instr.buildSlice 27 1 #[(0, .int .i64 a)]).run Tryz.prog w = .ok (.slice (some ⟨w.heap.size, 0, none⟩) 1 1) (w.alloc (.cells (([a] : List Int).map (Value.int .i64)).toArray 3)) := by kernel_rfl
theorem slice2k (a b : Int) (w : World) : (Instr.buildSlice 27 2 #[(0, .int .i64 a), (1, .int .i64 b)]).run Tryz.prog w = .ok (.slice (some ⟨w.heap.size, 0, none⟩) 2 2) (w.alloc (.cells (([a, b] : List Int).map (Value.int .i64)).toArray 3)) := by kernel_rfl
theorem redK_88 : RedK 88 := fun _ _ _ _ _ _ hr hs hn => redit_88 hr hs hn
theorem redK_80 : RedK 80 := fun _ _ _ _ _ _ hr hs hn => redit_80 hr hs hn
theorem redK_64 : RedK 64 := fun _ _ _ _ _ _ hr hs hn => redit_64 hr hs hn
theorem redK_76 : RedK 76 := fun s _ _ _ _ _ hr hs hn => by
  by_cases h : s.top.toNat ≤ s.cur.row.toNat ∧ s.cur.row.toNat ≤ s.bot.toNat
  · exact redit_76in hr hs hn h
  · exact redit_76out hr hs hn h
theorem redK_77 : RedK 77 := fun s _ _ _ _ _ hr hs hn => by
  by_cases h : s.top.toNat ≤ s.cur.row.toNat ∧ s.cur.row.toNat ≤ s.bot.toNat
  · exact redit_77in hr hs hn h
  · exact redit_77out hr hs hn h
theorem redK_83 : RedK 83 := fun _ _ _ _ _ _ hr hs hn => redit_83 hr hs hn
theorem redK_84 : RedK 84 := fun _ _ _ _ _ _ hr hs hn => redit_84 hr hs hn
set_option maxRecDepth 100000 in
theorem walk_EditCells {L : List SV} {v : Value} {n m k r : Int} {w : World} (hv : RdSS w v L) (hL : L.length ≤ 1048576) (hT : U8 w) :
    Calls Tryz.prog 4 #[.agg (askL v n m k r).toArray] w fun e w' => e = .returned (.bool true) ∧ Below w.heap.size w w' := by
  have HMV : Hid (∀ (kv : Value) (W : World), Below w.heap.size w W → RdI W kv [80, 64] → Calls Tryz.prog 16 #[.agg (askL v n m k r).toArray, kv] W _) := hid fun kv W hW hk => edits_any (hv.below hW) hL hk (Nat.le_of_ble_eq_true rfl) (hT.below hW) (fun key h _ => by
    rcases List.mem_cons.1 h with rfl | h
    · exact redK_80
    · exact (List.mem_singleton.1 h) ▸ redK_64) (fun W2 hW2 => wakes11_any W2 ((hT.below hW).below hW2))
  obtain ⟨A, c, rfl, -, -⟩ := hv
  have HX := hid (Mem.start w)
  clear hT
  go_enter Tryz.func4, Tryz.ntmps4
  go_upto_region 0 with (fail)
  refine wp_region_lit ?_
  refine m_box HX.out rfl rfl rfl ?_
  intro b w1 hM
  simp only [Act.put, List.setIfInBounds_toArray, List.set_cons_zero, List.set_cons_succ]
  have HM := hid hM
  clear hM HX
  go_wp2_with (first | ((with_reducible refine wl_id ?_); refine m_loadS HM.out rfl rfl rfl (by first | exact .head _ | exact .tail _ (.head _) | exact .tail _ (.tail _ (.head _)) | exact .tail _ (.tail _ (.tail _ (.head _))) | exact .tail _ (.tail _ (.tail _ (.tail _ (.head _)))) | exact .tail _ (.tail _ (.tail _ (.tail _ (.tail _ (.head _))))) | exact .tail _ (.tail _ (.tail _ (.tail _ (.tail _ (.tail _ (.head _)))))) | exact .tail _ (.tail _ (.tail _ (.tail _ (.tail _ (.tail _ (.tail _ (.head _)))))))) (askL (.slice A L.length c) n m k r) rfl Tryz.underlying24 rfl (by kernel_rfl) ?_; simp only [Act.put, List.setIfInBounds_toArray, List.set_cons_zero, List.set_cons_succ]) | ((with_reducible refine wl_id ?_); refine m_slice (e := 3) HM.out rfl rfl #[(0, .int .i64 80), (1, .int .i64 64)] (by simp only [List.map_toArray, List.map_cons, List.map_nil]; rfl) _ (fun w' => slice2k _ _ w') ?_; intro g w2 hM; simp only [Act.put, List.setIfInBounds_toArray, List.set_cons_zero, List.set_cons_succ]; have HM2 := hid hM; clear hM) | (go_at_call 16; fail))
  refine (HMV.out _ _ HM2.out.below (rdI_mem HM2.out (.head _) rfl)).mono ?_
  rintro e w3 ⟨rfl, hB⟩
  have HM3 := hid (HM2.out.call hB)
  clear hB
  go_wp2
  go_ret
  exact ⟨rfl, HM3.out.below⟩
set_option maxRecDepth 100000 in
theorem walk_EditRows {L : List SV} {v : Value} {n m k r : Int} {w : World} (hv : RdSS w v L) (hL : L.length ≤ 1048576) (hT : U8 w) :
    Calls Tryz.prog 5 #[.agg (askL v n m k r).toArray] w fun e w' => e = .returned (.bool true) ∧ Below w.heap.size w w' := by
  have HMV : Hid (∀ (kv : Value) (W : World), Below w.heap.size w W → RdI W kv [76, 77] → Calls Tryz.prog 16 #[.agg (askL v n m k r).toArray, kv] W _) := hid fun kv W hW hk => edits_any (hv.below hW) hL hk (Nat.le_of_ble_eq_true rfl) (hT.below hW) (fun key h _ => by
    rcases List.mem_cons.1 h with rfl | h
    · exact redK_76
    · exact (List.mem_singleton.1 h) ▸ redK_77) (fun W2 hW2 => wakes11_any W2 ((hT.below hW).below hW2))
  obtain ⟨A, c, rfl, -, -⟩ := hv
  have HX := hid (Mem.start w)
  clear hT
  go_enter Tryz.func5, Tryz.ntmps5
  go_upto_region 0 with (fail)
  refine wp_region_lit ?_
  refine m_box HX.out rfl rfl rfl ?_
  intro b w1 hM
  simp only [Act.put, List.setIfInBounds_toArray, List.set_cons_zero, List.set_cons_succ]
  have HM := hid hM
  clear hM HX
  go_wp2_with (first | ((with_reducible refine wl_id ?_); refine m_loadS HM.out rfl rfl rfl (by first | exact .head _ | exact .tail _ (.head _) | exact .tail _ (.tail _ (.head _)) | exact .tail _ (.tail _ (.tail _ (.head _))) | exact .tail _ (.tail _ (.tail _ (.tail _ (.head _)))) | exact .tail _ (.tail _ (.tail _ (.tail _ (.tail _ (.head _))))) | exact .tail _ (.tail _ (.tail _ (.tail _ (.tail _ (.tail _ (.head _)))))) | exact .tail _ (.tail _ (.tail _ (.tail _ (.tail _ (.tail _ (.tail _ (.head _)))))))) (askL (.slice A L.length c) n m k r) rfl Tryz.underlying24 rfl (by kernel_rfl) ?_; simp only [Act.put, List.setIfInBounds_toArray, List.set_cons_zero, List.set_cons_succ]) | ((with_reducible refine wl_id ?_); refine m_slice (e := 3) HM.out rfl rfl #[(0, .int .i64 76), (1, .int .i64 77)] (by simp only [List.map_toArray, List.map_cons, List.map_nil]; rfl) _ (fun w' => slice2k _ _ w') ?_; intro g w2 hM; simp only [Act.put, List.setIfInBounds_toArray, List.set_cons_zero, List.set_cons_succ]; have HM2 := hid hM; clear hM) | (go_at_call 16; fail))
  refine (HMV.out _ _ HM2.out.below (rdI_mem HM2.out (.head _) rfl)).mono ?_
  rintro e w3 ⟨rfl, hB⟩
  have HM3 := hid (HM2.out.call hB)
  clear hB
  go_wp2
  go_ret
  exact ⟨rfl, HM3.out.below⟩
set_option maxRecDepth 100000 in
theorem walk_EditBigX {L : List SV} {v : Value} {n m k r : Int} {w : World} (hv : RdSS w v L) (hL : L.length ≤ 1048576) (hT : U8 w) :
    Calls Tryz.prog 9 #[.agg (askL v n m k r).toArray] w fun e w' => e = .returned (.bool true) ∧ Below w.heap.size w w' := by
  have HMV : Hid (∀ (kv : Value) (W : World), Below w.heap.size w W → RdI W kv [88] → Calls Tryz.prog 16 #[.agg (askL v n m k r).toArray, kv] W _) := hid fun kv W hW hk => edits_any (hv.below hW) hL hk (Nat.le_of_ble_eq_true rfl) (hT.below hW) (fun key h _ => (List.mem_singleton.1 h) ▸ redK_88) (fun W2 hW2 => wakes11_any W2 ((hT.below hW).below hW2))
  obtain ⟨A, c, rfl, -, -⟩ := hv
  have HX := hid (Mem.start w)
  clear hT
  go_enter Tryz.func9, Tryz.ntmps9
  go_upto_region 0 with (fail)
  refine wp_region_lit ?_
  refine m_box HX.out rfl rfl rfl ?_
  intro b w1 hM
  simp only [Act.put, List.setIfInBounds_toArray, List.set_cons_zero, List.set_cons_succ]
  have HM := hid hM
  clear hM HX
  go_wp2_with (first | ((with_reducible refine wl_id ?_); refine m_loadS HM.out rfl rfl rfl (by first | exact .head _ | exact .tail _ (.head _) | exact .tail _ (.tail _ (.head _)) | exact .tail _ (.tail _ (.tail _ (.head _))) | exact .tail _ (.tail _ (.tail _ (.tail _ (.head _)))) | exact .tail _ (.tail _ (.tail _ (.tail _ (.tail _ (.head _))))) | exact .tail _ (.tail _ (.tail _ (.tail _ (.tail _ (.tail _ (.head _)))))) | exact .tail _ (.tail _ (.tail _ (.tail _ (.tail _ (.tail _ (.tail _ (.head _)))))))) (askL (.slice A L.length c) n m k r) rfl Tryz.underlying24 rfl (by kernel_rfl) ?_; simp only [Act.put, List.setIfInBounds_toArray, List.set_cons_zero, List.set_cons_succ]) | ((with_reducible refine wl_id ?_); refine m_slice (e := 3) HM.out rfl rfl #[(0, .int .i64 88)] (by simp only [List.map_toArray, List.map_cons, List.map_nil]; rfl) _ (fun w' => slice1k _ w') ?_; intro g w2 hM; simp only [Act.put, List.setIfInBounds_toArray, List.set_cons_zero, List.set_cons_succ]; have HM2 := hid hM; clear hM) | (go_at_call 16; fail))
  refine (HMV.out _ _ HM2.out.below (rdI_mem HM2.out (.head _) rfl)).mono ?_
  rintro e w3 ⟨rfl, hB⟩
  have HM3 := hid (HM2.out.call hB)
  clear hB
  go_wp2
  go_ret
  exact ⟨rfl, HM3.out.below⟩
set_option maxRecDepth 100000 in
theorem walk_EditBigP {L : List SV} {v : Value} {n m k r : Int} {w : World} (hv : RdSS w v L) (hL : L.length ≤ 1048576) (hT : U8 w) :
    Calls Tryz.prog 10 #[.agg (askL v n m k r).toArray] w fun e w' => e = .returned (.bool true) ∧ Below w.heap.size w w' := by
  have HMV : Hid (∀ (kv : Value) (W : World), Below w.heap.size w W → RdI W kv [80] → Calls Tryz.prog 16 #[.agg (askL v n m k r).toArray, kv] W _) := hid fun kv W hW hk => edits_any (hv.below hW) hL hk (Nat.le_of_ble_eq_true rfl) (hT.below hW) (fun key h _ => (List.mem_singleton.1 h) ▸ redK_80) (fun W2 hW2 => wakes11_any W2 ((hT.below hW).below hW2))
  obtain ⟨A, c, rfl, -, -⟩ := hv
  have HX := hid (Mem.start w)
  clear hT
  go_enter Tryz.func10, Tryz.ntmps10
  go_upto_region 0 with (fail)
  refine wp_region_lit ?_
  refine m_box HX.out rfl rfl rfl ?_
  intro b w1 hM
  simp only [Act.put, List.setIfInBounds_toArray, List.set_cons_zero, List.set_cons_succ]
  have HM := hid hM
  clear hM HX
  go_wp2_with (first | ((with_reducible refine wl_id ?_); refine m_loadS HM.out rfl rfl rfl (by first | exact .head _ | exact .tail _ (.head _) | exact .tail _ (.tail _ (.head _)) | exact .tail _ (.tail _ (.tail _ (.head _))) | exact .tail _ (.tail _ (.tail _ (.tail _ (.head _)))) | exact .tail _ (.tail _ (.tail _ (.tail _ (.tail _ (.head _))))) | exact .tail _ (.tail _ (.tail _ (.tail _ (.tail _ (.tail _ (.head _)))))) | exact .tail _ (.tail _ (.tail _ (.tail _ (.tail _ (.tail _ (.tail _ (.head _)))))))) (askL (.slice A L.length c) n m k r) rfl Tryz.underlying24 rfl (by kernel_rfl) ?_; simp only [Act.put, List.setIfInBounds_toArray, List.set_cons_zero, List.set_cons_succ]) | ((with_reducible refine wl_id ?_); refine m_slice (e := 3) HM.out rfl rfl #[(0, .int .i64 80)] (by simp only [List.map_toArray, List.map_cons, List.map_nil]; rfl) _ (fun w' => slice1k _ w') ?_; intro g w2 hM; simp only [Act.put, List.setIfInBounds_toArray, List.set_cons_zero, List.set_cons_succ]; have HM2 := hid hM; clear hM) | (go_at_call 16; fail))
  refine (HMV.out _ _ HM2.out.below (rdI_mem HM2.out (.head _) rfl)).mono ?_
  rintro e w3 ⟨rfl, hB⟩
  have HM3 := hid (HM2.out.call hB)
  clear hB
  go_wp2
  go_ret
  exact ⟨rfl, HM3.out.below⟩
set_option maxRecDepth 100000 in
theorem walk_EditAt {L : List SV} {v : Value} {n m k r : Int} {w : World} (hv : RdSS w v L) (hL : L.length ≤ 1048576) (hT : U8 w) :
    Calls Tryz.prog 11 #[.agg (askL v n m k r).toArray] w fun e w' => e = .returned (.bool true) ∧ Below w.heap.size w w' := by
  have HMV : Hid (∀ (kv : Value) (W : World), Below w.heap.size w W → RdI W kv [64] → Calls Tryz.prog 16 #[.agg (askL v n m k r).toArray, kv] W _) := hid fun kv W hW hk => edits_any (hv.below hW) hL hk (Nat.le_of_ble_eq_true rfl) (hT.below hW) (fun key h _ => (List.mem_singleton.1 h) ▸ redK_64) (fun W2 hW2 => wakes11_any W2 ((hT.below hW).below hW2))
  obtain ⟨A, c, rfl, -, -⟩ := hv
  have HX := hid (Mem.start w)
  clear hT
  go_enter Tryz.func11, Tryz.ntmps11
  go_upto_region 0 with (fail)
  refine wp_region_lit ?_
  refine m_box HX.out rfl rfl rfl ?_
  intro b w1 hM
  simp only [Act.put, List.setIfInBounds_toArray, List.set_cons_zero, List.set_cons_succ]
  have HM := hid hM
  clear hM HX
  go_wp2_with (first | ((with_reducible refine wl_id ?_); refine m_loadS HM.out rfl rfl rfl (by first | exact .head _ | exact .tail _ (.head _) | exact .tail _ (.tail _ (.head _)) | exact .tail _ (.tail _ (.tail _ (.head _))) | exact .tail _ (.tail _ (.tail _ (.tail _ (.head _)))) | exact .tail _ (.tail _ (.tail _ (.tail _ (.tail _ (.head _))))) | exact .tail _ (.tail _ (.tail _ (.tail _ (.tail _ (.tail _ (.head _)))))) | exact .tail _ (.tail _ (.tail _ (.tail _ (.tail _ (.tail _ (.tail _ (.head _)))))))) (askL (.slice A L.length c) n m k r) rfl Tryz.underlying24 rfl (by kernel_rfl) ?_; simp only [Act.put, List.setIfInBounds_toArray, List.set_cons_zero, List.set_cons_succ]) | ((with_reducible refine wl_id ?_); refine m_slice (e := 3) HM.out rfl rfl #[(0, .int .i64 64)] (by simp only [List.map_toArray, List.map_cons, List.map_nil]; rfl) _ (fun w' => slice1k _ w') ?_; intro g w2 hM; simp only [Act.put, List.setIfInBounds_toArray, List.set_cons_zero, List.set_cons_succ]; have HM2 := hid hM; clear hM) | (go_at_call 16; fail))
  refine (HMV.out _ _ HM2.out.below (rdI_mem HM2.out (.head _) rfl)).mono ?_
  rintro e w3 ⟨rfl, hB⟩
  have HM3 := hid (HM2.out.call hB)
  clear hB
  go_wp2
  go_ret
  exact ⟨rfl, HM3.out.below⟩
set_option maxRecDepth 100000 in
theorem walk_EditBigL {L : List SV} {v : Value} {n m k r : Int} {w : World} (hv : RdSS w v L) (hL : L.length ≤ 1048576) (hT : U8 w) :
    Calls Tryz.prog 12 #[.agg (askL v n m k r).toArray] w fun e w' => e = .returned (.bool true) ∧ Below w.heap.size w w' := by
  have HMV : Hid (∀ (kv : Value) (W : World), Below w.heap.size w W → RdI W kv [76] → Calls Tryz.prog 16 #[.agg (askL v n m k r).toArray, kv] W _) := hid fun kv W hW hk => edits_any (hv.below hW) hL hk (Nat.le_of_ble_eq_true rfl) (hT.below hW) (fun key h _ => (List.mem_singleton.1 h) ▸ redK_76) (fun W2 hW2 => wakes11_any W2 ((hT.below hW).below hW2))
  obtain ⟨A, c, rfl, -, -⟩ := hv
  have HX := hid (Mem.start w)
  clear hT
  go_enter Tryz.func12, Tryz.ntmps12
  go_upto_region 0 with (fail)
  refine wp_region_lit ?_
  refine m_box HX.out rfl rfl rfl ?_
  intro b w1 hM
  simp only [Act.put, List.setIfInBounds_toArray, List.set_cons_zero, List.set_cons_succ]
  have HM := hid hM
  clear hM HX
  go_wp2_with (first | ((with_reducible refine wl_id ?_); refine m_loadS HM.out rfl rfl rfl (by first | exact .head _ | exact .tail _ (.head _) | exact .tail _ (.tail _ (.head _)) | exact .tail _ (.tail _ (.tail _ (.head _))) | exact .tail _ (.tail _ (.tail _ (.tail _ (.head _)))) | exact .tail _ (.tail _ (.tail _ (.tail _ (.tail _ (.head _))))) | exact .tail _ (.tail _ (.tail _ (.tail _ (.tail _ (.tail _ (.head _)))))) | exact .tail _ (.tail _ (.tail _ (.tail _ (.tail _ (.tail _ (.tail _ (.head _)))))))) (askL (.slice A L.length c) n m k r) rfl Tryz.underlying24 rfl (by kernel_rfl) ?_; simp only [Act.put, List.setIfInBounds_toArray, List.set_cons_zero, List.set_cons_succ]) | ((with_reducible refine wl_id ?_); refine m_slice (e := 3) HM.out rfl rfl #[(0, .int .i64 76)] (by simp only [List.map_toArray, List.map_cons, List.map_nil]; rfl) _ (fun w' => slice1k _ w') ?_; intro g w2 hM; simp only [Act.put, List.setIfInBounds_toArray, List.set_cons_zero, List.set_cons_succ]; have HM2 := hid hM; clear hM) | (go_at_call 16; fail))
  refine (HMV.out _ _ HM2.out.below (rdI_mem HM2.out (.head _) rfl)).mono ?_
  rintro e w3 ⟨rfl, hB⟩
  have HM3 := hid (HM2.out.call hB)
  clear hB
  go_wp2
  go_ret
  exact ⟨rfl, HM3.out.below⟩
set_option maxRecDepth 100000 in
theorem walk_EditBigM {L : List SV} {v : Value} {n m k r : Int} {w : World} (hv : RdSS w v L) (hL : L.length ≤ 1048576) (hT : U8 w) :
    Calls Tryz.prog 13 #[.agg (askL v n m k r).toArray] w fun e w' => e = .returned (.bool true) ∧ Below w.heap.size w w' := by
  have HMV : Hid (∀ (kv : Value) (W : World), Below w.heap.size w W → RdI W kv [77] → Calls Tryz.prog 16 #[.agg (askL v n m k r).toArray, kv] W _) := hid fun kv W hW hk => edits_any (hv.below hW) hL hk (Nat.le_of_ble_eq_true rfl) (hT.below hW) (fun key h _ => (List.mem_singleton.1 h) ▸ redK_77) (fun W2 hW2 => wakes11_any W2 ((hT.below hW).below hW2))
  obtain ⟨A, c, rfl, -, -⟩ := hv
  have HX := hid (Mem.start w)
  clear hT
  go_enter Tryz.func13, Tryz.ntmps13
  go_upto_region 0 with (fail)
  refine wp_region_lit ?_
  refine m_box HX.out rfl rfl rfl ?_
  intro b w1 hM
  simp only [Act.put, List.setIfInBounds_toArray, List.set_cons_zero, List.set_cons_succ]
  have HM := hid hM
  clear hM HX
  go_wp2_with (first | ((with_reducible refine wl_id ?_); refine m_loadS HM.out rfl rfl rfl (by first | exact .head _ | exact .tail _ (.head _) | exact .tail _ (.tail _ (.head _)) | exact .tail _ (.tail _ (.tail _ (.head _))) | exact .tail _ (.tail _ (.tail _ (.tail _ (.head _)))) | exact .tail _ (.tail _ (.tail _ (.tail _ (.tail _ (.head _))))) | exact .tail _ (.tail _ (.tail _ (.tail _ (.tail _ (.tail _ (.head _)))))) | exact .tail _ (.tail _ (.tail _ (.tail _ (.tail _ (.tail _ (.tail _ (.head _)))))))) (askL (.slice A L.length c) n m k r) rfl Tryz.underlying24 rfl (by kernel_rfl) ?_; simp only [Act.put, List.setIfInBounds_toArray, List.set_cons_zero, List.set_cons_succ]) | ((with_reducible refine wl_id ?_); refine m_slice (e := 3) HM.out rfl rfl #[(0, .int .i64 77)] (by simp only [List.map_toArray, List.map_cons, List.map_nil]; rfl) _ (fun w' => slice1k _ w') ?_; intro g w2 hM; simp only [Act.put, List.setIfInBounds_toArray, List.set_cons_zero, List.set_cons_succ]; have HM2 := hid hM; clear hM) | (go_at_call 16; fail))
  refine (HMV.out _ _ HM2.out.below (rdI_mem HM2.out (.head _) rfl)).mono ?_
  rintro e w3 ⟨rfl, hB⟩
  have HM3 := hid (HM2.out.call hB)
  clear hB
  go_wp2
  go_ret
  exact ⟨rfl, HM3.out.below⟩
set_option maxRecDepth 100000 in
theorem walk_EditBigS {L : List SV} {v : Value} {n m k r : Int} {w : World} (hv : RdSS w v L) (hL : L.length ≤ 1048576) (hT : U8 w) :
    Calls Tryz.prog 14 #[.agg (askL v n m k r).toArray] w fun e w' => e = .returned (.bool true) ∧ Below w.heap.size w w' := by
  have HMV : Hid (∀ (kv : Value) (W : World), Below w.heap.size w W → RdI W kv [83] → Calls Tryz.prog 16 #[.agg (askL v n m k r).toArray, kv] W _) := hid fun kv W hW hk => edits_any (hv.below hW) hL hk (Nat.le_of_ble_eq_true rfl) (hT.below hW) (fun key h _ => (List.mem_singleton.1 h) ▸ redK_83) (fun W2 hW2 => wakes11_any W2 ((hT.below hW).below hW2))
  obtain ⟨A, c, rfl, -, -⟩ := hv
  have HX := hid (Mem.start w)
  clear hT
  go_enter Tryz.func14, Tryz.ntmps14
  go_upto_region 0 with (fail)
  refine wp_region_lit ?_
  refine m_box HX.out rfl rfl rfl ?_
  intro b w1 hM
  simp only [Act.put, List.setIfInBounds_toArray, List.set_cons_zero, List.set_cons_succ]
  have HM := hid hM
  clear hM HX
  go_wp2_with (first | ((with_reducible refine wl_id ?_); refine m_loadS HM.out rfl rfl rfl (by first | exact .head _ | exact .tail _ (.head _) | exact .tail _ (.tail _ (.head _)) | exact .tail _ (.tail _ (.tail _ (.head _))) | exact .tail _ (.tail _ (.tail _ (.tail _ (.head _)))) | exact .tail _ (.tail _ (.tail _ (.tail _ (.tail _ (.head _))))) | exact .tail _ (.tail _ (.tail _ (.tail _ (.tail _ (.tail _ (.head _)))))) | exact .tail _ (.tail _ (.tail _ (.tail _ (.tail _ (.tail _ (.tail _ (.head _)))))))) (askL (.slice A L.length c) n m k r) rfl Tryz.underlying24 rfl (by kernel_rfl) ?_; simp only [Act.put, List.setIfInBounds_toArray, List.set_cons_zero, List.set_cons_succ]) | ((with_reducible refine wl_id ?_); refine m_slice (e := 3) HM.out rfl rfl #[(0, .int .i64 83)] (by simp only [List.map_toArray, List.map_cons, List.map_nil]; rfl) _ (fun w' => slice1k _ w') ?_; intro g w2 hM; simp only [Act.put, List.setIfInBounds_toArray, List.set_cons_zero, List.set_cons_succ]; have HM2 := hid hM; clear hM) | (go_at_call 16; fail))
  refine (HMV.out _ _ HM2.out.below (rdI_mem HM2.out (.head _) rfl)).mono ?_
  rintro e w3 ⟨rfl, hB⟩
  have HM3 := hid (HM2.out.call hB)
  clear hB
  go_wp2
  go_ret
  exact ⟨rfl, HM3.out.below⟩
set_option maxRecDepth 100000 in
theorem walk_EditBigT {L : List SV} {v : Value} {n m k r : Int} {w : World} (hv : RdSS w v L) (hL : L.length ≤ 1048576) (hT : U8 w) :
    Calls Tryz.prog 15 #[.agg (askL v n m k r).toArray] w fun e w' => e = .returned (.bool true) ∧ Below w.heap.size w w' := by
  have HMV : Hid (∀ (kv : Value) (W : World), Below w.heap.size w W → RdI W kv [84] → Calls Tryz.prog 16 #[.agg (askL v n m k r).toArray, kv] W _) := hid fun kv W hW hk => edits_any (hv.below hW) hL hk (Nat.le_of_ble_eq_true rfl) (hT.below hW) (fun key h _ => (List.mem_singleton.1 h) ▸ redK_84) (fun W2 hW2 => wakes11_any W2 ((hT.below hW).below hW2))
  obtain ⟨A, c, rfl, -, -⟩ := hv
  have HX := hid (Mem.start w)
  clear hT
  go_enter Tryz.func15, Tryz.ntmps15
  go_upto_region 0 with (fail)
  refine wp_region_lit ?_
  refine m_box HX.out rfl rfl rfl ?_
  intro b w1 hM
  simp only [Act.put, List.setIfInBounds_toArray, List.set_cons_zero, List.set_cons_succ]
  have HM := hid hM
  clear hM HX
  go_wp2_with (first | ((with_reducible refine wl_id ?_); refine m_loadS HM.out rfl rfl rfl (by first | exact .head _ | exact .tail _ (.head _) | exact .tail _ (.tail _ (.head _)) | exact .tail _ (.tail _ (.tail _ (.head _))) | exact .tail _ (.tail _ (.tail _ (.tail _ (.head _)))) | exact .tail _ (.tail _ (.tail _ (.tail _ (.tail _ (.head _))))) | exact .tail _ (.tail _ (.tail _ (.tail _ (.tail _ (.tail _ (.head _)))))) | exact .tail _ (.tail _ (.tail _ (.tail _ (.tail _ (.tail _ (.tail _ (.head _)))))))) (askL (.slice A L.length c) n m k r) rfl Tryz.underlying24 rfl (by kernel_rfl) ?_; simp only [Act.put, List.setIfInBounds_toArray, List.set_cons_zero, List.set_cons_succ]) | ((with_reducible refine wl_id ?_); refine m_slice (e := 3) HM.out rfl rfl #[(0, .int .i64 84)] (by simp only [List.map_toArray, List.map_cons, List.map_nil]; rfl) _ (fun w' => slice1k _ w') ?_; intro g w2 hM; simp only [Act.put, List.setIfInBounds_toArray, List.set_cons_zero, List.set_cons_succ]; have HM2 := hid hM; clear hM) | (go_at_call 16; fail))
  refine (HMV.out _ _ HM2.out.below (rdI_mem HM2.out (.head _) rfl)).mono ?_
  rintro e w3 ⟨rfl, hB⟩
  have HM3 := hid (HM2.out.call hB)
  clear hB
  go_wp2
  go_ret
  exact ⟨rfl, HM3.out.below⟩
end Go.Proofs.YtpmfjombfcnhmaaGreatDoor
