/- The law's statements: the reference's answer, the look. -/
import Derived.Test.YtbjckahaalbpaaaDoorReg2
set_option linter.unusedVariables false
set_option linter.unusedSimpArgs false
set_option linter.unnecessarySimpa false
namespace Go.Proofs.YtbjckahaalbpaaaDoor
open Go Go.RowKit Go.Proofs.YtbjckahaalbpaaaDoorW.PrintLast

set_option maxRecDepth 100000 in
set_option maxHeartbeats 4000000 in
/-- the reference's answer -/
theorem mreg19_is {mi oi ti m0 o0 t0 : Value} {n m k r key nj mv : Int} {s R : Scr} {lx : List Value} {w wr : World} {b g bin bx bw j kk kb ko kl kc sb so sl_ sc ii : Nat} {Q : Exit → Act → World → Prop}
    (hM : Mem w wr [(bw, Row 37 zL), (bx, Row 37 lx), (bin, Row 37 (scrL s mi oi ti)), (g, Row 3 (nsL n)), (b, Row 24 (askL (.slice (some ⟨sb, so, none⟩) sl_ sc) n m k r))]) (hkk : kk < kl) (hii : ii < sl_)
    (hkc : ∀ W, Below w.heap.size w W → W.cell? ⟨kb, ko + kk, none⟩ = some (.int .i64 key)) (hnj : (nsL n)[j]? = some (.int .i64 nj)) (hj : j < 6) (hel : ∀ W, Below w.heap.size w W → ∀ q u, (scrL s m0 o0 t0)[q]? = some u → W.cell? ⟨sb, so + ii * 43 + q, none⟩ = some u)
    (href : ∀ W, Below w.heap.size w W → Calls Tryd.prog 40 #[.agg (scrL s m0 o0 t0).toArray, .int .i64 key, .int .i64 nj, .int .i64 mv] W fun e w' => ∃ m' o' t', e = .returned (.agg (scrL R m' o' t').toArray) ∧ OwnScr w' W.heap.size R m' o' t' ∧ Below W.heap.size W w') (hR : R.small)
    (hP : ∀ c a (d : Tmp) v w, Q (.panic c) (Act.put a (some d) v) w → Q (.panic c) a w) (u0 u3 u4 u10 u11 u12 u13 u15 u16 u17 u18 u19 u20 u21 u22 u23 u24 u25 u26 u27 u28 u29 u30 u31 u32 u33 u34 u35 u36 u37 u38 u39 u40 u41 u42 u43 u44 u45 u46 u47 u48 u49 u50 u51 u52 u53 u54 u55 u56 u57 u58 u59 u60 u61 u62 u63 u64 u65 u66 u67 u68 u69 u70 u71 u72 u73 u74 u75 u76 u77 u78 u79 u80 u81 u82 u83 u84 u85 u86 u87 u88 u89 u90 u91 u92 u93 u94 u95 u96 u97 u98 u99 u100 u101 u102 u103 u104 u105 u106 u107 u108 u109 u110 u111 u112 u113 u114 u115 u116 u117 u118 u119 u120 u121 u122 u123 u124 u125 u126 u127 u128 u129 : Value)
    (hQ : ∀ w' A1 k1 A2 k2 A3 k3 (v102 v103 v104 v105 v106 v107 v108 v109 v110 v111 v112 v113 v114 v115 v116 : Value), Mem w w' [(bw, Row 37 (scrL R (.slice A1 R.ms.length k1) (.slice A2 R.os.length k2) (.slice A3 R.tabs.length k3))), (bx, Row 37 lx), (bin, Row 37 (scrL s mi oi ti)), (g, Row 3 (nsL n)), (b, Row 24 (askL (.slice (some ⟨sb, so, none⟩) sl_ sc) n m k r))] → RdScr w' R (.slice A1 R.ms.length k1) (.slice A2 R.os.length k2) (.slice A3 R.tabs.length k3) → wr.grownBy w' (some bw) →
      Q .normal ⟨#[u0, .slice (some ⟨kb, ko, none⟩) kl kc, .pointer (some ⟨b, 0, none⟩), u3, u4, .int .i64 ii, .int .i64 kk, .slice (some ⟨g, 0, none⟩) 6 6, .int .i64 j, .int .i64 mv, u10, u11, u12, u13, .pointer (some ⟨bw, 0, none⟩), u15, u16, u17, u18, u19, u20, u21, u22, u23, u24, u25, u26, u27, u28, u29, u30, u31, u32, u33, u34, u35, u36, u37, u38, u39, u40, u41, u42, u43, u44, u45, u46, u47, u48, u49, u50, u51, u52, u53, u54, u55, u56, u57, u58, u59, u60, u61, u62, u63, u64, u65, u66, u67, u68, u69, u70, u71, u72, u73, u74, u75, u76, u77, u78, u79, u80, u81, u82, u83, u84, u85, u86, u87, u88, u89, u90, u91, u92, u93, u94, u95, u96, u97, u98, u99, u100, u101, v102, v103, v104, v105, v106, v107, v108, v109, v110, v111, v112, v113, v114, v115, v116, u117, u118, u119, u120, u121, u122, u123, u124, u125, u126, u127, u128, u129], []⟩ w') :
    Code.wp Tryd.prog (mreg 19) Q ⟨#[u0, .slice (some ⟨kb, ko, none⟩) kl kc, .pointer (some ⟨b, 0, none⟩), u3, u4, .int .i64 ii, .int .i64 kk, .slice (some ⟨g, 0, none⟩) 6 6, .int .i64 j, .int .i64 mv, u10, u11, u12, u13, .pointer (some ⟨bw, 0, none⟩), u15, u16, u17, u18, u19, u20, u21, u22, u23, u24, u25, u26, u27, u28, u29, u30, u31, u32, u33, u34, u35, u36, u37, u38, u39, u40, u41, u42, u43, u44, u45, u46, u47, u48, u49, u50, u51, u52, u53, u54, u55, u56, u57, u58, u59, u60, u61, u62, u63, u64, u65, u66, u67, u68, u69, u70, u71, u72, u73, u74, u75, u76, u77, u78, u79, u80, u81, u82, u83, u84, u85, u86, u87, u88, u89, u90, u91, u92, u93, u94, u95, u96, u97, u98, u99, u100, u101, u102, u103, u104, u105, u106, u107, u108, u109, u110, u111, u112, u113, u114, u115, u116, u117, u118, u119, u120, u121, u122, u123, u124, u125, u126, u127, u128, u129], []⟩ wr := by
  have HM := hid hM
  have HKC := hid hkc
  have HEL := hid hel
  have HJ := hid hnj
  have hkk2 : (kk : Int) < (kl : Int) := by omega
  have hii2 : (ii : Int) < (sl_ : Int) := by omega
  have hj2 : (j : Int) < 6 := by omega
  have HRF := hid href
  clear hM hkc hel hnj href
  conv => arg 2; whnf
  conv => arg 4; zeta
  refine start_ (n := 16) (S := fun W => Mem w W [(bw, Row 37 zL), (bx, Row 37 lx), (bin, Row 37 (scrL s mi oi ti)), (g, Row 3 (nsL n)), (b, Row 24 (askL (.slice (some ⟨sb, so, none⟩) sl_ sc) n m k r))]) (ds := [15]) #[false, false, false, false, false, false, false, false, false, false, false, false, false, false, false, false] (by kernel_rfl) rfl rfl HM.out.drew (fun hS => ?_)
  refine take_ (i := 0) (N := some 102) (a' := ?_) (v := .pointer (some ⟨b, 0, none⟩)) #[true, false, false, false, false, false, false, false, false, false, false, false, false, false, false, false] rfl rfl (by kernel_rfl) (by first | exact fun _ _ _ h => h | exact fun _ _ _ h => hP _ _ _ _ _ h) (Or.inl ⟨by rfl, fun w' _ => by go_simp⟩) hS ?_ ?_
  rotate_left
  · simp only [Act.put, List.setIfInBounds_toArray, List.set_cons_zero, List.set_cons_succ]
    rfl
  refine take_ (i := 1) (N := some 103) (a' := ?_) (v := .slice (some ⟨sb, so, none⟩) sl_ sc) #[true, true, false, false, false, false, false, false, false, false, false, false, false, false, false, false] rfl rfl (by kernel_rfl) (by first | exact fun _ _ _ h => h | exact fun _ _ _ h => hP _ _ _ _ _ h) (y_load rfl rfl rfl (by first | exact .head _ | exact .tail _ (.head _) | exact .tail _ (.tail _ (.head _)) | exact .tail _ (.tail _ (.tail _ (.head _))) | exact .tail _ (.tail _ (.tail _ (.tail _ (.head _)))) | exact .tail _ (.tail _ (.tail _ (.tail _ (.tail _ (.head _))))) | exact .tail _ (.tail _ (.tail _ (.tail _ (.tail _ (.tail _ (.head _)))))) | exact .tail _ (.tail _ (.tail _ (.tail _ (.tail _ (.tail _ (.tail _ (.head _)))))))) rfl Tryd.underlying22 rfl) hS ?_ ?_
  rotate_left
  · simp only [Act.put, List.setIfInBounds_toArray, List.set_cons_zero, List.set_cons_succ]
    rfl
  refine take_ (i := 2) (N := some 104) (a' := ?_) (v := .int .i64 ii) #[true, true, true, false, false, false, false, false, false, false, false, false, false, false, false, false] rfl rfl (by kernel_rfl) (by first | exact fun _ _ _ h => h | exact fun _ _ _ h => hP _ _ _ _ _ h) (Or.inl ⟨by rfl, fun w' _ => by go_simp⟩) hS ?_ ?_
  rotate_left
  · simp only [Act.put, List.setIfInBounds_toArray, List.set_cons_zero, List.set_cons_succ]
    rfl
  refine take_ (i := 3) (N := some 105) (a' := ?_) (v := .pointer (some ⟨sb, so + ii * 43, none⟩)) #[true, true, true, true, false, false, false, false, false, false, false, false, false, false, false, false] rfl rfl (by kernel_rfl) (by first | exact fun _ _ _ h => h | exact fun _ _ _ h => hP _ _ _ _ _ h) (Or.inl ⟨by rfl, fun w' _ => by go_simp⟩) hS ?_ ?_
  rotate_left
  · simp only [Act.put, List.setIfInBounds_toArray, List.set_cons_zero, List.set_cons_succ]
    rfl
  refine take_ (i := 4) (N := some 106) (a' := ?_) (v := .agg (scrL s m0 o0 t0).toArray) #[true, true, true, true, true, false, false, false, false, false, false, false, false, false, false, false] rfl rfl (by kernel_rfl) (by first | exact fun _ _ _ h => h | exact fun _ _ _ h => hP _ _ _ _ _ h) (y_any rfl rfl rfl (fun W hW => load_sl (HEL.out W hW.below))) hS ?_ ?_
  rotate_left
  · simp only [Act.put, List.setIfInBounds_toArray, List.set_cons_zero, List.set_cons_succ]
    rfl
  refine take_ (i := 5) (N := some 107) (a' := ?_) (v := .slice (some ⟨kb, ko, none⟩) kl kc) #[true, true, true, true, true, true, false, false, false, false, false, false, false, false, false, false] rfl rfl (by kernel_rfl) (by first | exact fun _ _ _ h => h | exact fun _ _ _ h => hP _ _ _ _ _ h) (Or.inl ⟨by rfl, fun w' _ => by go_simp⟩) hS ?_ ?_
  rotate_left
  · simp only [Act.put, List.setIfInBounds_toArray, List.set_cons_zero, List.set_cons_succ]
    rfl
  refine take_ (i := 6) (N := some 108) (a' := ?_) (v := .int .i64 kk) #[true, true, true, true, true, true, true, false, false, false, false, false, false, false, false, false] rfl rfl (by kernel_rfl) (by first | exact fun _ _ _ h => h | exact fun _ _ _ h => hP _ _ _ _ _ h) (Or.inl ⟨by rfl, fun w' _ => by go_simp⟩) hS ?_ ?_
  rotate_left
  · simp only [Act.put, List.setIfInBounds_toArray, List.set_cons_zero, List.set_cons_succ]
    rfl
  refine take_ (i := 7) (N := some 109) (a' := ?_) (v := .pointer (some ⟨kb, ko + kk, none⟩)) #[true, true, true, true, true, true, true, true, false, false, false, false, false, false, false, false] rfl rfl (by kernel_rfl) (by first | exact fun _ _ _ h => h | exact fun _ _ _ h => hP _ _ _ _ _ h) (Or.inl ⟨by rfl, fun w' _ => by go_simp⟩) hS ?_ ?_
  rotate_left
  · simp only [Act.put, List.setIfInBounds_toArray, List.set_cons_zero, List.set_cons_succ]
    rfl
  refine take_ (i := 8) (N := some 110) (a' := ?_) (v := .int .i64 key) #[true, true, true, true, true, true, true, true, true, false, false, false, false, false, false, false] rfl rfl (by kernel_rfl) (by first | exact fun _ _ _ h => h | exact fun _ _ _ h => hP _ _ _ _ _ h) (y_any rfl rfl rfl (fun W hW => load_one Tryd.underlying3 rfl (HKC.out W hW.below))) hS ?_ ?_
  rotate_left
  · simp only [Act.put, List.setIfInBounds_toArray, List.set_cons_zero, List.set_cons_succ]
    rfl
  refine take_ (i := 9) (N := some 111) (a' := ?_) (v := .slice (some ⟨g, 0, none⟩) 6 6) #[true, true, true, true, true, true, true, true, true, true, false, false, false, false, false, false] rfl rfl (by kernel_rfl) (by first | exact fun _ _ _ h => h | exact fun _ _ _ h => hP _ _ _ _ _ h) (Or.inl ⟨by rfl, fun w' _ => by go_simp⟩) hS ?_ ?_
  rotate_left
  · simp only [Act.put, List.setIfInBounds_toArray, List.set_cons_zero, List.set_cons_succ]
    rfl
  refine take_ (i := 10) (N := some 112) (a' := ?_) (v := .int .i64 j) #[true, true, true, true, true, true, true, true, true, true, true, false, false, false, false, false] rfl rfl (by kernel_rfl) (by first | exact fun _ _ _ h => h | exact fun _ _ _ h => hP _ _ _ _ _ h) (Or.inl ⟨by rfl, fun w' _ => by go_simp⟩) hS ?_ ?_
  rotate_left
  · simp only [Act.put, List.setIfInBounds_toArray, List.set_cons_zero, List.set_cons_succ]
    rfl
  refine take_ (i := 11) (N := some 113) (a' := ?_) (v := .pointer (some ⟨g, j, none⟩)) #[true, true, true, true, true, true, true, true, true, true, true, true, false, false, false, false] rfl rfl (by kernel_rfl) (by first | exact fun _ _ _ h => h | exact fun _ _ _ h => hP _ _ _ _ _ h) (Or.inl ⟨by rfl, fun w' _ => by go_simp⟩) hS ?_ ?_
  rotate_left
  · simp only [Act.put, List.setIfInBounds_toArray, List.set_cons_zero, List.set_cons_succ]
    rfl
  refine take_ (i := 12) (N := some 114) (a' := ?_) (v := .int .i64 nj) #[true, true, true, true, true, true, true, true, true, true, true, true, true, false, false, false] rfl rfl (by kernel_rfl) (by first | exact fun _ _ _ h => h | exact fun _ _ _ h => hP _ _ _ _ _ h) (y_load rfl rfl rfl (by first | exact .head _ | exact .tail _ (.head _) | exact .tail _ (.tail _ (.head _)) | exact .tail _ (.tail _ (.tail _ (.head _))) | exact .tail _ (.tail _ (.tail _ (.tail _ (.head _)))) | exact .tail _ (.tail _ (.tail _ (.tail _ (.tail _ (.head _))))) | exact .tail _ (.tail _ (.tail _ (.tail _ (.tail _ (.tail _ (.head _)))))) | exact .tail _ (.tail _ (.tail _ (.tail _ (.tail _ (.tail _ (.tail _ (.head _)))))))) HJ.out (by first | exact Tryd.underlying3 | exact Tryd.underlying4 | exact Tryd.underlying9 | exact Tryd.underlying28 | exact Tryd.underlying35) rfl) hS ?_ ?_
  rotate_left
  · simp only [Act.put, List.setIfInBounds_toArray, List.set_cons_zero, List.set_cons_succ]
    rfl
  refine take_ (i := 13) (N := some 115) (a' := ?_) (v := .int .i64 mv) #[true, true, true, true, true, true, true, true, true, true, true, true, true, true, false, false] rfl rfl (by kernel_rfl) (by first | exact fun _ _ _ h => h | exact fun _ _ _ h => hP _ _ _ _ _ h) (Or.inl ⟨by rfl, fun w' _ => by go_simp⟩) hS ?_ ?_
  rotate_left
  · simp only [Act.put, List.setIfInBounds_toArray, List.set_cons_zero, List.set_cons_succ]
    rfl
  refine one_ (i := 14) (N := some 116) #[true, true, true, true, true, true, true, true, true, true, true, true, true, true, true, false] rfl rfl (by kernel_rfl) (by decide) (fun K hK => ?_)
  refine goes_ Tryd.func40 (by kernel_rfl) rfl #[.agg (scrL s m0 o0 t0).toArray, .int .i64 key, .int .i64 nj, .int .i64 mv] (by rfl) rfl rfl (by simp only [List.map_toArray, List.map_cons, List.map_nil]; rfl) ?_
  refine (HRF.out _ hS.below).mono ?_
  rintro e w4 ⟨m', o', t', rfl, hO, hB⟩
  obtain ⟨A1, k1, rfl⟩ := hO.hm.slice
  obtain ⟨A2, k2, rfl⟩ := hO.ho.slice
  obtain ⟨A3, k3, rfl⟩ := ownB_slice hO.ht
  have hlt : bw < wr.heap.size := HM.out.lt (.head _)
  refine ⟨_, rfl, hK.out _ _ (hS.call hB) (fun hS2 => ?_)⟩
  clear hK K hS
  refine norm_ (a' := ?_) ?_ ?_
  rotate_left
  · simp only [Act.put, List.setIfInBounds_toArray, List.set_cons_zero, List.set_cons_succ]
    rfl
  refine last_ (i := 15) (N := none) #[true, true, true, true, true, true, true, true, true, true, true, true, true, true, true, true] rfl rfl (by kernel_rfl) (by decide) (fun K hK => ?_)
  refine y_storeA hS2 rfl rfl rfl rfl 0 rfl rfl rfl (by kernel_rfl) rfl (fun w6 hM6 hg => hK.out _ _ ?_)
  clear hK K
  refine done_ (by kernel_rfl) ?_
  have hlt2 : bw < wr.drew.heap.size := hlt
  have hO6 : RdScr w6 R (.slice A1 R.ms.length k1) (.slice A2 R.os.length k2) (.slice A3 R.tabs.length k3) := ⟨OwnC.rd (base := wr.drew.heap.size) (own_grown hO.hm hg hlt2), OwnC.rd (base := wr.drew.heap.size) (own_grown hO.ho hg hlt2), OwnB.rd (base := wr.drew.heap.size) (own_grown hO.ht hg hlt2), hR⟩
  exact hQ w6 _ _ _ _ _ _ _ _ _ _ _ _ _ _ _ _ _ _ _ _ _ hM6 hO6 (grown_trans (grown_of_below ((Below.refl _ _).drew.trans hB) _) hg)

set_option maxRecDepth 100000 in
set_option maxHeartbeats 4000000 in
/-- the look -/
theorem mreg20_is {m0 o0 t0 : Value} {n m k r ec : Int} {s : Scr} {may : Bool} {lx li lw : List Value} {w wr wB : World} {b g bin bx bw sb so sl_ sc ii : Nat} {Q : Exit → Act → World → Prop}
    (hM : Mem w wr [(bw, Row 37 lw), (bx, Row 37 lx), (bin, Row 37 li), (g, Row 3 (nsL n)), (b, Row 24 (askL (.slice (some ⟨sb, so, none⟩) sl_ sc) n m k r))]) (hii : ii < sl_)
    (h43w : lw.length = 43) (h43x : lx.length = 43) (h43i : li.length = 43)
    (hel : ∀ W, Below w.heap.size w W → ∀ q u, (scrL s m0 o0 t0)[q]? = some u → W.cell? ⟨sb, so + ii * 43 + q, none⟩ = some u)
    (hMB : Mem w wB [(g, Row 3 (nsL n)), (b, Row 24 (askL (.slice (some ⟨sb, so, none⟩) sl_ sc) n m k r))])
    (hsame : Calls Tryd.prog 37 #[.agg lx.toArray, .int .i64 ec, .bool may, .agg lw.toArray, .agg li.toArray, .agg (scrL s m0 o0 t0).toArray] wr.drew fun e w' => e = .returned (.bool true) ∧ Below wB.heap.size wB w')
    (hP : ∀ c a (d : Tmp) v w, Q (.panic c) (Act.put a (some d) v) w → Q (.panic c) a w) (u0 u1 u3 u4 u6 u7 u8 u9 u15 u16 u17 u18 u19 u20 u21 u22 u23 u24 u25 u26 u27 u28 u29 u30 u31 u32 u33 u34 u35 u36 u37 u38 u39 u40 u41 u42 u43 u44 u45 u46 u47 u48 u49 u50 u51 u52 u53 u54 u55 u56 u57 u58 u59 u60 u61 u62 u63 u64 u65 u66 u67 u68 u69 u70 u71 u72 u73 u74 u75 u76 u77 u78 u79 u80 u81 u82 u83 u84 u85 u86 u87 u88 u89 u90 u91 u92 u93 u94 u95 u96 u97 u98 u99 u100 u101 u102 u103 u104 u105 u106 u107 u108 u109 u110 u111 u112 u113 u114 u115 u116 u117 u118 u119 u120 u121 u122 u123 u124 u125 u126 u127 u128 u129 : Value)
    (hQ : ∀ w' (v117 v118 v119 v120 v121 v122 v123 v124 v125 v126 v127 : Value), Mem w w' [(g, Row 3 (nsL n)), (b, Row 24 (askL (.slice (some ⟨sb, so, none⟩) sl_ sc) n m k r))] →
      Q .normal ⟨#[u0, u1, .pointer (some ⟨b, 0, none⟩), u3, u4, .int .i64 ii, u6, u7, u8, u9, .pointer (some ⟨bin, 0, none⟩), .pointer (some ⟨bx, 0, none⟩), .int .i64 ec, .bool may, .pointer (some ⟨bw, 0, none⟩), u15, u16, u17, u18, u19, u20, u21, u22, u23, u24, u25, u26, u27, u28, u29, u30, u31, u32, u33, u34, u35, u36, u37, u38, u39, u40, u41, u42, u43, u44, u45, u46, u47, u48, u49, u50, u51, u52, u53, u54, u55, u56, u57, u58, u59, u60, u61, u62, u63, u64, u65, u66, u67, u68, u69, u70, u71, u72, u73, u74, u75, u76, u77, u78, u79, u80, u81, u82, u83, u84, u85, u86, u87, u88, u89, u90, u91, u92, u93, u94, u95, u96, u97, u98, u99, u100, u101, u102, u103, u104, u105, u106, u107, u108, u109, u110, u111, u112, u113, u114, u115, u116, v117, v118, v119, v120, v121, v122, v123, v124, v125, v126, v127, .bool false, u129], []⟩ w') :
    Code.wp Tryd.prog (mreg 20) Q ⟨#[u0, u1, .pointer (some ⟨b, 0, none⟩), u3, u4, .int .i64 ii, u6, u7, u8, u9, .pointer (some ⟨bin, 0, none⟩), .pointer (some ⟨bx, 0, none⟩), .int .i64 ec, .bool may, .pointer (some ⟨bw, 0, none⟩), u15, u16, u17, u18, u19, u20, u21, u22, u23, u24, u25, u26, u27, u28, u29, u30, u31, u32, u33, u34, u35, u36, u37, u38, u39, u40, u41, u42, u43, u44, u45, u46, u47, u48, u49, u50, u51, u52, u53, u54, u55, u56, u57, u58, u59, u60, u61, u62, u63, u64, u65, u66, u67, u68, u69, u70, u71, u72, u73, u74, u75, u76, u77, u78, u79, u80, u81, u82, u83, u84, u85, u86, u87, u88, u89, u90, u91, u92, u93, u94, u95, u96, u97, u98, u99, u100, u101, u102, u103, u104, u105, u106, u107, u108, u109, u110, u111, u112, u113, u114, u115, u116, u117, u118, u119, u120, u121, u122, u123, u124, u125, u126, u127, u128, u129], []⟩ wr := by
  have HM := hid hM
  have HEL := hid hel
  have HSA := hid hsame
  have hii2 : (ii : Int) < (sl_ : Int) := by omega
  have HW := hid (show (lw.drop 0).take lw.length = lw by simp)
  have HXX := hid (show (lx.drop 0).take lx.length = lx by simp)
  have HI := hid (show (li.drop 0).take li.length = li by simp)
  have H4 := hid (show (Tryd.prog.info? 37).map (·.size) = some lw.length by rw [h43w]; kernel_rfl)
  have H5 := hid (show (Tryd.prog.info? 37).map (·.size) = some lx.length by rw [h43x]; kernel_rfl)
  have H6 := hid (show (Tryd.prog.info? 37).map (·.size) = some li.length by rw [h43i]; kernel_rfl)
  clear hM hel hsame h43w h43x h43i
  conv => arg 2; whnf
  conv => arg 4; zeta
  refine start_ (n := 12) (S := fun W => Mem w W [(bw, Row 37 lw), (bx, Row 37 lx), (bin, Row 37 li), (g, Row 3 (nsL n)), (b, Row 24 (askL (.slice (some ⟨sb, so, none⟩) sl_ sc) n m k r))]) (ds := [10]) #[false, false, false, false, false, false, false, false, false, false, false, false] (by kernel_rfl) rfl rfl HM.out.drew (fun hS => ?_)
  refine take_ (i := 0) (N := some 117) (a' := ?_) (v := .agg lx.toArray) #[true, false, false, false, false, false, false, false, false, false, false, false] rfl rfl (by kernel_rfl) (by first | exact fun _ _ _ h => h | exact fun _ _ _ h => hP _ _ _ _ _ h) (y_loadS rfl rfl rfl (by first | exact .head _ | exact .tail _ (.head _) | exact .tail _ (.tail _ (.head _)) | exact .tail _ (.tail _ (.tail _ (.head _))) | exact .tail _ (.tail _ (.tail _ (.tail _ (.head _)))) | exact .tail _ (.tail _ (.tail _ (.tail _ (.tail _ (.head _))))) | exact .tail _ (.tail _ (.tail _ (.tail _ (.tail _ (.tail _ (.head _)))))) | exact .tail _ (.tail _ (.tail _ (.tail _ (.tail _ (.tail _ (.tail _ (.head _)))))))) HXX.out Tryd.underlying37 rfl H5.out) hS ?_ ?_
  rotate_left
  · simp only [Act.put, List.setIfInBounds_toArray, List.set_cons_zero, List.set_cons_succ]
    rfl
  refine take_ (i := 1) (N := some 118) (a' := ?_) (v := .int .i64 ec) #[true, true, false, false, false, false, false, false, false, false, false, false] rfl rfl (by kernel_rfl) (by first | exact fun _ _ _ h => h | exact fun _ _ _ h => hP _ _ _ _ _ h) (Or.inl ⟨by rfl, fun w' _ => by go_simp⟩) hS ?_ ?_
  rotate_left
  · simp only [Act.put, List.setIfInBounds_toArray, List.set_cons_zero, List.set_cons_succ]
    rfl
  refine take_ (i := 2) (N := some 119) (a' := ?_) (v := .bool may) #[true, true, true, false, false, false, false, false, false, false, false, false] rfl rfl (by kernel_rfl) (by first | exact fun _ _ _ h => h | exact fun _ _ _ h => hP _ _ _ _ _ h) (Or.inl ⟨by rfl, fun w' _ => by go_simp⟩) hS ?_ ?_
  rotate_left
  · simp only [Act.put, List.setIfInBounds_toArray, List.set_cons_zero, List.set_cons_succ]
    rfl
  refine take_ (i := 3) (N := some 120) (a' := ?_) (v := .agg lw.toArray) #[true, true, true, true, false, false, false, false, false, false, false, false] rfl rfl (by kernel_rfl) (by first | exact fun _ _ _ h => h | exact fun _ _ _ h => hP _ _ _ _ _ h) (y_loadS rfl rfl rfl (by first | exact .head _ | exact .tail _ (.head _) | exact .tail _ (.tail _ (.head _)) | exact .tail _ (.tail _ (.tail _ (.head _))) | exact .tail _ (.tail _ (.tail _ (.tail _ (.head _)))) | exact .tail _ (.tail _ (.tail _ (.tail _ (.tail _ (.head _))))) | exact .tail _ (.tail _ (.tail _ (.tail _ (.tail _ (.tail _ (.head _)))))) | exact .tail _ (.tail _ (.tail _ (.tail _ (.tail _ (.tail _ (.tail _ (.head _)))))))) HW.out Tryd.underlying37 rfl H4.out) hS ?_ ?_
  rotate_left
  · simp only [Act.put, List.setIfInBounds_toArray, List.set_cons_zero, List.set_cons_succ]
    rfl
  refine take_ (i := 4) (N := some 121) (a' := ?_) (v := .agg li.toArray) #[true, true, true, true, true, false, false, false, false, false, false, false] rfl rfl (by kernel_rfl) (by first | exact fun _ _ _ h => h | exact fun _ _ _ h => hP _ _ _ _ _ h) (y_loadS rfl rfl rfl (by first | exact .head _ | exact .tail _ (.head _) | exact .tail _ (.tail _ (.head _)) | exact .tail _ (.tail _ (.tail _ (.head _))) | exact .tail _ (.tail _ (.tail _ (.tail _ (.head _)))) | exact .tail _ (.tail _ (.tail _ (.tail _ (.tail _ (.head _))))) | exact .tail _ (.tail _ (.tail _ (.tail _ (.tail _ (.tail _ (.head _)))))) | exact .tail _ (.tail _ (.tail _ (.tail _ (.tail _ (.tail _ (.tail _ (.head _)))))))) HI.out Tryd.underlying37 rfl H6.out) hS ?_ ?_
  rotate_left
  · simp only [Act.put, List.setIfInBounds_toArray, List.set_cons_zero, List.set_cons_succ]
    rfl
  refine take_ (i := 5) (N := some 122) (a' := ?_) (v := .pointer (some ⟨b, 0, none⟩)) #[true, true, true, true, true, true, false, false, false, false, false, false] rfl rfl (by kernel_rfl) (by first | exact fun _ _ _ h => h | exact fun _ _ _ h => hP _ _ _ _ _ h) (Or.inl ⟨by rfl, fun w' _ => by go_simp⟩) hS ?_ ?_
  rotate_left
  · simp only [Act.put, List.setIfInBounds_toArray, List.set_cons_zero, List.set_cons_succ]
    rfl
  refine take_ (i := 6) (N := some 123) (a' := ?_) (v := .slice (some ⟨sb, so, none⟩) sl_ sc) #[true, true, true, true, true, true, true, false, false, false, false, false] rfl rfl (by kernel_rfl) (by first | exact fun _ _ _ h => h | exact fun _ _ _ h => hP _ _ _ _ _ h) (y_load rfl rfl rfl (by first | exact .head _ | exact .tail _ (.head _) | exact .tail _ (.tail _ (.head _)) | exact .tail _ (.tail _ (.tail _ (.head _))) | exact .tail _ (.tail _ (.tail _ (.tail _ (.head _)))) | exact .tail _ (.tail _ (.tail _ (.tail _ (.tail _ (.head _))))) | exact .tail _ (.tail _ (.tail _ (.tail _ (.tail _ (.tail _ (.head _)))))) | exact .tail _ (.tail _ (.tail _ (.tail _ (.tail _ (.tail _ (.tail _ (.head _)))))))) rfl Tryd.underlying22 rfl) hS ?_ ?_
  rotate_left
  · simp only [Act.put, List.setIfInBounds_toArray, List.set_cons_zero, List.set_cons_succ]
    rfl
  refine take_ (i := 7) (N := some 124) (a' := ?_) (v := .int .i64 ii) #[true, true, true, true, true, true, true, true, false, false, false, false] rfl rfl (by kernel_rfl) (by first | exact fun _ _ _ h => h | exact fun _ _ _ h => hP _ _ _ _ _ h) (Or.inl ⟨by rfl, fun w' _ => by go_simp⟩) hS ?_ ?_
  rotate_left
  · simp only [Act.put, List.setIfInBounds_toArray, List.set_cons_zero, List.set_cons_succ]
    rfl
  refine take_ (i := 8) (N := some 125) (a' := ?_) (v := .pointer (some ⟨sb, so + ii * 43, none⟩)) #[true, true, true, true, true, true, true, true, true, false, false, false] rfl rfl (by kernel_rfl) (by first | exact fun _ _ _ h => h | exact fun _ _ _ h => hP _ _ _ _ _ h) (Or.inl ⟨by rfl, fun w' _ => by go_simp⟩) hS ?_ ?_
  rotate_left
  · simp only [Act.put, List.setIfInBounds_toArray, List.set_cons_zero, List.set_cons_succ]
    rfl
  refine take_ (i := 9) (N := some 126) (a' := ?_) (v := .agg (scrL s m0 o0 t0).toArray) #[true, true, true, true, true, true, true, true, true, true, false, false] rfl rfl (by kernel_rfl) (by first | exact fun _ _ _ h => h | exact fun _ _ _ h => hP _ _ _ _ _ h) (y_any rfl rfl rfl (fun W hW => load_sl (HEL.out W hW.below))) hS ?_ ?_
  rotate_left
  · simp only [Act.put, List.setIfInBounds_toArray, List.set_cons_zero, List.set_cons_succ]
    rfl
  refine last_ (i := 10) (N := some 127) #[true, true, true, true, true, true, true, true, true, true, true, false] rfl rfl (by kernel_rfl) (by decide) (fun K hK => ?_)
  refine goes_ Tryd.func37 (by kernel_rfl) rfl #[.agg lx.toArray, .int .i64 ec, .bool may, .agg lw.toArray, .agg li.toArray, .agg (scrL s m0 o0 t0).toArray] (by rfl) rfl rfl (by simp only [List.map_toArray, List.map_cons, List.map_nil]; rfl) ?_
  refine HSA.out.mono ?_
  rintro e w4 ⟨rfl, hB⟩
  refine ⟨_, rfl, hK.out _ _ ?_⟩
  clear hK K
  refine norm_ (a' := ?_) ?_ ?_
  rotate_left
  · simp only [Act.put, List.setIfInBounds_toArray, List.set_cons_zero, List.set_cons_succ]
    rfl
  refine pure_ (i := 11) (N := some 128) (a' := ?_) (v := .bool false) #[true, true, true, true, true, true, true, true, true, true, true, true] rfl rfl (by kernel_rfl) (by first | exact fun _ _ _ h => h | exact fun _ _ _ h => hP _ _ _ _ _ h) (Or.inl ⟨by rfl, fun w' => by go_simp⟩) ?_ ?_
  rotate_left
  · simp only [Act.put, List.setIfInBounds_toArray, List.set_cons_zero, List.set_cons_succ]
    rfl
  refine done_ (by kernel_rfl) ?_
  exact hQ w4 _ _ _ _ _ _ _ _ _ _ _ (hMB.call hB)
end Go.Proofs.YtbjckahaalbpaaaDoor
