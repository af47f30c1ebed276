/- The law's statements whose order is open, each a theorem of its own. -/
import Derived.Test.YtbjckahaalbpaaaDoorWakes
set_option linter.unusedVariables false
set_option linter.unusedSimpArgs false
set_option linter.unnecessarySimpa false
namespace Go.Proofs.YtbjckahaalbpaaaDoor
open Go Go.RowKit Go.Proofs.YtbjckahaalbpaaaDoorW.PrintLast

noncomputable def mreg (n : Nat) : Code := ((Tryd.f21.body.bind (findRegion n)).getD .skip)
theorem slice6 (a b c d e f : Int) (w : World) : (Instr.buildSlice 27 6 #[(0, .int .i64 a), (1, .int .i64 b), (2, .int .i64 c), (3, .int .i64 d), (4, .int .i64 e), (5, .int .i64 f)]).run Tryd.prog w = .ok (.slice (some ⟨w.heap.size, 0, none⟩) 6 6) (w.alloc (.cells ([.int .i64 a, .int .i64 b, .int .i64 c, .int .i64 d, .int .i64 e, .int .i64 f] : List Value).toArray 3)) := by kernel_rfl
theorem slice2 (a b : Int) (w : World) : (Instr.buildSlice 27 2 #[(0, .int .i64 a), (1, .int .i64 b)]).run Tryd.prog w = .ok (.slice (some ⟨w.heap.size, 0, none⟩) 2 2) (w.alloc (.cells ([.int .i64 a, .int .i64 b] : List Value).toArray 3)) := by kernel_rfl
def nsL (n : Int) : List Value := [.int .i64 n, .int .i64 (-1), .int .i64 1, .int .i64 2, .int .i64 (withinZ n 12), .int .i64 9999]
set_option maxRecDepth 100000 in
set_option maxHeartbeats 1000000 in
/-- the numbers -/
theorem mreg9_is {v : Value} {n m k r : Int} {w wr : World} {b : Nat} {Q : Exit → Act → World → Prop} (hM : Mem w wr [(b, Row 24 (askL v n m k r))]) (hP : ∀ c a (d : Tmp) v w, Q (.panic c) (Act.put a (some d) v) w → Q (.panic c) a w) (u0 u1 u3 u4 u5 u6 u7 u8 u9 u10 u11 u12 u13 u14 u15 u16 u17 u18 u19 u20 u21 u22 u23 u24 u25 u26 u27 u28 u29 u30 u31 u32 u33 u34 u35 u36 u37 u38 u39 u40 u41 u42 u43 u44 u45 u46 u47 u48 u49 u50 u51 u52 u53 u54 u55 u56 u57 u58 u59 u60 u61 u62 u63 u64 u65 u66 u67 u68 u69 u70 u71 u72 u73 u74 u75 u76 u77 u78 u79 u80 u81 u82 u83 u84 u85 u86 u87 u88 u89 u90 u91 u92 u93 u94 u95 u96 u97 u98 u99 u100 u101 u102 u103 u104 u105 u106 u107 u108 u109 u110 u111 u112 u113 u114 u115 u116 u117 u118 u119 u120 u121 u122 u123 u124 u125 u126 u127 u128 u129 : Value)
    (hQ : ∀ w' g (v34 v35 v36 v37 v38 v39 : Value), Mem w w' [(g, Row 3 (nsL n)), (b, Row 24 (askL v n m k r))] → Q .normal ⟨#[u0, u1, .pointer (some ⟨b, 0, none⟩), u3, u4, u5, u6, .slice (some ⟨g, 0, none⟩) 6 6, u8, u9, u10, u11, u12, u13, u14, u15, u16, u17, u18, u19, u20, u21, u22, u23, u24, u25, u26, u27, u28, u29, u30, u31, u32, u33, v34, v35, v36, v37, v38, v39, u40, u41, u42, u43, u44, u45, u46, u47, u48, u49, u50, u51, u52, u53, u54, u55, u56, u57, u58, u59, u60, u61, u62, u63, u64, u65, u66, u67, u68, u69, u70, u71, u72, u73, u74, u75, u76, u77, u78, u79, u80, u81, u82, u83, u84, u85, u86, u87, u88, u89, u90, u91, u92, u93, u94, u95, u96, u97, u98, u99, u100, u101, u102, u103, u104, u105, u106, u107, u108, u109, u110, u111, u112, u113, u114, u115, u116, u117, u118, u119, u120, u121, u122, u123, u124, u125, u126, u127, u128, u129], []⟩ w') :
    Code.wp Tryd.prog (mreg 9) Q ⟨#[u0, u1, .pointer (some ⟨b, 0, none⟩), u3, u4, u5, u6, u7, u8, u9, u10, u11, u12, u13, u14, u15, u16, u17, u18, u19, u20, u21, u22, u23, u24, u25, u26, u27, u28, u29, u30, u31, u32, u33, u34, u35, u36, u37, u38, u39, u40, u41, u42, u43, u44, u45, u46, u47, u48, u49, u50, u51, u52, u53, u54, u55, u56, u57, u58, u59, u60, u61, u62, u63, u64, u65, u66, u67, u68, u69, u70, u71, u72, u73, u74, u75, u76, u77, u78, u79, u80, u81, u82, u83, u84, u85, u86, u87, u88, u89, u90, u91, u92, u93, u94, u95, u96, u97, u98, u99, u100, u101, u102, u103, u104, u105, u106, u107, u108, u109, u110, u111, u112, u113, u114, u115, u116, u117, u118, u119, u120, u121, u122, u123, u124, u125, u126, u127, u128, u129], []⟩ wr := by
  have HM := hid hM
  clear hM
  conv => arg 2; whnf
  refine start_ (n := 7) (S := fun W => Mem w W [(b, Row 24 (askL v n m k r))]) (ds := []) #[false, false, false, false, false, false, false] (by kernel_rfl) rfl rfl HM.out.drew (fun hS => ?_)
  refine take_ (i := 0) (N := some 34) (a' := ?_) (v := .pointer (some ⟨b, 1, none⟩)) #[true, false, false, false, false, false, false] rfl rfl (by kernel_rfl) (by first | exact fun _ _ _ h => h | exact fun _ _ _ h => hP _ _ _ _ _ h) (Or.inl ⟨by rfl, fun w' _ => by go_simp⟩) hS ?_ ?_
  rotate_left
  · simp only [Act.put, List.setIfInBounds_toArray, List.set_cons_zero, List.set_cons_succ]
    rfl
  refine take_ (i := 1) (N := some 35) (a' := ?_) (v := .int .i64 n) #[true, true, false, false, false, false, false] rfl rfl (by kernel_rfl) (by first | exact fun _ _ _ h => h | exact fun _ _ _ h => hP _ _ _ _ _ h) (y_load rfl rfl rfl (by first | exact .head _ | exact .tail _ (.head _) | exact .tail _ (.tail _ (.head _)) | exact .tail _ (.tail _ (.tail _ (.head _))) | exact .tail _ (.tail _ (.tail _ (.tail _ (.head _)))) | exact .tail _ (.tail _ (.tail _ (.tail _ (.tail _ (.head _))))) | exact .tail _ (.tail _ (.tail _ (.tail _ (.tail _ (.tail _ (.head _)))))) | exact .tail _ (.tail _ (.tail _ (.tail _ (.tail _ (.tail _ (.tail _ (.head _)))))))) rfl (by first | exact Tryd.underlying3 | exact Tryd.underlying4 | exact Tryd.underlying9 | exact Tryd.underlying28 | exact Tryd.underlying35) rfl) hS ?_ ?_
  rotate_left
  · simp only [Act.put, List.setIfInBounds_toArray, List.set_cons_zero, List.set_cons_succ]
    rfl
  refine take_ (i := 2) (N := some 36) (a' := ?_) (v := .pointer (some ⟨b, 1, none⟩)) #[true, true, true, false, false, false, false] rfl rfl (by kernel_rfl) (by first | exact fun _ _ _ h => h | exact fun _ _ _ h => hP _ _ _ _ _ h) (Or.inl ⟨by rfl, fun w' _ => by go_simp⟩) hS ?_ ?_
  rotate_left
  · simp only [Act.put, List.setIfInBounds_toArray, List.set_cons_zero, List.set_cons_succ]
    rfl
  refine take_ (i := 3) (N := some 37) (a' := ?_) (v := .int .i64 n) #[true, true, true, true, false, false, false] rfl rfl (by kernel_rfl) (by first | exact fun _ _ _ h => h | exact fun _ _ _ h => hP _ _ _ _ _ h) (y_load rfl rfl rfl (by first | exact .head _ | exact .tail _ (.head _) | exact .tail _ (.tail _ (.head _)) | exact .tail _ (.tail _ (.tail _ (.head _))) | exact .tail _ (.tail _ (.tail _ (.tail _ (.head _)))) | exact .tail _ (.tail _ (.tail _ (.tail _ (.tail _ (.head _))))) | exact .tail _ (.tail _ (.tail _ (.tail _ (.tail _ (.tail _ (.head _)))))) | exact .tail _ (.tail _ (.tail _ (.tail _ (.tail _ (.tail _ (.tail _ (.head _)))))))) rfl (by first | exact Tryd.underlying3 | exact Tryd.underlying4 | exact Tryd.underlying9 | exact Tryd.underlying28 | exact Tryd.underlying35) rfl) hS ?_ ?_
  rotate_left
  · simp only [Act.put, List.setIfInBounds_toArray, List.set_cons_zero, List.set_cons_succ]
    rfl
  refine one_ (i := 4) (N := some 38) #[true, true, true, true, true, false, false] rfl rfl (by kernel_rfl) (by decide) (fun K hK => ?_)
  refine goes_ Tryd.func25 (by kernel_rfl) rfl #[.int .i64 n, .int .i64 12] (by rfl) rfl rfl (by simp only [List.map_toArray, List.map_cons, List.map_nil]; rfl) ?_
  refine (withinN_any n 12 _ (by decide) (by decide)).mono ?_
  rintro e w4 ⟨rfl, rfl⟩
  refine ⟨_, rfl, hK.out _ _ hS (fun hS2 => ?_)⟩
  clear hK K hS2
  refine norm_ (a' := ?_) ?_ ?_
  rotate_left
  · simp only [Act.put, List.setIfInBounds_toArray, List.set_cons_zero, List.set_cons_succ]
    rfl
  refine one_ (i := 5) (N := some 39) #[true, true, true, true, true, true, false] rfl rfl (by kernel_rfl) (by decide) (fun K hK => ?_)
  refine y_slice (e := 3) hS rfl rfl rfl #[(0, .int .i64 n), (1, .int .i64 (-1)), (2, .int .i64 1), (3, .int .i64 2), (4, .int .i64 (withinZ n 12)), (5, .int .i64 9999)] (by simp only [List.map_toArray, List.map_cons, List.map_nil]; rfl) _ (fun w' => slice6 _ _ _ _ _ _ w') (fun g w' hg hB hM => hK.out _ _ (hS.call hB) (fun hS2 => ?_))
  clear hK K hS2
  refine norm_ (a' := ?_) ?_ ?_
  rotate_left
  · simp only [Act.put, List.setIfInBounds_toArray, List.set_cons_zero, List.set_cons_succ]
    rfl
  refine pure_ (i := 6) (N := some 7) (a' := ?_) (v := .slice (some ⟨g, 0, none⟩) 6 6) #[true, true, true, true, true, true, true] rfl rfl (by kernel_rfl) (by first | exact fun _ _ _ h => h | exact fun _ _ _ h => hP _ _ _ _ _ h) (Or.inl ⟨by rfl, fun w' => by go_simp⟩) ?_ ?_
  rotate_left
  · simp only [Act.put, List.setIfInBounds_toArray, List.set_cons_zero, List.set_cons_succ]
    rfl
  refine done_ (by kernel_rfl) ?_
  exact hQ w' g _ _ _ _ _ _ hM
set_option maxRecDepth 100000 in
set_option maxHeartbeats 2000000 in
/-- the second number -/
theorem mreg13_is {v : Value} {n m k r : Int} {w wr : World} {b g j : Nat} {Q : Exit → Act → World → Prop} (hM : Mem w wr [(g, Row 3 (nsL n)), (b, Row 24 (askL v n m k r))]) (hj : j < 6) (hP : ∀ c a (d : Tmp) v w, Q (.panic c) (Act.put a (some d) v) w → Q (.panic c) a w) (u0 u1 u3 u4 u5 u6 u7 u9 u10 u11 u12 u13 u14 u15 u16 u17 u18 u19 u20 u21 u22 u23 u24 u25 u26 u27 u28 u29 u30 u31 u32 u33 u34 u35 u36 u37 u38 u39 u40 u41 u42 u43 u44 u45 u46 u47 u48 u49 u50 u51 u52 u53 u54 u55 u56 u57 u58 u59 u60 u61 u62 u63 u64 u65 u66 u67 u68 u69 u70 u71 u72 u73 u74 u75 u76 u77 u78 u79 u80 u81 u82 u83 u84 u85 u86 u87 u88 u89 u90 u91 u92 u93 u94 u95 u96 u97 u98 u99 u100 u101 u102 u103 u104 u105 u106 u107 u108 u109 u110 u111 u112 u113 u114 u115 u116 u117 u118 u119 u120 u121 u122 u123 u124 u125 u126 u127 u128 u129 : Value)
    (hQ : ∀ w' (mv : Int) (v46 v47 v48 v49 v50 v51 v52 v53 v54 v55 : Value), Mem w w' [(g, Row 3 (nsL n)), (b, Row 24 (askL v n m k r))] → Q .normal ⟨#[u0, u1, .pointer (some ⟨b, 0, none⟩), u3, u4, u5, u6, u7, .int .i64 j, .int .i64 mv, u10, u11, u12, u13, u14, u15, u16, u17, u18, u19, u20, u21, u22, u23, u24, u25, u26, u27, u28, u29, u30, u31, u32, u33, u34, u35, u36, u37, u38, u39, u40, u41, u42, u43, u44, u45, v46, v47, v48, v49, v50, v51, v52, v53, v54, v55, u56, u57, u58, u59, u60, u61, u62, u63, u64, u65, u66, u67, u68, u69, u70, u71, u72, u73, u74, u75, u76, u77, u78, u79, u80, u81, u82, u83, u84, u85, u86, u87, u88, u89, u90, u91, u92, u93, u94, u95, u96, u97, u98, u99, u100, u101, u102, u103, u104, u105, u106, u107, u108, u109, u110, u111, u112, u113, u114, u115, u116, u117, u118, u119, u120, u121, u122, u123, u124, u125, u126, u127, u128, u129], []⟩ w') :
    Code.wp Tryd.prog (mreg 13) Q ⟨#[u0, u1, .pointer (some ⟨b, 0, none⟩), u3, u4, u5, u6, u7, .int .i64 j, u9, u10, u11, u12, u13, u14, u15, u16, u17, u18, u19, u20, u21, u22, u23, u24, u25, u26, u27, u28, u29, u30, u31, u32, u33, u34, u35, u36, u37, u38, u39, u40, u41, u42, u43, u44, u45, u46, u47, u48, u49, u50, u51, u52, u53, u54, u55, u56, u57, u58, u59, u60, u61, u62, u63, u64, u65, u66, u67, u68, u69, u70, u71, u72, u73, u74, u75, u76, u77, u78, u79, u80, u81, u82, u83, u84, u85, u86, u87, u88, u89, u90, u91, u92, u93, u94, u95, u96, u97, u98, u99, u100, u101, u102, u103, u104, u105, u106, u107, u108, u109, u110, u111, u112, u113, u114, u115, u116, u117, u118, u119, u120, u121, u122, u123, u124, u125, u126, u127, u128, u129], []⟩ wr := by
  have HM := hid hM
  clear hM
  conv => arg 2; whnf
  rcases (show j % 2 = 0 ∨ j % 2 = 1 by omega) with hp | hp
  · skip
    have e2 : (j : Int) % 2 = 0 := by omega
    have e1 : (j : Int).tmod 2 = 0 := by rw [Int.tmod_eq_emod_of_nonneg (by omega)]; omega
    refine start_ (n := 11) (S := fun W => Mem w W [(g, Row 3 (nsL n)), (b, Row 24 (askL v n m k r))]) (ds := []) #[false, false, false, false, false, false, false, false, false, false, false] (by kernel_rfl) rfl rfl HM.out.drew (fun hS => ?_)
    refine take_ (i := 0) (N := some 46) (a' := ?_) (v := .pointer (some ⟨b, 2, none⟩)) #[true, false, false, false, false, false, false, false, false, false, false] rfl rfl (by kernel_rfl) (by first | exact fun _ _ _ h => h | exact fun _ _ _ h => hP _ _ _ _ _ h) (Or.inl ⟨by rfl, fun w' _ => by go_simp⟩) hS ?_ ?_
    rotate_left
    · simp only [Act.put, List.setIfInBounds_toArray, List.set_cons_zero, List.set_cons_succ]
      rfl
    refine take_ (i := 1) (N := some 47) (a' := ?_) (v := .int .i64 m) #[true, true, false, false, false, false, false, false, false, false, false] rfl rfl (by kernel_rfl) (by first | exact fun _ _ _ h => h | exact fun _ _ _ h => hP _ _ _ _ _ h) (y_load rfl rfl rfl (by first | exact .head _ | exact .tail _ (.head _) | exact .tail _ (.tail _ (.head _)) | exact .tail _ (.tail _ (.tail _ (.head _))) | exact .tail _ (.tail _ (.tail _ (.tail _ (.head _)))) | exact .tail _ (.tail _ (.tail _ (.tail _ (.tail _ (.head _))))) | exact .tail _ (.tail _ (.tail _ (.tail _ (.tail _ (.tail _ (.head _)))))) | exact .tail _ (.tail _ (.tail _ (.tail _ (.tail _ (.tail _ (.tail _ (.head _)))))))) rfl (by first | exact Tryd.underlying3 | exact Tryd.underlying4 | exact Tryd.underlying9 | exact Tryd.underlying28 | exact Tryd.underlying35) rfl) hS ?_ ?_
    rotate_left
    · simp only [Act.put, List.setIfInBounds_toArray, List.set_cons_zero, List.set_cons_succ]
      rfl
    refine take_ (i := 2) (N := some 48) (a' := ?_) (v := .pointer (some ⟨b, 2, none⟩)) #[true, true, true, false, false, false, false, false, false, false, false] rfl rfl (by kernel_rfl) (by first | exact fun _ _ _ h => h | exact fun _ _ _ h => hP _ _ _ _ _ h) (Or.inl ⟨by rfl, fun w' _ => by go_simp⟩) hS ?_ ?_
    rotate_left
    · simp only [Act.put, List.setIfInBounds_toArray, List.set_cons_zero, List.set_cons_succ]
      rfl
    refine take_ (i := 3) (N := some 49) (a' := ?_) (v := .int .i64 m) #[true, true, true, true, false, false, false, false, false, false, false] rfl rfl (by kernel_rfl) (by first | exact fun _ _ _ h => h | exact fun _ _ _ h => hP _ _ _ _ _ h) (y_load rfl rfl rfl (by first | exact .head _ | exact .tail _ (.head _) | exact .tail _ (.tail _ (.head _)) | exact .tail _ (.tail _ (.tail _ (.head _))) | exact .tail _ (.tail _ (.tail _ (.tail _ (.head _)))) | exact .tail _ (.tail _ (.tail _ (.tail _ (.tail _ (.head _))))) | exact .tail _ (.tail _ (.tail _ (.tail _ (.tail _ (.tail _ (.head _)))))) | exact .tail _ (.tail _ (.tail _ (.tail _ (.tail _ (.tail _ (.tail _ (.head _)))))))) rfl (by first | exact Tryd.underlying3 | exact Tryd.underlying4 | exact Tryd.underlying9 | exact Tryd.underlying28 | exact Tryd.underlying35) rfl) hS ?_ ?_
    rotate_left
    · simp only [Act.put, List.setIfInBounds_toArray, List.set_cons_zero, List.set_cons_succ]
      rfl
    refine take_ (i := 6) (N := some 52) (a' := ?_) (v := .int .i64 j) #[true, true, true, true, false, false, true, false, false, false, false] rfl rfl (by kernel_rfl) (by first | exact fun _ _ _ h => h | exact fun _ _ _ h => hP _ _ _ _ _ h) (Or.inl ⟨by rfl, fun w' _ => by go_simp⟩) hS ?_ ?_
    rotate_left
    · simp only [Act.put, List.setIfInBounds_toArray, List.set_cons_zero, List.set_cons_succ]
      rfl
    refine take_ (i := 7) (N := some 53) (a' := ?_) (v := .int .i64 0) #[true, true, true, true, false, false, true, true, false, false, false] rfl rfl (by kernel_rfl) (by first | exact fun _ _ _ h => h | exact fun _ _ _ h => hP _ _ _ _ _ h) (Or.inl ⟨by rfl, fun w' _ => by go_simp⟩) hS ?_ ?_
    rotate_left
    · simp only [Act.put, List.setIfInBounds_toArray, List.set_cons_zero, List.set_cons_succ]
      rfl
    refine one_ (i := 4) (N := some 50) #[true, true, true, true, true, false, true, true, false, false, false] rfl rfl (by kernel_rfl) (by decide) (fun K hK => ?_)
    refine goes_ Tryd.func25 (by kernel_rfl) rfl #[.int .i64 m, .int .i64 12] (by rfl) rfl rfl (by simp only [List.map_toArray, List.map_cons, List.map_nil]; rfl) ?_
    refine (withinN_any m 12 _ (by decide) (by decide)).mono ?_
    rintro e w4 ⟨rfl, rfl⟩
    refine ⟨_, rfl, hK.out _ _ hS (fun hS2 => ?_)⟩
    clear hK K hS2
    refine norm_ (a' := ?_) ?_ ?_
    rotate_left
    · simp only [Act.put, List.setIfInBounds_toArray, List.set_cons_zero, List.set_cons_succ]
      rfl
    refine one_ (i := 5) (N := some 51) #[true, true, true, true, true, true, true, true, false, false, false] rfl rfl (by kernel_rfl) (by decide) (fun K hK => ?_)
    refine y_slice (e := 3) hS rfl rfl rfl #[(0, .int .i64 m), (1, .int .i64 (withinZ m 12))] (by simp only [List.map_toArray, List.map_cons, List.map_nil]; rfl) _ (fun w' => slice2 _ _ w') (fun gm w' hg hB hM => hK.out _ _ (hS.call hB) (fun hS2 => ?_))
    clear hK K
    refine norm_ (a' := ?_) ?_ ?_
    rotate_left
    · simp only [Act.put, List.setIfInBounds_toArray, List.set_cons_zero, List.set_cons_succ]
      rfl
    refine pure_ (i := 8) (N := some 54) (a' := ?_) (v := .pointer (some ⟨gm, 0, none⟩)) #[true, true, true, true, true, true, true, true, true, false, false] rfl rfl (by kernel_rfl) (by first | exact fun _ _ _ h => h | exact fun _ _ _ h => hP _ _ _ _ _ h) (Or.inl ⟨by rfl, fun w' => by go_simp⟩) ?_ ?_
    rotate_left
    · simp only [Act.put, List.setIfInBounds_toArray, List.set_cons_zero, List.set_cons_succ]
      rfl
    refine one_ (i := 9) (N := some 55) #[true, true, true, true, true, true, true, true, true, true, false] rfl rfl (by kernel_rfl) (by decide) (fun K hK => ?_)
    refine y_loadK hM rfl rfl rfl rfl (by first | exact .head _ | exact .tail _ (.head _) | exact .tail _ (.tail _ (.head _)) | exact .tail _ (.tail _ (.tail _ (.head _))) | exact .tail _ (.tail _ (.tail _ (.tail _ (.head _)))) | exact .tail _ (.tail _ (.tail _ (.tail _ (.tail _ (.head _))))) | exact .tail _ (.tail _ (.tail _ (.tail _ (.tail _ (.tail _ (.head _)))))) | exact .tail _ (.tail _ (.tail _ (.tail _ (.tail _ (.tail _ (.tail _ (.head _)))))))) rfl (by first | exact Tryd.underlying3 | exact Tryd.underlying4 | exact Tryd.underlying9 | exact Tryd.underlying28 | exact Tryd.underlying35) rfl (hK.out _ _ hS2 (fun _ => ?_))
    clear hK K
    refine norm_ (a' := ?_) ?_ ?_
    rotate_left
    · simp only [Act.put, List.setIfInBounds_toArray, List.set_cons_zero, List.set_cons_succ]
      rfl
    refine pure_ (i := 10) (N := some 9) (a' := ?_) (v := .int .i64 m) #[true, true, true, true, true, true, true, true, true, true, true] rfl rfl (by kernel_rfl) (by first | exact fun _ _ _ h => h | exact fun _ _ _ h => hP _ _ _ _ _ h) (Or.inl ⟨by rfl, fun w' => by go_simp⟩) ?_ ?_
    rotate_left
    · simp only [Act.put, List.setIfInBounds_toArray, List.set_cons_zero, List.set_cons_succ]
      rfl
    refine done_ (by kernel_rfl) ?_
    exact hQ w' _ _ _ _ _ _ _ _ _ _ _ hS2
  · skip
    have e2 : (j : Int) % 2 = 1 := by omega
    have e1 : (j : Int).tmod 2 = 1 := by rw [Int.tmod_eq_emod_of_nonneg (by omega)]; omega
    refine start_ (n := 11) (S := fun W => Mem w W [(g, Row 3 (nsL n)), (b, Row 24 (askL v n m k r))]) (ds := []) #[false, false, false, false, false, false, false, false, false, false, false] (by kernel_rfl) rfl rfl HM.out.drew (fun hS => ?_)
    refine take_ (i := 0) (N := some 46) (a' := ?_) (v := .pointer (some ⟨b, 2, none⟩)) #[true, false, false, false, false, false, false, false, false, false, false] rfl rfl (by kernel_rfl) (by first | exact fun _ _ _ h => h | exact fun _ _ _ h => hP _ _ _ _ _ h) (Or.inl ⟨by rfl, fun w' _ => by go_simp⟩) hS ?_ ?_
    rotate_left
    · simp only [Act.put, List.setIfInBounds_toArray, List.set_cons_zero, List.set_cons_succ]
      rfl
    refine take_ (i := 1) (N := some 47) (a' := ?_) (v := .int .i64 m) #[true, true, false, false, false, false, false, false, false, false, false] rfl rfl (by kernel_rfl) (by first | exact fun _ _ _ h => h | exact fun _ _ _ h => hP _ _ _ _ _ h) (y_load rfl rfl rfl (by first | exact .head _ | exact .tail _ (.head _) | exact .tail _ (.tail _ (.head _)) | exact .tail _ (.tail _ (.tail _ (.head _))) | exact .tail _ (.tail _ (.tail _ (.tail _ (.head _)))) | exact .tail _ (.tail _ (.tail _ (.tail _ (.tail _ (.head _))))) | exact .tail _ (.tail _ (.tail _ (.tail _ (.tail _ (.tail _ (.head _)))))) | exact .tail _ (.tail _ (.tail _ (.tail _ (.tail _ (.tail _ (.tail _ (.head _)))))))) rfl (by first | exact Tryd.underlying3 | exact Tryd.underlying4 | exact Tryd.underlying9 | exact Tryd.underlying28 | exact Tryd.underlying35) rfl) hS ?_ ?_
    rotate_left
    · simp only [Act.put, List.setIfInBounds_toArray, List.set_cons_zero, List.set_cons_succ]
      rfl
    refine take_ (i := 2) (N := some 48) (a' := ?_) (v := .pointer (some ⟨b, 2, none⟩)) #[true, true, true, false, false, false, false, false, false, false, false] rfl rfl (by kernel_rfl) (by first | exact fun _ _ _ h => h | exact fun _ _ _ h => hP _ _ _ _ _ h) (Or.inl ⟨by rfl, fun w' _ => by go_simp⟩) hS ?_ ?_
    rotate_left
    · simp only [Act.put, List.setIfInBounds_toArray, List.set_cons_zero, List.set_cons_succ]
      rfl
    refine take_ (i := 3) (N := some 49) (a' := ?_) (v := .int .i64 m) #[true, true, true, true, false, false, false, false, false, false, false] rfl rfl (by kernel_rfl) (by first | exact fun _ _ _ h => h | exact fun _ _ _ h => hP _ _ _ _ _ h) (y_load rfl rfl rfl (by first | exact .head _ | exact .tail _ (.head _) | exact .tail _ (.tail _ (.head _)) | exact .tail _ (.tail _ (.tail _ (.head _))) | exact .tail _ (.tail _ (.tail _ (.tail _ (.head _)))) | exact .tail _ (.tail _ (.tail _ (.tail _ (.tail _ (.head _))))) | exact .tail _ (.tail _ (.tail _ (.tail _ (.tail _ (.tail _ (.head _)))))) | exact .tail _ (.tail _ (.tail _ (.tail _ (.tail _ (.tail _ (.tail _ (.head _)))))))) rfl (by first | exact Tryd.underlying3 | exact Tryd.underlying4 | exact Tryd.underlying9 | exact Tryd.underlying28 | exact Tryd.underlying35) rfl) hS ?_ ?_
    rotate_left
    · simp only [Act.put, List.setIfInBounds_toArray, List.set_cons_zero, List.set_cons_succ]
      rfl
    refine take_ (i := 6) (N := some 52) (a' := ?_) (v := .int .i64 j) #[true, true, true, true, false, false, true, false, false, false, false] rfl rfl (by kernel_rfl) (by first | exact fun _ _ _ h => h | exact fun _ _ _ h => hP _ _ _ _ _ h) (Or.inl ⟨by rfl, fun w' _ => by go_simp⟩) hS ?_ ?_
    rotate_left
    · simp only [Act.put, List.setIfInBounds_toArray, List.set_cons_zero, List.set_cons_succ]
      rfl
    refine take_ (i := 7) (N := some 53) (a' := ?_) (v := .int .i64 1) #[true, true, true, true, false, false, true, true, false, false, false] rfl rfl (by kernel_rfl) (by first | exact fun _ _ _ h => h | exact fun _ _ _ h => hP _ _ _ _ _ h) (Or.inl ⟨by rfl, fun w' _ => by go_simp⟩) hS ?_ ?_
    rotate_left
    · simp only [Act.put, List.setIfInBounds_toArray, List.set_cons_zero, List.set_cons_succ]
      rfl
    refine one_ (i := 4) (N := some 50) #[true, true, true, true, true, false, true, true, false, false, false] rfl rfl (by kernel_rfl) (by decide) (fun K hK => ?_)
    refine goes_ Tryd.func25 (by kernel_rfl) rfl #[.int .i64 m, .int .i64 12] (by rfl) rfl rfl (by simp only [List.map_toArray, List.map_cons, List.map_nil]; rfl) ?_
    refine (withinN_any m 12 _ (by decide) (by decide)).mono ?_
    rintro e w4 ⟨rfl, rfl⟩
    refine ⟨_, rfl, hK.out _ _ hS (fun hS2 => ?_)⟩
    clear hK K hS2
    refine norm_ (a' := ?_) ?_ ?_
    rotate_left
    · simp only [Act.put, List.setIfInBounds_toArray, List.set_cons_zero, List.set_cons_succ]
      rfl
    refine one_ (i := 5) (N := some 51) #[true, true, true, true, true, true, true, true, false, false, false] rfl rfl (by kernel_rfl) (by decide) (fun K hK => ?_)
    refine y_slice (e := 3) hS rfl rfl rfl #[(0, .int .i64 m), (1, .int .i64 (withinZ m 12))] (by simp only [List.map_toArray, List.map_cons, List.map_nil]; rfl) _ (fun w' => slice2 _ _ w') (fun gm w' hg hB hM => hK.out _ _ (hS.call hB) (fun hS2 => ?_))
    clear hK K
    refine norm_ (a' := ?_) ?_ ?_
    rotate_left
    · simp only [Act.put, List.setIfInBounds_toArray, List.set_cons_zero, List.set_cons_succ]
      rfl
    refine pure_ (i := 8) (N := some 54) (a' := ?_) (v := .pointer (some ⟨gm, 1, none⟩)) #[true, true, true, true, true, true, true, true, true, false, false] rfl rfl (by kernel_rfl) (by first | exact fun _ _ _ h => h | exact fun _ _ _ h => hP _ _ _ _ _ h) (Or.inl ⟨by rfl, fun w' => by go_simp⟩) ?_ ?_
    rotate_left
    · simp only [Act.put, List.setIfInBounds_toArray, List.set_cons_zero, List.set_cons_succ]
      rfl
    refine one_ (i := 9) (N := some 55) #[true, true, true, true, true, true, true, true, true, true, false] rfl rfl (by kernel_rfl) (by decide) (fun K hK => ?_)
    refine y_loadK hM rfl rfl rfl rfl (by first | exact .head _ | exact .tail _ (.head _) | exact .tail _ (.tail _ (.head _)) | exact .tail _ (.tail _ (.tail _ (.head _))) | exact .tail _ (.tail _ (.tail _ (.tail _ (.head _)))) | exact .tail _ (.tail _ (.tail _ (.tail _ (.tail _ (.head _))))) | exact .tail _ (.tail _ (.tail _ (.tail _ (.tail _ (.tail _ (.head _)))))) | exact .tail _ (.tail _ (.tail _ (.tail _ (.tail _ (.tail _ (.tail _ (.head _)))))))) rfl (by first | exact Tryd.underlying3 | exact Tryd.underlying4 | exact Tryd.underlying9 | exact Tryd.underlying28 | exact Tryd.underlying35) rfl (hK.out _ _ hS2 (fun _ => ?_))
    clear hK K
    refine norm_ (a' := ?_) ?_ ?_
    rotate_left
    · simp only [Act.put, List.setIfInBounds_toArray, List.set_cons_zero, List.set_cons_succ]
      rfl
    refine pure_ (i := 10) (N := some 9) (a' := ?_) (v := .int .i64 (withinZ m 12)) #[true, true, true, true, true, true, true, true, true, true, true] rfl rfl (by kernel_rfl) (by first | exact fun _ _ _ h => h | exact fun _ _ _ h => hP _ _ _ _ _ h) (Or.inl ⟨by rfl, fun w' => by go_simp⟩) ?_ ?_
    rotate_left
    · simp only [Act.put, List.setIfInBounds_toArray, List.set_cons_zero, List.set_cons_succ]
      rfl
    refine done_ (by kernel_rfl) ?_
    exact hQ w' _ _ _ _ _ _ _ _ _ _ _ hS2
theorem load_one {P : Program} {ty : TypeId} {d : TypeDesc} (hu : P.underlying ty = some d) (hd : d.isRow = false) {ad : Addr} {v : Value} {w : World} (hc : w.cell? ad = some v) : (Instr.loadAt ty (.pointer (some ad))).run P w = .ok v w := by
  simp only [Instr.loadAt, Instr.sureAddr, Sem.run_bind, Sem.run_pure, Result.andThen_ok, run_loadVar_one hu hd hc]
/-- what the program's call comes to -/
def MoveOut (s : Scr) (mi oi ti : Value) (key nj mv : Int) (R : Scr) (ec : Int) (W : World) : Prop :=
  Calls Tryd.prog 24 #[.agg (scrL s mi oi ti).toArray, .int .i64 key, .int .i64 nj, .int .i64 mv] W fun e w' => ∃ A1 k1 A2 k2 A3 k3, e = .returned (.tuple #[.agg (scrL R (.slice A1 R.ms.length k1) (.slice A2 R.os.length k2) (.slice A3 R.tabs.length k3)).toArray, .int .i64 ec]) ∧ OwnScr w' W.heap.size R (.slice A1 R.ms.length k1) (.slice A2 R.os.length k2) (.slice A3 R.tabs.length k3) ∧ Below W.heap.size W w'
set_option maxRecDepth 100000 in
set_option maxHeartbeats 4000000 in
/-- the program's answer -/
theorem mreg15_is {v mi oi ti : Value} {n m k r key nj mv ec : Int} {s R : Scr} {w wr : World} {b g bin j kk kb ko kl kc : Nat} {Q : Exit → Act → World → Prop} (hM : Mem w wr [(bin, Row 37 (scrL s mi oi ti)), (g, Row 3 (nsL n)), (b, Row 24 (askL v n m k r))]) (hj : j < 6) (hnj : (nsL n)[j]? = some (.int .i64 nj)) (hkk : kk < kl)
    (hkc : ∀ W, Below w.heap.size w W → W.cell? ⟨kb, ko + kk, none⟩ = some (.int .i64 key)) (hmv : ∀ W, Below wr.heap.size wr W → MoveOut s mi oi ti key nj mv R ec W)
    (hP : ∀ c a (d : Tmp) v w, Q (.panic c) (Act.put a (some d) v) w → Q (.panic c) a w) (u0 u3 u4 u5 u11 u12 u13 u14 u15 u16 u17 u18 u19 u20 u21 u22 u23 u24 u25 u26 u27 u28 u29 u30 u31 u32 u33 u34 u35 u36 u37 u38 u39 u40 u41 u42 u43 u44 u45 u46 u47 u48 u49 u50 u51 u52 u53 u54 u55 u56 u57 u58 u59 u60 u61 u62 u63 u64 u65 u66 u67 u68 u69 u70 u71 u72 u73 u74 u75 u76 u77 u78 u79 u80 u81 u82 u83 u84 u85 u86 u87 u88 u89 u90 u91 u92 u93 u94 u95 u96 u97 u98 u99 u100 u101 u102 u103 u104 u105 u106 u107 u108 u109 u110 u111 u112 u113 u114 u115 u116 u117 u118 u119 u120 u121 u122 u123 u124 u125 u126 u127 u128 u129 : Value)
    (hQ : ∀ w' bx A1 k1 A2 k2 A3 k3 (v63 v64 v65 v66 v67 v68 v69 v70 v71 v72 v73 v74 v75 : Value), Mem w w' ((bx, Row 37 (scrL R (.slice A1 R.ms.length k1) (.slice A2 R.os.length k2) (.slice A3 R.tabs.length k3))) :: [(bin, Row 37 (scrL s mi oi ti)), (g, Row 3 (nsL n)), (b, Row 24 (askL v n m k r))]) →
      OwnScr w' wr.heap.size R (.slice A1 R.ms.length k1) (.slice A2 R.os.length k2) (.slice A3 R.tabs.length k3) → Below wr.heap.size wr w' →
      Q .normal ⟨#[u0, .slice (some ⟨kb, ko, none⟩) kl kc, .pointer (some ⟨b, 0, none⟩), u3, u4, u5, .int .i64 kk, .slice (some ⟨g, 0, none⟩) 6 6, .int .i64 j, .int .i64 mv, .pointer (some ⟨bin, 0, none⟩), .pointer (some ⟨bx, 0, none⟩), .int .i64 ec, u13, u14, u15, u16, u17, u18, u19, u20, u21, u22, u23, u24, u25, u26, u27, u28, u29, u30, u31, u32, u33, u34, u35, u36, u37, u38, u39, u40, u41, u42, u43, u44, u45, u46, u47, u48, u49, u50, u51, u52, u53, u54, u55, u56, u57, u58, u59, u60, u61, .tuple #[.agg (scrL R (.slice A1 R.ms.length k1) (.slice A2 R.os.length k2) (.slice A3 R.tabs.length k3)).toArray, .int .i64 ec], v63, v64, v65, v66, v67, v68, v69, v70, v71, v72, v73, v74, v75, u76, u77, u78, u79, u80, u81, u82, u83, u84, u85, u86, u87, u88, u89, u90, u91, u92, u93, u94, u95, u96, u97, u98, u99, u100, u101, u102, u103, u104, u105, u106, u107, u108, u109, u110, u111, u112, u113, u114, u115, u116, u117, u118, u119, u120, u121, u122, u123, u124, u125, u126, u127, u128, u129], []⟩ w') :
    Code.wp Tryd.prog (mreg 15) Q ⟨#[u0, .slice (some ⟨kb, ko, none⟩) kl kc, .pointer (some ⟨b, 0, none⟩), u3, u4, u5, .int .i64 kk, .slice (some ⟨g, 0, none⟩) 6 6, .int .i64 j, .int .i64 mv, .pointer (some ⟨bin, 0, none⟩), u11, u12, u13, u14, u15, u16, u17, u18, u19, u20, u21, u22, u23, u24, u25, u26, u27, u28, u29, u30, u31, u32, u33, u34, u35, u36, u37, u38, u39, u40, u41, u42, u43, u44, u45, u46, u47, u48, u49, u50, u51, u52, u53, u54, u55, u56, u57, u58, u59, u60, u61, u62, u63, u64, u65, u66, u67, u68, u69, u70, u71, u72, u73, u74, u75, u76, u77, u78, u79, u80, u81, u82, u83, u84, u85, u86, u87, u88, u89, u90, u91, u92, u93, u94, u95, u96, u97, u98, u99, u100, u101, u102, u103, u104, u105, u106, u107, u108, u109, u110, u111, u112, u113, u114, u115, u116, u117, u118, u119, u120, u121, u122, u123, u124, u125, u126, u127, u128, u129], []⟩ wr := by
  have HM := hid hM
  have HKC := hid hkc
  have HMV := hid hmv
  have HJ := hid hnj
  have HKK := hid hkk
  have hkk2 : (kk : Int) < (kl : Int) := by omega
  have hj2 : (j : Int) < 6 := by omega
  clear hM hkc hmv hnj
  conv => arg 2; whnf
  refine start_ (n := 17) (S := fun W => Mem w W [(bin, Row 37 (scrL s mi oi ti)), (g, Row 3 (nsL n)), (b, Row 24 (askL v n m k r))]) (ds := [15]) #[false, false, false, false, false, false, false, false, false, false, false, false, false, false, false, false, false] (by kernel_rfl) rfl rfl HM.out.drew (fun hS => ?_)
  refine take_ (i := 0) (N := some 63) (a' := ?_) (v := .agg (scrL s mi oi ti).toArray) #[true, false, false, false, false, false, false, false, false, false, false, false, false, false, false, false, false] rfl rfl (by kernel_rfl) (by first | exact fun _ _ _ h => h | exact fun _ _ _ h => hP _ _ _ _ _ h) (y_loadS rfl rfl rfl (by first | exact .head _ | exact .tail _ (.head _) | exact .tail _ (.tail _ (.head _)) | exact .tail _ (.tail _ (.tail _ (.head _))) | exact .tail _ (.tail _ (.tail _ (.tail _ (.head _)))) | exact .tail _ (.tail _ (.tail _ (.tail _ (.tail _ (.head _))))) | exact .tail _ (.tail _ (.tail _ (.tail _ (.tail _ (.tail _ (.head _)))))) | exact .tail _ (.tail _ (.tail _ (.tail _ (.tail _ (.tail _ (.tail _ (.head _)))))))) rfl Tryd.underlying37 rfl (by kernel_rfl)) hS ?_ ?_
  rotate_left
  · simp only [Act.put, List.setIfInBounds_toArray, List.set_cons_zero, List.set_cons_succ]
    rfl
  refine take_ (i := 1) (N := some 64) (a' := ?_) (v := .slice (some ⟨kb, ko, none⟩) kl kc) #[true, true, false, false, false, false, false, false, false, false, false, false, false, false, false, false, false] rfl rfl (by kernel_rfl) (by first | exact fun _ _ _ h => h | exact fun _ _ _ h => hP _ _ _ _ _ h) (Or.inl ⟨by rfl, fun w' _ => by go_simp⟩) hS ?_ ?_
  rotate_left
  · simp only [Act.put, List.setIfInBounds_toArray, List.set_cons_zero, List.set_cons_succ]
    rfl
  refine take_ (i := 2) (N := some 65) (a' := ?_) (v := .int .i64 kk) #[true, true, true, false, false, false, false, false, false, false, false, false, false, false, false, false, false] rfl rfl (by kernel_rfl) (by first | exact fun _ _ _ h => h | exact fun _ _ _ h => hP _ _ _ _ _ h) (Or.inl ⟨by rfl, fun w' _ => by go_simp⟩) hS ?_ ?_
  rotate_left
  · simp only [Act.put, List.setIfInBounds_toArray, List.set_cons_zero, List.set_cons_succ]
    rfl
  refine take_ (i := 3) (N := some 66) (a' := ?_) (v := .pointer (some ⟨kb, ko + kk, none⟩)) #[true, true, true, true, false, false, false, false, false, false, false, false, false, false, false, false, false] rfl rfl (by kernel_rfl) (by first | exact fun _ _ _ h => h | exact fun _ _ _ h => hP _ _ _ _ _ h) (Or.inl ⟨by rfl, fun w' _ => by go_simp⟩) hS ?_ ?_
  rotate_left
  · simp only [Act.put, List.setIfInBounds_toArray, List.set_cons_zero, List.set_cons_succ]
    rfl
  refine take_ (i := 4) (N := some 67) (a' := ?_) (v := .int .i64 key) #[true, true, true, true, true, false, false, false, false, false, false, false, false, false, false, false, false] rfl rfl (by kernel_rfl) (by first | exact fun _ _ _ h => h | exact fun _ _ _ h => hP _ _ _ _ _ h) (y_any rfl rfl rfl (fun W hW => load_one Tryd.underlying3 rfl (HKC.out W hW.below))) hS ?_ ?_
  rotate_left
  · simp only [Act.put, List.setIfInBounds_toArray, List.set_cons_zero, List.set_cons_succ]
    rfl
  refine take_ (i := 5) (N := some 68) (a' := ?_) (v := .slice (some ⟨g, 0, none⟩) 6 6) #[true, true, true, true, true, true, false, false, false, false, false, false, false, false, false, false, false] rfl rfl (by kernel_rfl) (by first | exact fun _ _ _ h => h | exact fun _ _ _ h => hP _ _ _ _ _ h) (Or.inl ⟨by rfl, fun w' _ => by go_simp⟩) hS ?_ ?_
  rotate_left
  · simp only [Act.put, List.setIfInBounds_toArray, List.set_cons_zero, List.set_cons_succ]
    rfl
  refine take_ (i := 6) (N := some 69) (a' := ?_) (v := .int .i64 j) #[true, true, true, true, true, true, true, false, false, false, false, false, false, false, false, false, false] rfl rfl (by kernel_rfl) (by first | exact fun _ _ _ h => h | exact fun _ _ _ h => hP _ _ _ _ _ h) (Or.inl ⟨by rfl, fun w' _ => by go_simp⟩) hS ?_ ?_
  rotate_left
  · simp only [Act.put, List.setIfInBounds_toArray, List.set_cons_zero, List.set_cons_succ]
    rfl
  refine take_ (i := 7) (N := some 70) (a' := ?_) (v := .pointer (some ⟨g, j, none⟩)) #[true, true, true, true, true, true, true, true, false, false, false, false, false, false, false, false, false] rfl rfl (by kernel_rfl) (by first | exact fun _ _ _ h => h | exact fun _ _ _ h => hP _ _ _ _ _ h) (Or.inl ⟨by rfl, fun w' _ => by go_simp⟩) hS ?_ ?_
  rotate_left
  · simp only [Act.put, List.setIfInBounds_toArray, List.set_cons_zero, List.set_cons_succ]
    rfl
  refine take_ (i := 8) (N := some 71) (a' := ?_) (v := .int .i64 nj) #[true, true, true, true, true, true, true, true, true, false, false, false, false, false, false, false, false] rfl rfl (by kernel_rfl) (by first | exact fun _ _ _ h => h | exact fun _ _ _ h => hP _ _ _ _ _ h) (y_load rfl rfl rfl (by first | exact .head _ | exact .tail _ (.head _) | exact .tail _ (.tail _ (.head _)) | exact .tail _ (.tail _ (.tail _ (.head _))) | exact .tail _ (.tail _ (.tail _ (.tail _ (.head _)))) | exact .tail _ (.tail _ (.tail _ (.tail _ (.tail _ (.head _))))) | exact .tail _ (.tail _ (.tail _ (.tail _ (.tail _ (.tail _ (.head _)))))) | exact .tail _ (.tail _ (.tail _ (.tail _ (.tail _ (.tail _ (.tail _ (.head _)))))))) HJ.out (by first | exact Tryd.underlying3 | exact Tryd.underlying4 | exact Tryd.underlying9 | exact Tryd.underlying28 | exact Tryd.underlying35) rfl) hS ?_ ?_
  rotate_left
  · simp only [Act.put, List.setIfInBounds_toArray, List.set_cons_zero, List.set_cons_succ]
    rfl
  refine take_ (i := 9) (N := some 72) (a' := ?_) (v := .int .i64 mv) #[true, true, true, true, true, true, true, true, true, true, false, false, false, false, false, false, false] rfl rfl (by kernel_rfl) (by first | exact fun _ _ _ h => h | exact fun _ _ _ h => hP _ _ _ _ _ h) (Or.inl ⟨by rfl, fun w' _ => by go_simp⟩) hS ?_ ?_
  rotate_left
  · simp only [Act.put, List.setIfInBounds_toArray, List.set_cons_zero, List.set_cons_succ]
    rfl
  refine two_ (i := 10) (j := 14) (Ni := some 73) (Nj := some 11) #[true, true, true, true, true, true, true, true, true, true, true, false, false, false, false, false, false] #[true, true, true, true, true, true, true, true, true, true, false, false, false, false, true, false, false] rfl rfl rfl rfl (by kernel_rfl) (by decide) (by decide) (fun K hK => ?_) (fun K hK => ?_)
  · refine goes_ Tryd.func24 (by kernel_rfl) rfl #[.agg (scrL s mi oi ti).toArray, .int .i64 key, .int .i64 nj, .int .i64 mv] (by rfl) rfl rfl (by simp only [List.map_toArray, List.map_cons, List.map_nil]; rfl) ?_
    refine (HMV.out _ (Below.refl _ _).drew).mono ?_
    rintro e w4 ⟨A1, k1, A2, k2, A3, k3, rfl, hO, hB⟩
    have HO := hid hO
    have HB := hid ((Below.refl _ _).drew.trans hB)
    refine ⟨_, rfl, hK.out _ _ (hS.call hB) (fun hS2 => ?_)⟩
    clear hK K hO hB hS
    have hS := hS2
    clear hS2
    refine norm_ (a' := ?_) ?_ ?_
    rotate_left
    · simp only [Act.put, List.setIfInBounds_toArray, List.set_cons_zero, List.set_cons_succ]
      rfl
    refine take_ (i := 11) (N := some 62) (a' := ?_) (v := .tuple #[.agg (scrL R (.slice A1 R.ms.length k1) (.slice A2 R.os.length k2) (.slice A3 R.tabs.length k3)).toArray, .int .i64 ec]) #[true, true, true, true, true, true, true, true, true, true, true, true, false, false, false, false, false] rfl rfl (by kernel_rfl) (by first | exact fun _ _ _ h => h | exact fun _ _ _ h => hP _ _ _ _ _ h) (Or.inl ⟨by rfl, fun w' _ => by go_simp⟩) hS ?_ ?_
    rotate_left
    · simp only [Act.put, List.setIfInBounds_toArray, List.set_cons_zero, List.set_cons_succ]
      rfl
    refine take_ (i := 12) (N := some 74) (a' := ?_) (v := .agg (scrL R (.slice A1 R.ms.length k1) (.slice A2 R.os.length k2) (.slice A3 R.tabs.length k3)).toArray) #[true, true, true, true, true, true, true, true, true, true, true, true, true, false, false, false, false] rfl rfl (by kernel_rfl) (by first | exact fun _ _ _ h => h | exact fun _ _ _ h => hP _ _ _ _ _ h) (Or.inl ⟨by rfl, fun w' _ => by go_simp⟩) hS ?_ ?_
    rotate_left
    · simp only [Act.put, List.setIfInBounds_toArray, List.set_cons_zero, List.set_cons_succ]
      rfl
    refine pure_ (i := 13) (N := some 75) (a' := ?_) (v := .int .i64 ec) #[true, true, true, true, true, true, true, true, true, true, true, true, true, true, false, false, false] rfl rfl (by kernel_rfl) (by first | exact fun _ _ _ h => h | exact fun _ _ _ h => hP _ _ _ _ _ h) (Or.inl ⟨by rfl, fun w' => by go_simp⟩) ?_ ?_
    rotate_left
    · simp only [Act.put, List.setIfInBounds_toArray, List.set_cons_zero, List.set_cons_succ]
      rfl
    refine one_ (i := 14) (N := some 11) #[true, true, true, true, true, true, true, true, true, true, true, true, true, true, true, false, false] rfl rfl (by kernel_rfl) (by decide) (fun K hK => ?_)
    refine y_alloc hS rfl rfl rfl info_zS (fun bx w5 hbx hB5 hM5 => hK.out _ _ (hS.call hB5) (fun hS2 => ?_))
    clear hK K hS hS2
    refine norm_ (a' := ?_) ?_ ?_
    rotate_left
    · simp only [Act.put, List.setIfInBounds_toArray, List.set_cons_zero, List.set_cons_succ]
      rfl
    refine last_ (i := 15) (N := none) #[true, true, true, true, true, true, true, true, true, true, true, true, true, true, true, true, false] rfl rfl (by kernel_rfl) (by decide) (fun K hK => ?_)
    refine y_storeA hM5 rfl rfl rfl rfl 0 rfl rfl rfl (by kernel_rfl) rfl (fun w6 hM6 hg => hK.out _ _ ?_)
    clear hK K
    refine pure_ (i := 16) (N := some 12) (a' := ?_) (v := .int .i64 ec) #[true, true, true, true, true, true, true, true, true, true, true, true, true, true, true, true, true] rfl rfl (by kernel_rfl) (by first | exact fun _ _ _ h => h | exact fun _ _ _ h => hP _ _ _ _ _ h) (Or.inl ⟨by rfl, fun w' => by go_simp⟩) ?_ ?_
    rotate_left
    · simp only [Act.put, List.setIfInBounds_toArray, List.set_cons_zero, List.set_cons_succ]
      rfl
    refine done_ (by kernel_rfl) ?_
    have hO5 := HO.out.below hB5
    exact hQ w6 bx _ _ _ _ _ _ _ _ _ _ _ _ _ _ _ _ _ _ _ hM6 ⟨hO5.hm.kept hg (own_lt HO.out.hm hbx), hO5.ho.kept hg (own_lt HO.out.ho hbx), hO5.ht.kept hg (own_lt HO.out.ht hbx), hO5.mo, hO5.mt, hO5.ot⟩ (below_of_grown (HB.out.trans (hB5.mono HB.out.size)) hg (fun q hq => by cases hq; have := HB.out.size; omega))
  · refine y_alloc hS rfl rfl rfl info_zS (fun bx w4 hbx hB4 hM4 => hK.out _ _ (hS.call hB4) (fun hS2 => ?_))
    clear hK K hS
    have hS := hS2
    have HB4 := hid ((Below.refl _ _).drew.trans hB4)
    clear hS2
    refine norm_ (a' := ?_) ?_ ?_
    rotate_left
    · simp only [Act.put, List.setIfInBounds_toArray, List.set_cons_zero, List.set_cons_succ]
      rfl
    refine one_ (i := 10) (N := some 73) #[true, true, true, true, true, true, true, true, true, true, true, false, false, false, true, false, false] rfl rfl (by kernel_rfl) (by decide) (fun K hK => ?_)
    refine goes_ Tryd.func24 (by kernel_rfl) rfl #[.agg (scrL s mi oi ti).toArray, .int .i64 key, .int .i64 nj, .int .i64 mv] (by rfl) rfl rfl (by simp only [List.map_toArray, List.map_cons, List.map_nil]; rfl) ?_
    refine (HMV.out _ HB4.out).mono ?_
    rintro e w5 ⟨A1, k1, A2, k2, A3, k3, rfl, hO, hB⟩
    have HO := hid hO
    have hM5 := hM4.call hB
    refine ⟨_, rfl, hK.out _ _ (hS.call hB) (fun hS2 => ?_)⟩
    clear hK K hO hS
    have hS := hS2
    clear hS2
    refine norm_ (a' := ?_) ?_ ?_
    rotate_left
    · simp only [Act.put, List.setIfInBounds_toArray, List.set_cons_zero, List.set_cons_succ]
      rfl
    refine take_ (i := 11) (N := some 62) (a' := ?_) (v := .tuple #[.agg (scrL R (.slice A1 R.ms.length k1) (.slice A2 R.os.length k2) (.slice A3 R.tabs.length k3)).toArray, .int .i64 ec]) #[true, true, true, true, true, true, true, true, true, true, true, true, false, false, true, false, false] rfl rfl (by kernel_rfl) (by first | exact fun _ _ _ h => h | exact fun _ _ _ h => hP _ _ _ _ _ h) (Or.inl ⟨by rfl, fun w' _ => by go_simp⟩) hS ?_ ?_
    rotate_left
    · simp only [Act.put, List.setIfInBounds_toArray, List.set_cons_zero, List.set_cons_succ]
      rfl
    refine take_ (i := 12) (N := some 74) (a' := ?_) (v := .agg (scrL R (.slice A1 R.ms.length k1) (.slice A2 R.os.length k2) (.slice A3 R.tabs.length k3)).toArray) #[true, true, true, true, true, true, true, true, true, true, true, true, true, false, true, false, false] rfl rfl (by kernel_rfl) (by first | exact fun _ _ _ h => h | exact fun _ _ _ h => hP _ _ _ _ _ h) (Or.inl ⟨by rfl, fun w' _ => by go_simp⟩) hS ?_ ?_
    rotate_left
    · simp only [Act.put, List.setIfInBounds_toArray, List.set_cons_zero, List.set_cons_succ]
      rfl
    refine pure_ (i := 13) (N := some 75) (a' := ?_) (v := .int .i64 ec) #[true, true, true, true, true, true, true, true, true, true, true, true, true, true, true, false, false] rfl rfl (by kernel_rfl) (by first | exact fun _ _ _ h => h | exact fun _ _ _ h => hP _ _ _ _ _ h) (Or.inl ⟨by rfl, fun w' => by go_simp⟩) ?_ ?_
    rotate_left
    · simp only [Act.put, List.setIfInBounds_toArray, List.set_cons_zero, List.set_cons_succ]
      rfl
    refine last_ (i := 15) (N := none) #[true, true, true, true, true, true, true, true, true, true, true, true, true, true, true, true, false] rfl rfl (by kernel_rfl) (by decide) (fun K hK => ?_)
    refine y_storeA hM5 rfl rfl rfl rfl 0 rfl rfl rfl (by kernel_rfl) rfl (fun w6 hM6 hg => hK.out _ _ ?_)
    clear hK K
    refine pure_ (i := 16) (N := some 12) (a' := ?_) (v := .int .i64 ec) #[true, true, true, true, true, true, true, true, true, true, true, true, true, true, true, true, true] rfl rfl (by kernel_rfl) (by first | exact fun _ _ _ h => h | exact fun _ _ _ h => hP _ _ _ _ _ h) (Or.inl ⟨by rfl, fun w' => by go_simp⟩) ?_ ?_
    rotate_left
    · simp only [Act.put, List.setIfInBounds_toArray, List.set_cons_zero, List.set_cons_succ]
      rfl
    refine done_ (by kernel_rfl) ?_
    have hlt4 : bx < w4.heap.size := hM4.lt (.head _)
    have hz4 := HB4.out.size
    have hO5 := HO.out
    have hne : ∀ (x : Value) (nn : Nat) (ee : TypeId) (q : Nat) (xs : List Value), w5.ownsRow w4.heap.size ee q x nn xs → x.ownBlock = none ∨ x.ownBlock ≠ some bx := fun x nn ee q xs hx => .inr fun e => by have := (hx.lt bx e).1; omega
    have hlow : w4.heap.size ≤ w5.heap.size := hB.size
    exact hQ w6 bx _ _ _ _ _ _ _ _ _ _ _ _ _ _ _ _ _ _ _ hM6 ⟨OwnC.lower (hO5.hm.kept hg (hne _ _ _ _ _ hO5.hm)) hz4, OwnC.lower (hO5.ho.kept hg (hne _ _ _ _ _ hO5.ho)) hz4, ownB_lower (w' := wr) (hO5.ht.kept hg (hne _ _ _ _ _ hO5.ht)) hz4, hO5.mo, hO5.mt, hO5.ot⟩ (below_of_grown (HB4.out.trans (hB.mono HB4.out.size)) hg (fun q hq => by cases hq; have : wr.drew.heap.size = wr.heap.size := rfl; omega))
end Go.Proofs.YtbjckahaalbpaaaDoor
