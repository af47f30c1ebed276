/- Where the cursor may come to: the law's statements, each a theorem of its own. -/
import Derived.Test.YtbjckahaalbpaaaDoorRange
set_option linter.unusedVariables false
set_option linter.unusedSimpArgs false
set_option linter.unnecessarySimpa false
namespace Go.Proofs.YtbjckahaalbpaaaDoor
open Go Go.RowKit Go.Proofs.YtbjckahaalbpaaaDoorW.PrintLast

noncomputable def wreg (n : Nat) : Code := ((Tryd.f19.body.bind (findRegion n)).getD .skip)
def kV : List Value := [.int .i64 65, .int .i64 66, .int .i64 67, .int .i64 68, .int .i64 69, .int .i64 70, .int .i64 71, .int .i64 100, .int .i64 72, .int .i64 73, .int .i64 90]
theorem kV_at (j : Nat) (hj : j < 11) : ∃ key, kV[j]? = some (.int .i64 key) ∧ moveKey key = true := by
  match j, hj with
  | 0, _ => exact ⟨_, rfl, rfl⟩
  | 1, _ => exact ⟨_, rfl, rfl⟩
  | 2, _ => exact ⟨_, rfl, rfl⟩
  | 3, _ => exact ⟨_, rfl, rfl⟩
  | 4, _ => exact ⟨_, rfl, rfl⟩
  | 5, _ => exact ⟨_, rfl, rfl⟩
  | 6, _ => exact ⟨_, rfl, rfl⟩
  | 7, _ => exact ⟨_, rfl, rfl⟩
  | 8, _ => exact ⟨_, rfl, rfl⟩
  | 9, _ => exact ⟨_, rfl, rfl⟩
  | 10, _ => exact ⟨_, rfl, rfl⟩
set_option maxRecDepth 100000 in
set_option maxHeartbeats 4000000 in
/-- the program's answer -/
theorem wreg12_is {v m0 o0 t0 : Value} {n m k r key ec : Int} {s R : Scr} {w wr : World} {b g bs kk : Nat} {Q : Exit → Act → World → Prop} (hM : Mem w wr [(bs, Row 37 (scrL s m0 o0 t0)), (g, Row 3 kV), (b, Row 24 (askL v n m k r))]) (hkk : kk < 11) (hkey : kV[kk]? = some (.int .i64 key))
    (hmv : ∀ W, Below wr.heap.size wr W → MoveOut s m0 o0 t0 key (withinZ n 10000) (withinZ m 60) R ec W)
    (hP : ∀ c a (d : Tmp) v w, Q (.panic c) (Act.put a (some d) v) w → Q (.panic c) a w) (u0 u2 u4 u7 u8 u9 u10 u11 u12 u13 u14 u15 u16 u17 u18 u19 u20 u21 u22 u23 u24 u25 u26 u27 u28 u29 u30 u31 u32 u33 u34 u35 u36 u37 u38 u39 u40 u41 u42 u43 u44 u45 u46 u47 u48 u49 u50 u51 u52 u53 u54 u55 u56 u57 u58 u59 u60 u61 u62 u63 u64 u65 u66 u67 u68 u69 u70 u71 u72 u73 u74 u75 u76 u77 u78 u79 u80 u81 u82 u83 u84 u85 u86 u87 u88 u89 : Value)
    (hQ : ∀ w' bx A1 k1 A2 k2 A3 k3 (v37 v38 v39 v40 v41 v42 v43 v44 v45 v46 v47 v48 v49 v50 v51 : Value), Mem w w' ((bx, Row 37 (scrL R (.slice A1 R.ms.length k1) (.slice A2 R.os.length k2) (.slice A3 R.tabs.length k3))) :: [(bs, Row 37 (scrL s m0 o0 t0)), (g, Row 3 kV), (b, Row 24 (askL v n m k r))]) →
      OwnScr w' wr.heap.size R (.slice A1 R.ms.length k1) (.slice A2 R.os.length k2) (.slice A3 R.tabs.length k3) → Below wr.heap.size wr w' →
      Q .normal ⟨#[u0, .pointer (some ⟨b, 0, none⟩), u2, .slice (some ⟨g, 0, none⟩) 11 11, u4, .pointer (some ⟨bs, 0, none⟩), .int .i64 kk, .pointer (some ⟨bx, 0, none⟩), .int .i64 ec, u9, u10, u11, u12, u13, u14, u15, u16, u17, u18, u19, u20, u21, u22, u23, u24, u25, u26, u27, u28, u29, u30, u31, u32, u33, u34, u35, u36, v37, v38, v39, v40, v41, v42, v43, v44, v45, v46, v47, v48, v49, v50, v51, u52, u53, u54, u55, u56, u57, u58, u59, u60, u61, u62, u63, u64, u65, u66, u67, u68, u69, u70, u71, u72, u73, u74, u75, u76, u77, u78, u79, u80, u81, u82, u83, u84, u85, u86, u87, u88, u89], []⟩ w') :
    Code.wp Tryd.prog (wreg 12) Q ⟨#[u0, .pointer (some ⟨b, 0, none⟩), u2, .slice (some ⟨g, 0, none⟩) 11 11, u4, .pointer (some ⟨bs, 0, none⟩), .int .i64 kk, u7, u8, u9, u10, u11, u12, u13, u14, u15, u16, u17, u18, u19, u20, u21, u22, u23, u24, u25, u26, u27, u28, u29, u30, u31, u32, u33, u34, u35, u36, u37, u38, u39, u40, u41, u42, u43, u44, u45, u46, u47, u48, u49, u50, u51, u52, u53, u54, u55, u56, u57, u58, u59, u60, u61, u62, u63, u64, u65, u66, u67, u68, u69, u70, u71, u72, u73, u74, u75, u76, u77, u78, u79, u80, u81, u82, u83, u84, u85, u86, u87, u88, u89], []⟩ wr := by
  have HM := hid hM
  have HMV := hid hmv
  have HKEY := hid hkey
  have hkk2 : (kk : Int) < 11 := by omega
  clear hM hmv hkey
  conv => arg 2; whnf
  refine start_ (n := 18) (S := fun W => Mem w W [(bs, Row 37 (scrL s m0 o0 t0)), (g, Row 3 kV), (b, Row 24 (askL v n m k r))]) (ds := [16]) #[false, false, false, false, false, false, false, false, false, false, false, false, false, false, false, false, false, false] (by kernel_rfl) rfl rfl HM.out.drew (fun hS => ?_)
  refine take_ (i := 0) (N := some 38) (a' := ?_) (v := .agg (scrL s m0 o0 t0).toArray) #[true, false, false, false, false, false, false, false, false, false, false, false, false, false, false, false, false, false] rfl rfl (by kernel_rfl) (by first | exact fun _ _ _ h => h | exact fun _ _ _ h => hP _ _ _ _ _ h) (y_loadS rfl rfl rfl (by first | exact .head _ | exact .tail _ (.head _) | exact .tail _ (.tail _ (.head _)) | exact .tail _ (.tail _ (.tail _ (.head _))) | exact .tail _ (.tail _ (.tail _ (.tail _ (.head _)))) | exact .tail _ (.tail _ (.tail _ (.tail _ (.tail _ (.head _))))) | exact .tail _ (.tail _ (.tail _ (.tail _ (.tail _ (.tail _ (.head _)))))) | exact .tail _ (.tail _ (.tail _ (.tail _ (.tail _ (.tail _ (.tail _ (.head _)))))))) rfl Tryd.underlying37 rfl (by kernel_rfl)) hS ?_ ?_
  rotate_left
  · simp only [Act.put, List.setIfInBounds_toArray, List.set_cons_zero, List.set_cons_succ]
    rfl
  refine take_ (i := 1) (N := some 39) (a' := ?_) (v := .slice (some ⟨g, 0, none⟩) 11 11) #[true, true, false, false, false, false, false, false, false, false, false, false, false, false, false, false, false, false] rfl rfl (by kernel_rfl) (by first | exact fun _ _ _ h => h | exact fun _ _ _ h => hP _ _ _ _ _ h) (Or.inl ⟨by rfl, fun w' _ => by go_simp⟩) hS ?_ ?_
  rotate_left
  · simp only [Act.put, List.setIfInBounds_toArray, List.set_cons_zero, List.set_cons_succ]
    rfl
  refine take_ (i := 2) (N := some 40) (a' := ?_) (v := .int .i64 kk) #[true, true, true, false, false, false, false, false, false, false, false, false, false, false, false, false, false, false] rfl rfl (by kernel_rfl) (by first | exact fun _ _ _ h => h | exact fun _ _ _ h => hP _ _ _ _ _ h) (Or.inl ⟨by rfl, fun w' _ => by go_simp⟩) hS ?_ ?_
  rotate_left
  · simp only [Act.put, List.setIfInBounds_toArray, List.set_cons_zero, List.set_cons_succ]
    rfl
  refine take_ (i := 3) (N := some 41) (a' := ?_) (v := .pointer (some ⟨g, kk, none⟩)) #[true, true, true, true, false, false, false, false, false, false, false, false, false, false, false, false, false, false] rfl rfl (by kernel_rfl) (by first | exact fun _ _ _ h => h | exact fun _ _ _ h => hP _ _ _ _ _ h) (Or.inl ⟨by rfl, fun w' _ => by go_simp⟩) hS ?_ ?_
  rotate_left
  · simp only [Act.put, List.setIfInBounds_toArray, List.set_cons_zero, List.set_cons_succ]
    rfl
  refine take_ (i := 4) (N := some 42) (a' := ?_) (v := .int .i64 key) #[true, true, true, true, true, false, false, false, false, false, false, false, false, false, false, false, false, false] rfl rfl (by kernel_rfl) (by first | exact fun _ _ _ h => h | exact fun _ _ _ h => hP _ _ _ _ _ h) (y_load rfl rfl rfl (by first | exact .head _ | exact .tail _ (.head _) | exact .tail _ (.tail _ (.head _)) | exact .tail _ (.tail _ (.tail _ (.head _))) | exact .tail _ (.tail _ (.tail _ (.tail _ (.head _)))) | exact .tail _ (.tail _ (.tail _ (.tail _ (.tail _ (.head _))))) | exact .tail _ (.tail _ (.tail _ (.tail _ (.tail _ (.tail _ (.head _)))))) | exact .tail _ (.tail _ (.tail _ (.tail _ (.tail _ (.tail _ (.tail _ (.head _)))))))) HKEY.out (by first | exact Tryd.underlying3 | exact Tryd.underlying4 | exact Tryd.underlying9 | exact Tryd.underlying28 | exact Tryd.underlying35) rfl) hS ?_ ?_
  rotate_left
  · simp only [Act.put, List.setIfInBounds_toArray, List.set_cons_zero, List.set_cons_succ]
    rfl
  refine take_ (i := 5) (N := some 43) (a' := ?_) (v := .pointer (some ⟨b, 1, none⟩)) #[true, true, true, true, true, true, false, false, false, false, false, false, false, false, false, false, false, false] rfl rfl (by kernel_rfl) (by first | exact fun _ _ _ h => h | exact fun _ _ _ h => hP _ _ _ _ _ h) (Or.inl ⟨by rfl, fun w' _ => by go_simp⟩) hS ?_ ?_
  rotate_left
  · simp only [Act.put, List.setIfInBounds_toArray, List.set_cons_zero, List.set_cons_succ]
    rfl
  refine take_ (i := 6) (N := some 44) (a' := ?_) (v := .int .i64 n) #[true, true, true, true, true, true, true, false, false, false, false, false, false, false, false, false, false, false] rfl rfl (by kernel_rfl) (by first | exact fun _ _ _ h => h | exact fun _ _ _ h => hP _ _ _ _ _ h) (y_load rfl rfl rfl (by first | exact .head _ | exact .tail _ (.head _) | exact .tail _ (.tail _ (.head _)) | exact .tail _ (.tail _ (.tail _ (.head _))) | exact .tail _ (.tail _ (.tail _ (.tail _ (.head _)))) | exact .tail _ (.tail _ (.tail _ (.tail _ (.tail _ (.head _))))) | exact .tail _ (.tail _ (.tail _ (.tail _ (.tail _ (.tail _ (.head _)))))) | exact .tail _ (.tail _ (.tail _ (.tail _ (.tail _ (.tail _ (.tail _ (.head _)))))))) rfl (by first | exact Tryd.underlying3 | exact Tryd.underlying4 | exact Tryd.underlying9 | exact Tryd.underlying28 | exact Tryd.underlying35) rfl) hS ?_ ?_
  rotate_left
  · simp only [Act.put, List.setIfInBounds_toArray, List.set_cons_zero, List.set_cons_succ]
    rfl
  refine take_ (i := 8) (N := some 46) (a' := ?_) (v := .pointer (some ⟨b, 2, none⟩)) #[true, true, true, true, true, true, true, false, true, false, false, false, false, false, false, false, false, false] rfl rfl (by kernel_rfl) (by first | exact fun _ _ _ h => h | exact fun _ _ _ h => hP _ _ _ _ _ h) (Or.inl ⟨by rfl, fun w' _ => by go_simp⟩) hS ?_ ?_
  rotate_left
  · simp only [Act.put, List.setIfInBounds_toArray, List.set_cons_zero, List.set_cons_succ]
    rfl
  refine take_ (i := 9) (N := some 47) (a' := ?_) (v := .int .i64 m) #[true, true, true, true, true, true, true, false, true, true, false, false, false, false, false, false, false, false] rfl rfl (by kernel_rfl) (by first | exact fun _ _ _ h => h | exact fun _ _ _ h => hP _ _ _ _ _ h) (y_load rfl rfl rfl (by first | exact .head _ | exact .tail _ (.head _) | exact .tail _ (.tail _ (.head _)) | exact .tail _ (.tail _ (.tail _ (.head _))) | exact .tail _ (.tail _ (.tail _ (.tail _ (.head _)))) | exact .tail _ (.tail _ (.tail _ (.tail _ (.tail _ (.head _))))) | exact .tail _ (.tail _ (.tail _ (.tail _ (.tail _ (.tail _ (.head _)))))) | exact .tail _ (.tail _ (.tail _ (.tail _ (.tail _ (.tail _ (.tail _ (.head _)))))))) rfl (by first | exact Tryd.underlying3 | exact Tryd.underlying4 | exact Tryd.underlying9 | exact Tryd.underlying28 | exact Tryd.underlying35) rfl) hS ?_ ?_
  rotate_left
  · simp only [Act.put, List.setIfInBounds_toArray, List.set_cons_zero, List.set_cons_succ]
    rfl
  refine two_ (i := 7) (j := 15) (Ni := some 45) (Nj := some 7) #[true, true, true, true, true, true, true, true, true, true, false, false, false, false, false, false, false, false] #[true, true, true, true, true, true, true, false, true, true, false, false, false, false, false, true, false, false] rfl rfl rfl rfl (by kernel_rfl) (by decide) (by decide) (fun K hK => ?_) (fun K hK => ?_)
  · refine goes_ Tryd.func25 (by kernel_rfl) rfl #[.int .i64 n, .int .i64 10000] (by rfl) rfl rfl (by simp only [List.map_toArray, List.map_cons, List.map_nil]; rfl) ?_
    refine (withinN_any n 10000 _ (by decide) (by decide)).mono ?_
    rintro e w7 ⟨rfl, rfl⟩
    refine ⟨_, rfl, hK.out _ _ hS (fun hS2 => ?_)⟩
    clear hK K hS2
    refine norm_ (a' := ?_) ?_ ?_
    rotate_left
    · simp only [Act.put, List.setIfInBounds_toArray, List.set_cons_zero, List.set_cons_succ]
      rfl
    refine two_ (i := 10) (j := 15) (Ni := some 48) (Nj := some 7) #[true, true, true, true, true, true, true, true, true, true, true, false, false, false, false, false, false, false] #[true, true, true, true, true, true, true, true, true, true, false, false, false, false, false, true, false, false] rfl rfl rfl rfl (by kernel_rfl) (by decide) (by decide) (fun K hK => ?_) (fun K hK => ?_)
    · refine goes_ Tryd.func25 (by kernel_rfl) rfl #[.int .i64 m, .int .i64 60] (by rfl) rfl rfl (by simp only [List.map_toArray, List.map_cons, List.map_nil]; rfl) ?_
      refine (withinN_any m 60 _ (by decide) (by decide)).mono ?_
      rintro e w8 ⟨rfl, rfl⟩
      refine ⟨_, rfl, hK.out _ _ hS (fun hS2 => ?_)⟩
      clear hK K hS2
      refine norm_ (a' := ?_) ?_ ?_
      rotate_left
      · simp only [Act.put, List.setIfInBounds_toArray, List.set_cons_zero, List.set_cons_succ]
        rfl
      refine two_ (i := 11) (j := 15) (Ni := some 49) (Nj := some 7) #[true, true, true, true, true, true, true, true, true, true, true, true, false, false, false, false, false, false] #[true, true, true, true, true, true, true, true, true, true, true, false, false, false, false, true, false, false] rfl rfl rfl rfl (by kernel_rfl) (by decide) (by decide) (fun K hK => ?_) (fun K hK => ?_)
      · refine goes_ Tryd.func24 (by kernel_rfl) rfl #[.agg (scrL s m0 o0 t0).toArray, .int .i64 key, .int .i64 (withinZ n 10000), .int .i64 (withinZ m 60)] (by rfl) rfl rfl (by simp only [List.map_toArray, List.map_cons, List.map_nil]; rfl) ?_
        refine (HMV.out _ (Below.refl _ _).drew).mono ?_
        rintro e w4 ⟨A1, k1, A2, k2, A3, k3, rfl, hO, hB⟩
        have HO := hid hO
        have HB := hid ((Below.refl _ _).drew.trans hB)
        refine ⟨_, rfl, hK.out _ _ (hS.call hB) (fun hS2 => ?_)⟩
        clear hK K hO hB hS
        have hS := hS2
        clear hS2
        refine norm_ (a' := ?_) ?_ ?_
        rotate_left
        · simp only [Act.put, List.setIfInBounds_toArray, List.set_cons_zero, List.set_cons_succ]
          rfl
        refine take_ (i := 12) (N := some 37) (a' := ?_) (v := .tuple #[.agg (scrL R (.slice A1 R.ms.length k1) (.slice A2 R.os.length k2) (.slice A3 R.tabs.length k3)).toArray, .int .i64 ec]) #[true, true, true, true, true, true, true, true, true, true, true, true, true, false, false, false, false, false] rfl rfl (by kernel_rfl) (by first | exact fun _ _ _ h => h | exact fun _ _ _ h => hP _ _ _ _ _ h) (Or.inl ⟨by rfl, fun w' _ => by go_simp⟩) hS ?_ ?_
        rotate_left
        · simp only [Act.put, List.setIfInBounds_toArray, List.set_cons_zero, List.set_cons_succ]
          rfl
        refine take_ (i := 13) (N := some 50) (a' := ?_) (v := .agg (scrL R (.slice A1 R.ms.length k1) (.slice A2 R.os.length k2) (.slice A3 R.tabs.length k3)).toArray) #[true, true, true, true, true, true, true, true, true, true, true, true, true, true, false, false, false, false] rfl rfl (by kernel_rfl) (by first | exact fun _ _ _ h => h | exact fun _ _ _ h => hP _ _ _ _ _ h) (Or.inl ⟨by rfl, fun w' _ => by go_simp⟩) hS ?_ ?_
        rotate_left
        · simp only [Act.put, List.setIfInBounds_toArray, List.set_cons_zero, List.set_cons_succ]
          rfl
        refine pure_ (i := 14) (N := some 51) (a' := ?_) (v := .int .i64 ec) #[true, true, true, true, true, true, true, true, true, true, true, true, true, true, true, false, false, false] rfl rfl (by kernel_rfl) (by first | exact fun _ _ _ h => h | exact fun _ _ _ h => hP _ _ _ _ _ h) (Or.inl ⟨by rfl, fun w' => by go_simp⟩) ?_ ?_
        rotate_left
        · simp only [Act.put, List.setIfInBounds_toArray, List.set_cons_zero, List.set_cons_succ]
          rfl
        refine one_ (i := 15) (N := some 7) #[true, true, true, true, true, true, true, true, true, true, true, true, true, true, true, true, false, false] rfl rfl (by kernel_rfl) (by decide) (fun K hK => ?_)
        refine y_alloc hS rfl rfl rfl info_zS (fun bx w5 hbx hB5 hM5 => hK.out _ _ (hS.call hB5) (fun hS2 => ?_))
        clear hK K hS hS2
        refine norm_ (a' := ?_) ?_ ?_
        rotate_left
        · simp only [Act.put, List.setIfInBounds_toArray, List.set_cons_zero, List.set_cons_succ]
          rfl
        refine last_ (i := 16) (N := none) #[true, true, true, true, true, true, true, true, true, true, true, true, true, true, true, true, true, false] rfl rfl (by kernel_rfl) (by decide) (fun K hK => ?_)
        refine y_storeA hM5 rfl rfl rfl rfl 0 rfl rfl rfl (by kernel_rfl) rfl (fun w6 hM6 hg => hK.out _ _ ?_)
        clear hK K
        refine pure_ (i := 17) (N := some 8) (a' := ?_) (v := .int .i64 ec) #[true, true, true, true, true, true, true, true, true, true, true, true, true, true, true, true, true, true] rfl rfl (by kernel_rfl) (by first | exact fun _ _ _ h => h | exact fun _ _ _ h => hP _ _ _ _ _ h) (Or.inl ⟨by rfl, fun w' => by go_simp⟩) ?_ ?_
        rotate_left
        · simp only [Act.put, List.setIfInBounds_toArray, List.set_cons_zero, List.set_cons_succ]
          rfl
        refine done_ (by kernel_rfl) ?_
        have hO5 := HO.out.below hB5
        exact hQ w6 bx _ _ _ _ _ _ _ _ _ _ _ _ _ _ _ _ _ _ _ _ _ hM6 ⟨hO5.hm.kept hg (own_lt HO.out.hm hbx), hO5.ho.kept hg (own_lt HO.out.ho hbx), hO5.ht.kept hg (own_lt HO.out.ht hbx), hO5.mo, hO5.mt, hO5.ot⟩ (below_of_grown (HB.out.trans (hB5.mono HB.out.size)) hg (fun q hq => by cases hq; have := HB.out.size; omega))
      · refine y_alloc hS rfl rfl rfl info_zS (fun bx w4 hbx hB4 hM4 => hK.out _ _ (hS.call hB4) (fun hS2 => ?_))
        clear hK K hS
        have hS := hS2
        have HB4 := hid ((Below.refl _ _).drew.trans hB4)
        clear hS2
        refine norm_ (a' := ?_) ?_ ?_
        rotate_left
        · simp only [Act.put, List.setIfInBounds_toArray, List.set_cons_zero, List.set_cons_succ]
          rfl
        refine one_ (i := 11) (N := some 49) #[true, true, true, true, true, true, true, true, true, true, true, true, false, false, false, true, false, false] rfl rfl (by kernel_rfl) (by decide) (fun K hK => ?_)
        refine goes_ Tryd.func24 (by kernel_rfl) rfl #[.agg (scrL s m0 o0 t0).toArray, .int .i64 key, .int .i64 (withinZ n 10000), .int .i64 (withinZ m 60)] (by rfl) rfl rfl (by simp only [List.map_toArray, List.map_cons, List.map_nil]; rfl) ?_
        refine (HMV.out _ HB4.out).mono ?_
        rintro e w5 ⟨A1, k1, A2, k2, A3, k3, rfl, hO, hB⟩
        have HO := hid hO
        have hM5 := hM4.call hB
        refine ⟨_, rfl, hK.out _ _ (hS.call hB) (fun hS2 => ?_)⟩
        clear hK K hO hS
        have hS := hS2
        clear hS2
        refine norm_ (a' := ?_) ?_ ?_
        rotate_left
        · simp only [Act.put, List.setIfInBounds_toArray, List.set_cons_zero, List.set_cons_succ]
          rfl
        refine take_ (i := 12) (N := some 37) (a' := ?_) (v := .tuple #[.agg (scrL R (.slice A1 R.ms.length k1) (.slice A2 R.os.length k2) (.slice A3 R.tabs.length k3)).toArray, .int .i64 ec]) #[true, true, true, true, true, true, true, true, true, true, true, true, true, false, false, true, false, false] rfl rfl (by kernel_rfl) (by first | exact fun _ _ _ h => h | exact fun _ _ _ h => hP _ _ _ _ _ h) (Or.inl ⟨by rfl, fun w' _ => by go_simp⟩) hS ?_ ?_
        rotate_left
        · simp only [Act.put, List.setIfInBounds_toArray, List.set_cons_zero, List.set_cons_succ]
          rfl
        refine take_ (i := 13) (N := some 50) (a' := ?_) (v := .agg (scrL R (.slice A1 R.ms.length k1) (.slice A2 R.os.length k2) (.slice A3 R.tabs.length k3)).toArray) #[true, true, true, true, true, true, true, true, true, true, true, true, true, true, false, true, false, false] rfl rfl (by kernel_rfl) (by first | exact fun _ _ _ h => h | exact fun _ _ _ h => hP _ _ _ _ _ h) (Or.inl ⟨by rfl, fun w' _ => by go_simp⟩) hS ?_ ?_
        rotate_left
        · simp only [Act.put, List.setIfInBounds_toArray, List.set_cons_zero, List.set_cons_succ]
          rfl
        refine pure_ (i := 14) (N := some 51) (a' := ?_) (v := .int .i64 ec) #[true, true, true, true, true, true, true, true, true, true, true, true, true, true, true, true, false, false] rfl rfl (by kernel_rfl) (by first | exact fun _ _ _ h => h | exact fun _ _ _ h => hP _ _ _ _ _ h) (Or.inl ⟨by rfl, fun w' => by go_simp⟩) ?_ ?_
        rotate_left
        · simp only [Act.put, List.setIfInBounds_toArray, List.set_cons_zero, List.set_cons_succ]
          rfl
        refine last_ (i := 16) (N := none) #[true, true, true, true, true, true, true, true, true, true, true, true, true, true, true, true, true, false] rfl rfl (by kernel_rfl) (by decide) (fun K hK => ?_)
        refine y_storeA hM5 rfl rfl rfl rfl 0 rfl rfl rfl (by kernel_rfl) rfl (fun w6 hM6 hg => hK.out _ _ ?_)
        clear hK K
        refine pure_ (i := 17) (N := some 8) (a' := ?_) (v := .int .i64 ec) #[true, true, true, true, true, true, true, true, true, true, true, true, true, true, true, true, true, true] rfl rfl (by kernel_rfl) (by first | exact fun _ _ _ h => h | exact fun _ _ _ h => hP _ _ _ _ _ h) (Or.inl ⟨by rfl, fun w' => by go_simp⟩) ?_ ?_
        rotate_left
        · simp only [Act.put, List.setIfInBounds_toArray, List.set_cons_zero, List.set_cons_succ]
          rfl
        refine done_ (by kernel_rfl) ?_
        have hlt4 : bx < w4.heap.size := hM4.lt (.head _)
        have hz4 := HB4.out.size
        have hO5 := HO.out
        have hne : ∀ (x : Value) (nn : Nat) (ee : TypeId) (q : Nat) (xs : List Value), w5.ownsRow w4.heap.size ee q x nn xs → x.ownBlock = none ∨ x.ownBlock ≠ some bx := fun x nn ee q xs hx => .inr fun e => by have := (hx.lt bx e).1; omega
        have hlow : w4.heap.size ≤ w5.heap.size := hB.size
        exact hQ w6 bx _ _ _ _ _ _ _ _ _ _ _ _ _ _ _ _ _ _ _ _ _ hM6 ⟨OwnC.lower (hO5.hm.kept hg (hne _ _ _ _ _ hO5.hm)) hz4, OwnC.lower (hO5.ho.kept hg (hne _ _ _ _ _ hO5.ho)) hz4, ownB_lower (w' := wr) (hO5.ht.kept hg (hne _ _ _ _ _ hO5.ht)) hz4, hO5.mo, hO5.mt, hO5.ot⟩ (below_of_grown (HB4.out.trans (hB.mono HB4.out.size)) hg (fun q hq => by cases hq; have : wr.drew.heap.size = wr.heap.size := rfl; omega))
    · refine y_alloc hS rfl rfl rfl info_zS (fun bx w4 hbx hB4 hM4 => hK.out _ _ (hS.call hB4) (fun hS2 => ?_))
      clear hK K hS
      have hS := hS2
      have HB4 := hid ((Below.refl _ _).drew.trans hB4)
      clear hS2
      refine norm_ (a' := ?_) ?_ ?_
      rotate_left
      · simp only [Act.put, List.setIfInBounds_toArray, List.set_cons_zero, List.set_cons_succ]
        rfl
      refine one_ (i := 10) (N := some 48) #[true, true, true, true, true, true, true, true, true, true, true, false, false, false, false, true, false, false] rfl rfl (by kernel_rfl) (by decide) (fun K hK => ?_)
      refine goes_ Tryd.func25 (by kernel_rfl) rfl #[.int .i64 m, .int .i64 60] (by rfl) rfl rfl (by simp only [List.map_toArray, List.map_cons, List.map_nil]; rfl) ?_
      refine (withinN_any m 60 _ (by decide) (by decide)).mono ?_
      rintro e w8 ⟨rfl, rfl⟩
      refine ⟨_, rfl, hK.out _ _ hS (fun hS2 => ?_)⟩
      clear hK K hS2
      refine norm_ (a' := ?_) ?_ ?_
      rotate_left
      · simp only [Act.put, List.setIfInBounds_toArray, List.set_cons_zero, List.set_cons_succ]
        rfl
      refine one_ (i := 11) (N := some 49) #[true, true, true, true, true, true, true, true, true, true, true, true, false, false, false, true, false, false] rfl rfl (by kernel_rfl) (by decide) (fun K hK => ?_)
      refine goes_ Tryd.func24 (by kernel_rfl) rfl #[.agg (scrL s m0 o0 t0).toArray, .int .i64 key, .int .i64 (withinZ n 10000), .int .i64 (withinZ m 60)] (by rfl) rfl rfl (by simp only [List.map_toArray, List.map_cons, List.map_nil]; rfl) ?_
      refine (HMV.out _ HB4.out).mono ?_
      rintro e w5 ⟨A1, k1, A2, k2, A3, k3, rfl, hO, hB⟩
      have HO := hid hO
      have hM5 := hM4.call hB
      refine ⟨_, rfl, hK.out _ _ (hS.call hB) (fun hS2 => ?_)⟩
      clear hK K hO hS
      have hS := hS2
      clear hS2
      refine norm_ (a' := ?_) ?_ ?_
      rotate_left
      · simp only [Act.put, List.setIfInBounds_toArray, List.set_cons_zero, List.set_cons_succ]
        rfl
      refine take_ (i := 12) (N := some 37) (a' := ?_) (v := .tuple #[.agg (scrL R (.slice A1 R.ms.length k1) (.slice A2 R.os.length k2) (.slice A3 R.tabs.length k3)).toArray, .int .i64 ec]) #[true, true, true, true, true, true, true, true, true, true, true, true, true, false, false, true, false, false] rfl rfl (by kernel_rfl) (by first | exact fun _ _ _ h => h | exact fun _ _ _ h => hP _ _ _ _ _ h) (Or.inl ⟨by rfl, fun w' _ => by go_simp⟩) hS ?_ ?_
      rotate_left
      · simp only [Act.put, List.setIfInBounds_toArray, List.set_cons_zero, List.set_cons_succ]
        rfl
      refine take_ (i := 13) (N := some 50) (a' := ?_) (v := .agg (scrL R (.slice A1 R.ms.length k1) (.slice A2 R.os.length k2) (.slice A3 R.tabs.length k3)).toArray) #[true, true, true, true, true, true, true, true, true, true, true, true, true, true, false, true, false, false] rfl rfl (by kernel_rfl) (by first | exact fun _ _ _ h => h | exact fun _ _ _ h => hP _ _ _ _ _ h) (Or.inl ⟨by rfl, fun w' _ => by go_simp⟩) hS ?_ ?_
      rotate_left
      · simp only [Act.put, List.setIfInBounds_toArray, List.set_cons_zero, List.set_cons_succ]
        rfl
      refine pure_ (i := 14) (N := some 51) (a' := ?_) (v := .int .i64 ec) #[true, true, true, true, true, true, true, true, true, true, true, true, true, true, true, true, false, false] rfl rfl (by kernel_rfl) (by first | exact fun _ _ _ h => h | exact fun _ _ _ h => hP _ _ _ _ _ h) (Or.inl ⟨by rfl, fun w' => by go_simp⟩) ?_ ?_
      rotate_left
      · simp only [Act.put, List.setIfInBounds_toArray, List.set_cons_zero, List.set_cons_succ]
        rfl
      refine last_ (i := 16) (N := none) #[true, true, true, true, true, true, true, true, true, true, true, true, true, true, true, true, true, false] rfl rfl (by kernel_rfl) (by decide) (fun K hK => ?_)
      refine y_storeA hM5 rfl rfl rfl rfl 0 rfl rfl rfl (by kernel_rfl) rfl (fun w6 hM6 hg => hK.out _ _ ?_)
      clear hK K
      refine pure_ (i := 17) (N := some 8) (a' := ?_) (v := .int .i64 ec) #[true, true, true, true, true, true, true, true, true, true, true, true, true, true, true, true, true, true] rfl rfl (by kernel_rfl) (by first | exact fun _ _ _ h => h | exact fun _ _ _ h => hP _ _ _ _ _ h) (Or.inl ⟨by rfl, fun w' => by go_simp⟩) ?_ ?_
      rotate_left
      · simp only [Act.put, List.setIfInBounds_toArray, List.set_cons_zero, List.set_cons_succ]
        rfl
      refine done_ (by kernel_rfl) ?_
      have hlt4 : bx < w4.heap.size := hM4.lt (.head _)
      have hz4 := HB4.out.size
      have hO5 := HO.out
      have hne : ∀ (x : Value) (nn : Nat) (ee : TypeId) (q : Nat) (xs : List Value), w5.ownsRow w4.heap.size ee q x nn xs → x.ownBlock = none ∨ x.ownBlock ≠ some bx := fun x nn ee q xs hx => .inr fun e => by have := (hx.lt bx e).1; omega
      have hlow : w4.heap.size ≤ w5.heap.size := hB.size
      exact hQ w6 bx _ _ _ _ _ _ _ _ _ _ _ _ _ _ _ _ _ _ _ _ _ hM6 ⟨OwnC.lower (hO5.hm.kept hg (hne _ _ _ _ _ hO5.hm)) hz4, OwnC.lower (hO5.ho.kept hg (hne _ _ _ _ _ hO5.ho)) hz4, ownB_lower (w' := wr) (hO5.ht.kept hg (hne _ _ _ _ _ hO5.ht)) hz4, hO5.mo, hO5.mt, hO5.ot⟩ (below_of_grown (HB4.out.trans (hB.mono HB4.out.size)) hg (fun q hq => by cases hq; have : wr.drew.heap.size = wr.heap.size := rfl; omega))
  · refine y_alloc hS rfl rfl rfl info_zS (fun bx w4 hbx hB4 hM4 => hK.out _ _ (hS.call hB4) (fun hS2 => ?_))
    clear hK K hS
    have hS := hS2
    have HB4 := hid ((Below.refl _ _).drew.trans hB4)
    clear hS2
    refine norm_ (a' := ?_) ?_ ?_
    rotate_left
    · simp only [Act.put, List.setIfInBounds_toArray, List.set_cons_zero, List.set_cons_succ]
      rfl
    refine one_ (i := 7) (N := some 45) #[true, true, true, true, true, true, true, true, true, true, false, false, false, false, false, true, false, false] rfl rfl (by kernel_rfl) (by decide) (fun K hK => ?_)
    refine goes_ Tryd.func25 (by kernel_rfl) rfl #[.int .i64 n, .int .i64 10000] (by rfl) rfl rfl (by simp only [List.map_toArray, List.map_cons, List.map_nil]; rfl) ?_
    refine (withinN_any n 10000 _ (by decide) (by decide)).mono ?_
    rintro e w7 ⟨rfl, rfl⟩
    refine ⟨_, rfl, hK.out _ _ hS (fun hS2 => ?_)⟩
    clear hK K hS2
    refine norm_ (a' := ?_) ?_ ?_
    rotate_left
    · simp only [Act.put, List.setIfInBounds_toArray, List.set_cons_zero, List.set_cons_succ]
      rfl
    refine one_ (i := 10) (N := some 48) #[true, true, true, true, true, true, true, true, true, true, true, false, false, false, false, true, false, false] rfl rfl (by kernel_rfl) (by decide) (fun K hK => ?_)
    refine goes_ Tryd.func25 (by kernel_rfl) rfl #[.int .i64 m, .int .i64 60] (by rfl) rfl rfl (by simp only [List.map_toArray, List.map_cons, List.map_nil]; rfl) ?_
    refine (withinN_any m 60 _ (by decide) (by decide)).mono ?_
    rintro e w8 ⟨rfl, rfl⟩
    refine ⟨_, rfl, hK.out _ _ hS (fun hS2 => ?_)⟩
    clear hK K hS2
    refine norm_ (a' := ?_) ?_ ?_
    rotate_left
    · simp only [Act.put, List.setIfInBounds_toArray, List.set_cons_zero, List.set_cons_succ]
      rfl
    refine one_ (i := 11) (N := some 49) #[true, true, true, true, true, true, true, true, true, true, true, true, false, false, false, true, false, false] rfl rfl (by kernel_rfl) (by decide) (fun K hK => ?_)
    refine goes_ Tryd.func24 (by kernel_rfl) rfl #[.agg (scrL s m0 o0 t0).toArray, .int .i64 key, .int .i64 (withinZ n 10000), .int .i64 (withinZ m 60)] (by rfl) rfl rfl (by simp only [List.map_toArray, List.map_cons, List.map_nil]; rfl) ?_
    refine (HMV.out _ HB4.out).mono ?_
    rintro e w5 ⟨A1, k1, A2, k2, A3, k3, rfl, hO, hB⟩
    have HO := hid hO
    have hM5 := hM4.call hB
    refine ⟨_, rfl, hK.out _ _ (hS.call hB) (fun hS2 => ?_)⟩
    clear hK K hO hS
    have hS := hS2
    clear hS2
    refine norm_ (a' := ?_) ?_ ?_
    rotate_left
    · simp only [Act.put, List.setIfInBounds_toArray, List.set_cons_zero, List.set_cons_succ]
      rfl
    refine take_ (i := 12) (N := some 37) (a' := ?_) (v := .tuple #[.agg (scrL R (.slice A1 R.ms.length k1) (.slice A2 R.os.length k2) (.slice A3 R.tabs.length k3)).toArray, .int .i64 ec]) #[true, true, true, true, true, true, true, true, true, true, true, true, true, false, false, true, false, false] rfl rfl (by kernel_rfl) (by first | exact fun _ _ _ h => h | exact fun _ _ _ h => hP _ _ _ _ _ h) (Or.inl ⟨by rfl, fun w' _ => by go_simp⟩) hS ?_ ?_
    rotate_left
    · simp only [Act.put, List.setIfInBounds_toArray, List.set_cons_zero, List.set_cons_succ]
      rfl
    refine take_ (i := 13) (N := some 50) (a' := ?_) (v := .agg (scrL R (.slice A1 R.ms.length k1) (.slice A2 R.os.length k2) (.slice A3 R.tabs.length k3)).toArray) #[true, true, true, true, true, true, true, true, true, true, true, true, true, true, false, true, false, false] rfl rfl (by kernel_rfl) (by first | exact fun _ _ _ h => h | exact fun _ _ _ h => hP _ _ _ _ _ h) (Or.inl ⟨by rfl, fun w' _ => by go_simp⟩) hS ?_ ?_
    rotate_left
    · simp only [Act.put, List.setIfInBounds_toArray, List.set_cons_zero, List.set_cons_succ]
      rfl
    refine pure_ (i := 14) (N := some 51) (a' := ?_) (v := .int .i64 ec) #[true, true, true, true, true, true, true, true, true, true, true, true, true, true, true, true, false, false] rfl rfl (by kernel_rfl) (by first | exact fun _ _ _ h => h | exact fun _ _ _ h => hP _ _ _ _ _ h) (Or.inl ⟨by rfl, fun w' => by go_simp⟩) ?_ ?_
    rotate_left
    · simp only [Act.put, List.setIfInBounds_toArray, List.set_cons_zero, List.set_cons_succ]
      rfl
    refine last_ (i := 16) (N := none) #[true, true, true, true, true, true, true, true, true, true, true, true, true, true, true, true, true, false] rfl rfl (by kernel_rfl) (by decide) (fun K hK => ?_)
    refine y_storeA hM5 rfl rfl rfl rfl 0 rfl rfl rfl (by kernel_rfl) rfl (fun w6 hM6 hg => hK.out _ _ ?_)
    clear hK K
    refine pure_ (i := 17) (N := some 8) (a' := ?_) (v := .int .i64 ec) #[true, true, true, true, true, true, true, true, true, true, true, true, true, true, true, true, true, true] rfl rfl (by kernel_rfl) (by first | exact fun _ _ _ h => h | exact fun _ _ _ h => hP _ _ _ _ _ h) (Or.inl ⟨by rfl, fun w' => by go_simp⟩) ?_ ?_
    rotate_left
    · simp only [Act.put, List.setIfInBounds_toArray, List.set_cons_zero, List.set_cons_succ]
      rfl
    refine done_ (by kernel_rfl) ?_
    have hlt4 : bx < w4.heap.size := hM4.lt (.head _)
    have hz4 := HB4.out.size
    have hO5 := HO.out
    have hne : ∀ (x : Value) (nn : Nat) (ee : TypeId) (q : Nat) (xs : List Value), w5.ownsRow w4.heap.size ee q x nn xs → x.ownBlock = none ∨ x.ownBlock ≠ some bx := fun x nn ee q xs hx => .inr fun e => by have := (hx.lt bx e).1; omega
    have hlow : w4.heap.size ≤ w5.heap.size := hB.size
    exact hQ w6 bx _ _ _ _ _ _ _ _ _ _ _ _ _ _ _ _ _ _ _ _ _ hM6 ⟨OwnC.lower (hO5.hm.kept hg (hne _ _ _ _ _ hO5.hm)) hz4, OwnC.lower (hO5.ho.kept hg (hne _ _ _ _ _ hO5.ho)) hz4, ownB_lower (w' := wr) (hO5.ht.kept hg (hne _ _ _ _ _ hO5.ht)) hz4, hO5.mo, hO5.mt, hO5.ot⟩ (below_of_grown (HB4.out.trans (hB.mono HB4.out.size)) hg (fun q hq => by cases hq; have : wr.drew.heap.size = wr.heap.size := rfl; omega))
set_option maxRecDepth 100000 in
set_option maxHeartbeats 4000000 in
/-- the look at the cursor -/
theorem wreg13_is {v m0 o0 t0 x1 x2 x3 : Value} {n m k r : Int} {s R : Scr} {w wr : World} {b g bs bx : Nat} {Q : Exit → Act → World → Prop} (hM : Mem w wr [(bx, Row 37 (scrL R x1 x2 x3)), (bs, Row 37 (scrL s m0 o0 t0)), (g, Row 3 kV), (b, Row 24 (askL v n m k r))])
    (hmr : 1 ≤ s.mr ∧ s.mr ≤ 40) (hmc : 1 ≤ s.mc ∧ s.mc ≤ 40) (hrow : 0 ≤ R.cur.row ∧ R.cur.row < s.mr) (hcol : 0 ≤ R.cur.col ∧ R.cur.col < s.mc) (hwrap : R.cur.wrap = false) (u0 u2 u3 u4 u6 u9 u10 u11 u12 u13 u14 u15 u16 u17 u18 u19 u20 u21 u22 u23 u24 u25 u26 u27 u28 u29 u30 u31 u32 u33 u34 u35 u36 u37 u38 u39 u40 u41 u42 u43 u44 u45 u46 u47 u48 u49 u50 u51 u52 u53 u54 u55 u56 u57 u58 u59 u60 u61 u62 u63 u64 u65 u66 u67 u68 u69 u70 u71 u72 u73 u74 u75 u76 u77 u78 u79 u80 u81 u82 u83 u84 u85 u86 u87 u88 u89 : Value)
    (hQ : ∀ w' (v52 v53 v54 v55 v56 v57 v58 v59 v60 v61 v62 v63 v64 v65 v66 v67 v68 v69 v70 v71 v72 v73 v74 v75 v76 v77 v78 v79 v80 : Value), Mem w w' [(bx, Row 37 (scrL R x1 x2 x3)), (bs, Row 37 (scrL s m0 o0 t0)), (g, Row 3 kV), (b, Row 24 (askL v n m k r))] → Below wr.heap.size wr w' →
      Q .normal ⟨#[u0, .pointer (some ⟨b, 0, none⟩), u2, u3, u4, .pointer (some ⟨bs, 0, none⟩), u6, .pointer (some ⟨bx, 0, none⟩), .int .i64 0, u9, u10, u11, u12, u13, u14, u15, u16, u17, u18, u19, u20, u21, u22, u23, u24, u25, u26, u27, u28, u29, u30, u31, u32, u33, u34, u35, u36, u37, u38, u39, u40, u41, u42, u43, u44, u45, u46, u47, u48, u49, u50, u51, v52, v53, v54, v55, v56, v57, v58, v59, v60, v61, v62, v63, v64, v65, v66, v67, v68, v69, v70, v71, v72, v73, v74, v75, v76, v77, v78, v79, v80, .bool false, u82, u83, u84, u85, u86, u87, u88, u89], []⟩ w') :
    Code.wp Tryd.prog (wreg 13) Q ⟨#[u0, .pointer (some ⟨b, 0, none⟩), u2, u3, u4, .pointer (some ⟨bs, 0, none⟩), u6, .pointer (some ⟨bx, 0, none⟩), .int .i64 0, u9, u10, u11, u12, u13, u14, u15, u16, u17, u18, u19, u20, u21, u22, u23, u24, u25, u26, u27, u28, u29, u30, u31, u32, u33, u34, u35, u36, u37, u38, u39, u40, u41, u42, u43, u44, u45, u46, u47, u48, u49, u50, u51, u52, u53, u54, u55, u56, u57, u58, u59, u60, u61, u62, u63, u64, u65, u66, u67, u68, u69, u70, u71, u72, u73, u74, u75, u76, u77, u78, u79, u80, u81, u82, u83, u84, u85, u86, u87, u88, u89], []⟩ wr := by
  have HM := hid hM
  have HR : Hid (∀ W, Calls Tryd.prog 27 #[.int .i64 R.cur.row, .int .i64 (s.mr - 1)] W fun e w' => e = .returned (.bool true) ∧ W = w') := hid fun W => num_is (by simp; omega) W
  have HC : Hid (∀ W, Calls Tryd.prog 27 #[.int .i64 R.cur.col, .int .i64 (s.mc - 1)] W fun e w' => e = .returned (.bool true) ∧ W = w') := hid fun W => num_is (by simp; omega) W
  have HW := hid hwrap
  clear hM hrow hcol hwrap
  conv => arg 2; whnf
  conv => arg 4; zeta
  refine mb_seq HM.out (fun hne => ?_)
  repeat (first | (go_big_quiet_want; refine mb_load rfl rfl (by first | exact .head _ | exact .tail _ (.head _) | exact .tail _ (.tail _ (.head _)) | exact .tail _ (.tail _ (.tail _ (.head _))) | exact .tail _ (.tail _ (.tail _ (.tail _ (.head _)))) | exact .tail _ (.tail _ (.tail _ (.tail _ (.tail _ (.head _))))) | exact .tail _ (.tail _ (.tail _ (.tail _ (.tail _ (.tail _ (.head _)))))) | exact .tail _ (.tail _ (.tail _ (.tail _ (.tail _ (.tail _ (.tail _ (.head _)))))))) rfl (by first | exact Tryd.underlying3 | exact Tryd.underlying4 | exact Tryd.underlying9 | exact Tryd.underlying28 | exact Tryd.underlying35) rfl ?_; simp only [Act.put, List.setIfInBounds_toArray, List.set_cons_zero, List.set_cons_succ]; go_big_quiet_on) | go_big_quiet_step ((first | (go_at_call 26; with_reducible exact mb_still _ (num10_any _ _)) | (go_at_call 27; with_reducible exact mb_still _ (HR.out _)) | (go_at_call 27; with_reducible exact mb_still _ (HC.out _)))))
  refine wpQuiet_nil ?_
  intro wq hMq hBq
  rw [HW.out]
  exact hQ wq _ _ _ _ _ _ _ _ _ _ _ _ _ _ _ _ _ _ _ _ _ _ _ _ _ _ _ _ _ hMq hBq
end Go.Proofs.YtbjckahaalbpaaaDoor
