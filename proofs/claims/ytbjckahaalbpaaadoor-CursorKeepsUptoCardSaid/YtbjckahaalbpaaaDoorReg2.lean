/- The law's statements: may it be, the reference's answer, the look. -/
import Derived.Test.YtbjckahaalbpaaaDoorReg
set_option linter.unusedVariables false
set_option linter.unusedSimpArgs false
set_option linter.unnecessarySimpa false
namespace Go.Proofs.YtbjckahaalbpaaaDoor
open Go Go.RowKit Go.Proofs.YtbjckahaalbpaaaDoorW.PrintLast

section
variable {P : Program} {ops : Array Oper} {op : Oper} {a : Act} {w0 w wr : World} {Q : Exit → Act → World → Prop} {F : List Ent}
/-- a world of the class, behind a world -/
structure MemB (w0 wr : World) (F : List Ent) where
  W : World
  h : Mem w0 W F
  k : Below wr.heap.size wr W
theorem MemB.below {w0 wr : World} {F : List Ent} (x : MemB w0 wr F) : Below w0.heap.size w0 x.W := x.h.below
theorem mb_seq {id : Nat} {l : List Oper} (hM : Mem w0 w F)
    (h : Nonempty (MemB w0 w F) → wpQuiet P l.toArray (fun w' => ∃ x : MemB w0 w F, w' = x.W) (fun a' => ∀ w', Mem w0 w' F → Below w.heap.size w w' → Q .normal a' w') l a) : (Code.region id l.toArray false).wp P Q a w :=
  wp_region_lit (wpList_of_quiet (C := fun w' => ∃ x : MemB w0 w F, w' = x.W) (Q := fun a' => ∀ w', Mem w0 w' F → Below w.heap.size w w' → Q .normal a' w') (fun _ w' hw' h => by obtain ⟨x, rfl⟩ := hw'; exact h _ x.h x.k) l a w ⟨⟨w, hM, Below.refl _ _⟩, rfl⟩ (h ⟨⟨w, hM, Below.refl _ _⟩⟩))
theorem mb_call {f : Nat} {args : Array Value} {v : Value} (x : MemB w0 wr F) (h : Calls P f args x.W fun e w' => e = .returned v ∧ Below x.W.heap.size x.W w') :
    Calls P f args x.W fun e w'' => e = .returned v ∧ ∃ y : MemB w0 wr F, w'' = y.W := h.mono fun _ w' ⟨he, hb⟩ => ⟨he, ⟨w', x.h.call hb, x.k.trans (hb.mono x.k.size)⟩, rfl⟩
theorem mb_still {f : Nat} {args : Array Value} {v : Value} (x : MemB w0 wr F) (h : Calls P f args x.W fun e w' => e = .returned v ∧ x.W = w') :
    Calls P f args x.W fun e w'' => e = .returned v ∧ ∃ y : MemB w0 wr F, w'' = y.W := h.mono fun _ _ ⟨he, hb⟩ => ⟨he, x, hb.symm⟩
theorem mb_load {K : Act → Prop} {ty : TypeId} {x : Operand} (ho : op.op = .load ty x) {b k : Nat} (hx : a.eval x = .pointer (some ⟨b, k, none⟩)) {t : TypeId} {l : List Value} (hF : (b, Row t l) ∈ F)
    {v : Value} (hv : l[k]? = some v) {d : TypeDesc} (hu : P.underlying ty = some d) (hd : d.isRow = false) (h : K (a.put op.dst v)) : op.quiet P a (fun w' => ∃ x : MemB w0 wr F, w' = x.W) K := by
  refine ⟨v, ?_, h⟩
  rintro _ ⟨y, rfl⟩
  unfold Oper.quietAt execOp
  simp only [ho, hx, Instr.loadAt, Instr.sureAddr, Sem.run_bind, Sem.run_pure, Result.andThen_ok, run_loadVar_one hu hd (y.h.cell hF hv)]
  exact ⟨rfl, rfl⟩
end
theorem load_sl {w : World} {s : Scr} {m o t : Value} {b q : Nat} (h : ∀ j u, (scrL s m o t)[j]? = some u → w.cell? ⟨b, q + j, none⟩ = some u) : (Instr.loadAt 37 (.pointer (some ⟨b, q, none⟩))).run Tryd.prog w = .ok (.agg (scrL s m o t).toArray) w :=
  run_loadAt_mid w b q 37 (scrL s m o t) _ h Tryd.underlying37 rfl (by kernel_rfl)
set_option maxRecDepth 100000 in
set_option maxHeartbeats 4000000 in
/-- may it be? -/
theorem mreg16_is {mi oi ti m0 o0 t0 : Value} {n m k r key nj mv : Int} {s : Scr} {lx : List Value} {w wr : World} {b g bin bx j kk kb ko kl kc sb so sl_ sc ii : Nat} {b1 b2 b3 b4 may : Bool} {Q : Exit → Act → World → Prop}
    (hM : Mem w wr [(bx, Row 37 lx), (bin, Row 37 (scrL s mi oi ti)), (g, Row 3 (nsL n)), (b, Row 24 (askL (.slice (some ⟨sb, so, none⟩) sl_ sc) n m k r))]) (hkk : kk < kl) (hii : ii < sl_)
    (hkc : ∀ W, Below w.heap.size w W → W.cell? ⟨kb, ko + kk, none⟩ = some (.int .i64 key)) (hnj : (nsL n)[j]? = some (.int .i64 nj)) (hj : j < 6) (hel : ∀ W, Below w.heap.size w W → ∀ q u, (scrL s m0 o0 t0)[q]? = some u → W.cell? ⟨sb, so + ii * 43 + q, none⟩ = some u)
    (hmay : (b1 && b2 && b3 && b4) = may) (h1 : ∀ W, Below w.heap.size w W → Calls Tryd.prog 23 #[.agg (scrL s m0 o0 t0).toArray] W fun e w' => e = .returned (.bool b1) ∧ Below W.heap.size W w')
    (h2 : moveKey key = b2) (h3 : numOk nj = b3) (h4 : numOk mv = b4) (u0 u3 u4 u10 u11 u12 u13 u14 u15 u16 u17 u18 u19 u20 u21 u22 u23 u24 u25 u26 u27 u28 u29 u30 u31 u32 u33 u34 u35 u36 u37 u38 u39 u40 u41 u42 u43 u44 u45 u46 u47 u48 u49 u50 u51 u52 u53 u54 u55 u56 u57 u58 u59 u60 u61 u62 u63 u64 u65 u66 u67 u68 u69 u70 u71 u72 u73 u74 u75 u76 u77 u78 u79 u80 u81 u82 u83 u84 u85 u86 u87 u88 u89 u90 u91 u92 u93 u94 u95 u96 u97 u98 u99 u100 u101 u102 u103 u104 u105 u106 u107 u108 u109 u110 u111 u112 u113 u114 u115 u116 u117 u118 u119 u120 u121 u122 u123 u124 u125 u126 u127 u128 u129 : Value)
    (hQ : ∀ w' (v76 v77 v78 v79 v80 v81 v82 v83 v84 v85 v86 v87 v88 v89 v90 v91 v92 v93 v94 v95 v96 v97 v98 v99 : Value), Mem w w' [(bx, Row 37 lx), (bin, Row 37 (scrL s mi oi ti)), (g, Row 3 (nsL n)), (b, Row 24 (askL (.slice (some ⟨sb, so, none⟩) sl_ sc) n m k r))] → Below wr.heap.size wr w' → Q .normal ⟨#[u0, .slice (some ⟨kb, ko, none⟩) kl kc, .pointer (some ⟨b, 0, none⟩), u3, u4, .int .i64 ii, .int .i64 kk, .slice (some ⟨g, 0, none⟩) 6 6, .int .i64 j, .int .i64 mv, u10, u11, u12, .bool may, u14, u15, u16, u17, u18, u19, u20, u21, u22, u23, u24, u25, u26, u27, u28, u29, u30, u31, u32, u33, u34, u35, u36, u37, u38, u39, u40, u41, u42, u43, u44, u45, u46, u47, u48, u49, u50, u51, u52, u53, u54, u55, u56, u57, u58, u59, u60, u61, u62, u63, u64, u65, u66, u67, u68, u69, u70, u71, u72, u73, u74, u75, v76, v77, v78, v79, v80, v81, v82, v83, v84, v85, v86, v87, v88, v89, v90, v91, v92, v93, v94, v95, v96, v97, v98, v99, u100, u101, u102, u103, u104, u105, u106, u107, u108, u109, u110, u111, u112, u113, u114, u115, u116, u117, u118, u119, u120, u121, u122, u123, u124, u125, u126, u127, u128, u129], []⟩ w') :
    Code.wp Tryd.prog (mreg 16) Q ⟨#[u0, .slice (some ⟨kb, ko, none⟩) kl kc, .pointer (some ⟨b, 0, none⟩), u3, u4, .int .i64 ii, .int .i64 kk, .slice (some ⟨g, 0, none⟩) 6 6, .int .i64 j, .int .i64 mv, u10, u11, u12, u13, u14, u15, u16, u17, u18, u19, u20, u21, u22, u23, u24, u25, u26, u27, u28, u29, u30, u31, u32, u33, u34, u35, u36, u37, u38, u39, u40, u41, u42, u43, u44, u45, u46, u47, u48, u49, u50, u51, u52, u53, u54, u55, u56, u57, u58, u59, u60, u61, u62, u63, u64, u65, u66, u67, u68, u69, u70, u71, u72, u73, u74, u75, u76, u77, u78, u79, u80, u81, u82, u83, u84, u85, u86, u87, u88, u89, u90, u91, u92, u93, u94, u95, u96, u97, u98, u99, u100, u101, u102, u103, u104, u105, u106, u107, u108, u109, u110, u111, u112, u113, u114, u115, u116, u117, u118, u119, u120, u121, u122, u123, u124, u125, u126, u127, u128, u129], []⟩ wr := by
  have HM := hid hM
  have HKC := hid hkc
  have HEL := hid hel
  have HJ := hid hnj
  have hkk2 : (kk : Int) < (kl : Int) := by omega
  have hii2 : (ii : Int) < (sl_ : Int) := by omega
  have hj2 : (j : Int) < 6 := by omega
  have H := hid hmay
  have HC1 := hid h1
  have HC2 : Hid (∀ W, Calls Tryd.prog 38 #[.int .i64 key] W fun e w' => e = .returned (.bool b2) ∧ Below W.heap.size W w') := hid fun W => moveKey_is h2 W
  have HC3 : Hid (∀ W, Calls Tryd.prog 39 #[.int .i64 nj] W fun e w' => e = .returned (.bool b3) ∧ W = w') := hid fun W => numR_is h3 W
  have HC4 : Hid (∀ W, Calls Tryd.prog 39 #[.int .i64 mv] W fun e w' => e = .returned (.bool b4) ∧ W = w') := hid fun W => numR_is h4 W
  clear hM hkc hel hnj hmay h1 h2 h3 h4
  conv => arg 2; whnf
  conv => arg 4; zeta
  cases b1 with
  | false =>
    have hm : may = false := by rw [← H.out]; rfl
    subst hm
    refine mb_seq HM.out (fun hne => ?_)
    repeat (first | (go_big_quiet_want; refine mb_load rfl rfl (by first | exact .head _ | exact .tail _ (.head _) | exact .tail _ (.tail _ (.head _)) | exact .tail _ (.tail _ (.tail _ (.head _))) | exact .tail _ (.tail _ (.tail _ (.tail _ (.head _)))) | exact .tail _ (.tail _ (.tail _ (.tail _ (.tail _ (.head _))))) | exact .tail _ (.tail _ (.tail _ (.tail _ (.tail _ (.tail _ (.head _)))))) | exact .tail _ (.tail _ (.tail _ (.tail _ (.tail _ (.tail _ (.tail _ (.head _)))))))) rfl Tryd.underlying22 rfl ?_; simp only [Act.put, List.setIfInBounds_toArray, List.set_cons_zero, List.set_cons_succ]; go_big_quiet_on) | (go_big_quiet_want; refine mb_load rfl rfl (by first | exact .head _ | exact .tail _ (.head _) | exact .tail _ (.tail _ (.head _)) | exact .tail _ (.tail _ (.tail _ (.head _))) | exact .tail _ (.tail _ (.tail _ (.tail _ (.head _)))) | exact .tail _ (.tail _ (.tail _ (.tail _ (.tail _ (.head _))))) | exact .tail _ (.tail _ (.tail _ (.tail _ (.tail _ (.tail _ (.head _)))))) | exact .tail _ (.tail _ (.tail _ (.tail _ (.tail _ (.tail _ (.tail _ (.head _)))))))) HJ.out Tryd.underlying3 rfl ?_; simp only [Act.put, List.setIfInBounds_toArray, List.set_cons_zero, List.set_cons_succ]; go_big_quiet_on) | (go_big_quiet_want; refine mq_any rfl rfl (fun W hW => by obtain ⟨y, rfl⟩ := hW; exact load_sl (HEL.out y.W y.h.below)) ?_; simp only [Act.put, List.setIfInBounds_toArray, List.set_cons_zero, List.set_cons_succ]; go_big_quiet_on) | (go_big_quiet_want; refine mq_any rfl rfl (fun W hW => by obtain ⟨y, rfl⟩ := hW; exact load_one Tryd.underlying3 rfl (HKC.out y.W y.h.below)) ?_; simp only [Act.put, List.setIfInBounds_toArray, List.set_cons_zero, List.set_cons_succ]; go_big_quiet_on) | go_big_quiet_step ((first | (go_at_call 23; with_reducible exact mb_call _ (HC1.out _ (MemB.below _))) | (go_at_call 38; with_reducible exact mb_call _ (HC2.out _)) | (go_at_call 39; with_reducible exact mb_still _ (HC3.out _)) | (go_at_call 39; with_reducible exact mb_still _ (HC4.out _)))))
    refine wpQuiet_nil ?_
    intro wq hMq hBq
    exact hQ wq _ _ _ _ _ _ _ _ _ _ _ _ _ _ _ _ _ _ _ _ _ _ _ _ hMq hBq
  | true =>
  cases b2 with
  | false =>
    have hm : may = false := by rw [← H.out]; rfl
    subst hm
    refine mb_seq HM.out (fun hne => ?_)
    repeat (first | (go_big_quiet_want; refine mb_load rfl rfl (by first | exact .head _ | exact .tail _ (.head _) | exact .tail _ (.tail _ (.head _)) | exact .tail _ (.tail _ (.tail _ (.head _))) | exact .tail _ (.tail _ (.tail _ (.tail _ (.head _)))) | exact .tail _ (.tail _ (.tail _ (.tail _ (.tail _ (.head _))))) | exact .tail _ (.tail _ (.tail _ (.tail _ (.tail _ (.tail _ (.head _)))))) | exact .tail _ (.tail _ (.tail _ (.tail _ (.tail _ (.tail _ (.tail _ (.head _)))))))) rfl Tryd.underlying22 rfl ?_; simp only [Act.put, List.setIfInBounds_toArray, List.set_cons_zero, List.set_cons_succ]; go_big_quiet_on) | (go_big_quiet_want; refine mb_load rfl rfl (by first | exact .head _ | exact .tail _ (.head _) | exact .tail _ (.tail _ (.head _)) | exact .tail _ (.tail _ (.tail _ (.head _))) | exact .tail _ (.tail _ (.tail _ (.tail _ (.head _)))) | exact .tail _ (.tail _ (.tail _ (.tail _ (.tail _ (.head _))))) | exact .tail _ (.tail _ (.tail _ (.tail _ (.tail _ (.tail _ (.head _)))))) | exact .tail _ (.tail _ (.tail _ (.tail _ (.tail _ (.tail _ (.tail _ (.head _)))))))) HJ.out Tryd.underlying3 rfl ?_; simp only [Act.put, List.setIfInBounds_toArray, List.set_cons_zero, List.set_cons_succ]; go_big_quiet_on) | (go_big_quiet_want; refine mq_any rfl rfl (fun W hW => by obtain ⟨y, rfl⟩ := hW; exact load_sl (HEL.out y.W y.h.below)) ?_; simp only [Act.put, List.setIfInBounds_toArray, List.set_cons_zero, List.set_cons_succ]; go_big_quiet_on) | (go_big_quiet_want; refine mq_any rfl rfl (fun W hW => by obtain ⟨y, rfl⟩ := hW; exact load_one Tryd.underlying3 rfl (HKC.out y.W y.h.below)) ?_; simp only [Act.put, List.setIfInBounds_toArray, List.set_cons_zero, List.set_cons_succ]; go_big_quiet_on) | go_big_quiet_step ((first | (go_at_call 23; with_reducible exact mb_call _ (HC1.out _ (MemB.below _))) | (go_at_call 38; with_reducible exact mb_call _ (HC2.out _)) | (go_at_call 39; with_reducible exact mb_still _ (HC3.out _)) | (go_at_call 39; with_reducible exact mb_still _ (HC4.out _)))))
    refine wpQuiet_nil ?_
    intro wq hMq hBq
    exact hQ wq _ _ _ _ _ _ _ _ _ _ _ _ _ _ _ _ _ _ _ _ _ _ _ _ hMq hBq
  | true =>
  cases b3 with
  | false =>
    have hm : may = false := by rw [← H.out]; rfl
    subst hm
    refine mb_seq HM.out (fun hne => ?_)
    repeat (first | (go_big_quiet_want; refine mb_load rfl rfl (by first | exact .head _ | exact .tail _ (.head _) | exact .tail _ (.tail _ (.head _)) | exact .tail _ (.tail _ (.tail _ (.head _))) | exact .tail _ (.tail _ (.tail _ (.tail _ (.head _)))) | exact .tail _ (.tail _ (.tail _ (.tail _ (.tail _ (.head _))))) | exact .tail _ (.tail _ (.tail _ (.tail _ (.tail _ (.tail _ (.head _)))))) | exact .tail _ (.tail _ (.tail _ (.tail _ (.tail _ (.tail _ (.tail _ (.head _)))))))) rfl Tryd.underlying22 rfl ?_; simp only [Act.put, List.setIfInBounds_toArray, List.set_cons_zero, List.set_cons_succ]; go_big_quiet_on) | (go_big_quiet_want; refine mb_load rfl rfl (by first | exact .head _ | exact .tail _ (.head _) | exact .tail _ (.tail _ (.head _)) | exact .tail _ (.tail _ (.tail _ (.head _))) | exact .tail _ (.tail _ (.tail _ (.tail _ (.head _)))) | exact .tail _ (.tail _ (.tail _ (.tail _ (.tail _ (.head _))))) | exact .tail _ (.tail _ (.tail _ (.tail _ (.tail _ (.tail _ (.head _)))))) | exact .tail _ (.tail _ (.tail _ (.tail _ (.tail _ (.tail _ (.tail _ (.head _)))))))) HJ.out Tryd.underlying3 rfl ?_; simp only [Act.put, List.setIfInBounds_toArray, List.set_cons_zero, List.set_cons_succ]; go_big_quiet_on) | (go_big_quiet_want; refine mq_any rfl rfl (fun W hW => by obtain ⟨y, rfl⟩ := hW; exact load_sl (HEL.out y.W y.h.below)) ?_; simp only [Act.put, List.setIfInBounds_toArray, List.set_cons_zero, List.set_cons_succ]; go_big_quiet_on) | (go_big_quiet_want; refine mq_any rfl rfl (fun W hW => by obtain ⟨y, rfl⟩ := hW; exact load_one Tryd.underlying3 rfl (HKC.out y.W y.h.below)) ?_; simp only [Act.put, List.setIfInBounds_toArray, List.set_cons_zero, List.set_cons_succ]; go_big_quiet_on) | go_big_quiet_step ((first | (go_at_call 23; with_reducible exact mb_call _ (HC1.out _ (MemB.below _))) | (go_at_call 38; with_reducible exact mb_call _ (HC2.out _)) | (go_at_call 39; with_reducible exact mb_still _ (HC3.out _)) | (go_at_call 39; with_reducible exact mb_still _ (HC4.out _)))))
    refine wpQuiet_nil ?_
    intro wq hMq hBq
    exact hQ wq _ _ _ _ _ _ _ _ _ _ _ _ _ _ _ _ _ _ _ _ _ _ _ _ hMq hBq
  | true =>
  cases b4 with
  | false =>
    have hm : may = false := by rw [← H.out]; rfl
    subst hm
    refine mb_seq HM.out (fun hne => ?_)
    repeat (first | (go_big_quiet_want; refine mb_load rfl rfl (by first | exact .head _ | exact .tail _ (.head _) | exact .tail _ (.tail _ (.head _)) | exact .tail _ (.tail _ (.tail _ (.head _))) | exact .tail _ (.tail _ (.tail _ (.tail _ (.head _)))) | exact .tail _ (.tail _ (.tail _ (.tail _ (.tail _ (.head _))))) | exact .tail _ (.tail _ (.tail _ (.tail _ (.tail _ (.tail _ (.head _)))))) | exact .tail _ (.tail _ (.tail _ (.tail _ (.tail _ (.tail _ (.tail _ (.head _)))))))) rfl Tryd.underlying22 rfl ?_; simp only [Act.put, List.setIfInBounds_toArray, List.set_cons_zero, List.set_cons_succ]; go_big_quiet_on) | (go_big_quiet_want; refine mb_load rfl rfl (by first | exact .head _ | exact .tail _ (.head _) | exact .tail _ (.tail _ (.head _)) | exact .tail _ (.tail _ (.tail _ (.head _))) | exact .tail _ (.tail _ (.tail _ (.tail _ (.head _)))) | exact .tail _ (.tail _ (.tail _ (.tail _ (.tail _ (.head _))))) | exact .tail _ (.tail _ (.tail _ (.tail _ (.tail _ (.tail _ (.head _)))))) | exact .tail _ (.tail _ (.tail _ (.tail _ (.tail _ (.tail _ (.tail _ (.head _)))))))) HJ.out Tryd.underlying3 rfl ?_; simp only [Act.put, List.setIfInBounds_toArray, List.set_cons_zero, List.set_cons_succ]; go_big_quiet_on) | (go_big_quiet_want; refine mq_any rfl rfl (fun W hW => by obtain ⟨y, rfl⟩ := hW; exact load_sl (HEL.out y.W y.h.below)) ?_; simp only [Act.put, List.setIfInBounds_toArray, List.set_cons_zero, List.set_cons_succ]; go_big_quiet_on) | (go_big_quiet_want; refine mq_any rfl rfl (fun W hW => by obtain ⟨y, rfl⟩ := hW; exact load_one Tryd.underlying3 rfl (HKC.out y.W y.h.below)) ?_; simp only [Act.put, List.setIfInBounds_toArray, List.set_cons_zero, List.set_cons_succ]; go_big_quiet_on) | go_big_quiet_step ((first | (go_at_call 23; with_reducible exact mb_call _ (HC1.out _ (MemB.below _))) | (go_at_call 38; with_reducible exact mb_call _ (HC2.out _)) | (go_at_call 39; with_reducible exact mb_still _ (HC3.out _)) | (go_at_call 39; with_reducible exact mb_still _ (HC4.out _)))))
    refine wpQuiet_nil ?_
    intro wq hMq hBq
    exact hQ wq _ _ _ _ _ _ _ _ _ _ _ _ _ _ _ _ _ _ _ _ _ _ _ _ hMq hBq
  | true =>
    have hm : may = true := by rw [← H.out]; rfl
    subst hm
    refine mb_seq HM.out (fun hne => ?_)
    repeat (first | (go_big_quiet_want; refine mb_load rfl rfl (by first | exact .head _ | exact .tail _ (.head _) | exact .tail _ (.tail _ (.head _)) | exact .tail _ (.tail _ (.tail _ (.head _))) | exact .tail _ (.tail _ (.tail _ (.tail _ (.head _)))) | exact .tail _ (.tail _ (.tail _ (.tail _ (.tail _ (.head _))))) | exact .tail _ (.tail _ (.tail _ (.tail _ (.tail _ (.tail _ (.head _)))))) | exact .tail _ (.tail _ (.tail _ (.tail _ (.tail _ (.tail _ (.tail _ (.head _)))))))) rfl Tryd.underlying22 rfl ?_; simp only [Act.put, List.setIfInBounds_toArray, List.set_cons_zero, List.set_cons_succ]; go_big_quiet_on) | (go_big_quiet_want; refine mb_load rfl rfl (by first | exact .head _ | exact .tail _ (.head _) | exact .tail _ (.tail _ (.head _)) | exact .tail _ (.tail _ (.tail _ (.head _))) | exact .tail _ (.tail _ (.tail _ (.tail _ (.head _)))) | exact .tail _ (.tail _ (.tail _ (.tail _ (.tail _ (.head _))))) | exact .tail _ (.tail _ (.tail _ (.tail _ (.tail _ (.tail _ (.head _)))))) | exact .tail _ (.tail _ (.tail _ (.tail _ (.tail _ (.tail _ (.tail _ (.head _)))))))) HJ.out Tryd.underlying3 rfl ?_; simp only [Act.put, List.setIfInBounds_toArray, List.set_cons_zero, List.set_cons_succ]; go_big_quiet_on) | (go_big_quiet_want; refine mq_any rfl rfl (fun W hW => by obtain ⟨y, rfl⟩ := hW; exact load_sl (HEL.out y.W y.h.below)) ?_; simp only [Act.put, List.setIfInBounds_toArray, List.set_cons_zero, List.set_cons_succ]; go_big_quiet_on) | (go_big_quiet_want; refine mq_any rfl rfl (fun W hW => by obtain ⟨y, rfl⟩ := hW; exact load_one Tryd.underlying3 rfl (HKC.out y.W y.h.below)) ?_; simp only [Act.put, List.setIfInBounds_toArray, List.set_cons_zero, List.set_cons_succ]; go_big_quiet_on) | go_big_quiet_step ((first | (go_at_call 23; with_reducible exact mb_call _ (HC1.out _ (MemB.below _))) | (go_at_call 38; with_reducible exact mb_call _ (HC2.out _)) | (go_at_call 39; with_reducible exact mb_still _ (HC3.out _)) | (go_at_call 39; with_reducible exact mb_still _ (HC4.out _)))))
    refine wpQuiet_nil ?_
    intro wq hMq hBq
    exact hQ wq _ _ _ _ _ _ _ _ _ _ _ _ _ _ _ _ _ _ _ _ _ _ _ _ hMq hBq
end Go.Proofs.YtbjckahaalbpaaaDoor
