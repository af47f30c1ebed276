/- An answer written over: what stays, block by block. -/
import Derived.Test.YtbjckahaalbpaaaDoorSame
set_option linter.unusedVariables false
set_option linter.unusedSimpArgs false
set_option linter.unnecessarySimpa false
namespace Go.Proofs.YtbjckahaalbpaaaDoor
open Go Go.RowKit

/-- all blocks stay but three slices' -/
structure Apart3 (w w' : World) (m o t : Value) : Prop where
  os : w'.os = w.os
  tape : w'.tape = w.tape
  output : w'.output = w.output
  size : w.heap.size ≤ w'.heap.size
  block : ∀ k, k < w.heap.size → m.ownBlock ≠ some k → o.ownBlock ≠ some k → t.ownBlock ≠ some k → w'.heap[k]? = w.heap[k]?
theorem OwnScr.blk_lt {w : World} {base : Nat} {s : Scr} {m o t : Value} (h : OwnScr w base s m o t) {k : Nat} (hk : k < base ∨ w.heap.size ≤ k) : m.ownBlock ≠ some k ∧ o.ownBlock ≠ some k ∧ t.ownBlock ≠ some k :=
  ⟨fun e => by have := h.hm.lt k e; omega, fun e => by have := h.ho.lt k e; omega, fun e => by have := h.ht.lt k e; omega⟩
theorem Apart3.below {w w' : World} {m o t : Value} {s : Scr} {base : Nat} (h : Apart3 w w' m o t) (hO : OwnScr w base s m o t) (hb : base ≤ w.heap.size) : Below base w w' :=
  ⟨h.os, h.tape, h.output, h.size, fun k hk => let ⟨a, b, c⟩ := hO.blk_lt (.inl hk); h.block k (by omega) a b c⟩
theorem ownRow_of_block {w w' : World} {base n size : Nat} {e : TypeId} {v : Value} {xs : List Value} (h : w.ownsRow base e size v n xs) (hk : ∀ k, v.ownBlock = some k → w'.heap[k]? = w.heap[k]?) : w'.ownsRow base e size v n xs := by
  obtain ⟨h1, h | ⟨g, cap, cur, rfl, hb, hg, r⟩⟩ := h
  · exact ⟨h1, .inl h⟩
  · exact ⟨h1, .inr ⟨g, cap, cur, rfl, hb, (hk g rfl).trans hg, r⟩⟩
/-- a screen in newer memory stays -/
theorem OwnScr.apart3 {w w' w1 : World} {m o t m1 o1 t1 : Value} {s s1 : Scr} {base base1 : Nat} (h : OwnScr w base s m o t) (ha : Apart3 w w' m1 o1 t1) (h1 : OwnScr w1 base1 s1 m1 o1 t1) (hle : w1.heap.size ≤ base) : OwnScr w' base s m o t := by
  have hq : ∀ (x : Value) (nn : Nat) (ee : TypeId) (q : Nat) (xs : List Value), w.ownsRow base ee q x nn xs → w'.ownsRow base ee q x nn xs := fun x nn ee q xs hx => ownRow_of_block hx fun k hk => by
    obtain ⟨h2, h3⟩ := hx.lt k hk
    obtain ⟨a, b, c⟩ := h1.blk_lt (k := k) (.inr (by omega))
    exact ha.block k h3 a b c
  exact ⟨hq _ _ _ _ _ h.hm, hq _ _ _ _ _ h.ho, hq _ _ _ _ _ h.ht, h.mo, h.mt, h.ot⟩
theorem Mem.apart3 {w0 w w' : World} {F : List Ent} {m o t : Value} {s : Scr} {base : Nat} (h : Mem w0 w F) (ha : Apart3 w w' m o t) (hO : OwnScr w base s m o t) (hb : w0.heap.size ≤ base) (hF : ∀ x ∈ F, ∃ ty l, x.2 = Row ty l ∧ (91 == ty) = false ∧ (4 == ty) = false) : Mem w0 w' F := by
  refine ⟨h.below.trans (ha.below (base := w0.heap.size) (s := s) ⟨OwnC.lower hO.hm hb, OwnC.lower hO.ho hb, ownB_lower (w' := w0) hO.ht hb, hO.mo, hO.mt, hO.ot⟩ h.below.size), fun x hx => ?_, h.apart⟩
  obtain ⟨h1, ob, hob, hp⟩ := h.here x hx
  obtain ⟨ty, l, e1, e2, e3⟩ := hF x hx
  have hne : ∀ (v : Value) (nn : Nat) (ee : TypeId) (q : Nat) (xs : List Value), (ee == ty) = false → w.ownsRow base ee q v nn xs → v.ownBlock ≠ some x.1 := fun v nn ee q xs he hv e => by
    obtain ⟨_, h5 | ⟨g, cap, cur, rfl, hg1, hg, r⟩⟩ := hv
    · rw [h5.1] at e; cases e
    · obtain rfl : g = x.1 := Option.some.inj e
      have h6 : ob = .cells cur ee (0, 0) := Option.some.inj (hob.symm.trans hg)
      rw [e1] at hp
      have h7 : ob = .cells l.toArray ty (0, 0) := hp
      rw [h6] at h7
      simp only [Obj.cells.injEq] at h7
      simp [h7.2.1] at he
  exact ⟨h1, ob, (ha.block x.1 (h.lt hx) (hne _ _ _ _ _ e2 hO.hm) (hne _ _ _ _ _ e2 hO.ho) (hne _ _ _ _ _ e3 hO.ht)).trans hob, hp⟩
/-- the memory that is there -/
def allF (w : World) (m o t : Value) : List Ent := ((List.range w.heap.size).filter fun k => !(m.ownBlock == some k) && !(o.ownBlock == some k) && !(t.ownBlock == some k)).map fun k => (k, fun ob => w.heap[k]? = some ob)
theorem allF_mem {w : World} {m o t : Value} {k : Nat} (hk : k < w.heap.size) (h1 : m.ownBlock ≠ some k) (h2 : o.ownBlock ≠ some k) (h3 : t.ownBlock ≠ some k) : ((k, fun ob => w.heap[k]? = some ob) : Ent) ∈ allF w m o t :=
  List.mem_map.2 ⟨k, List.mem_filter.2 ⟨List.mem_range.2 hk, by simp [h1, h2, h3]⟩, rfl⟩
theorem allF_of {w : World} {m o t : Value} {x : Ent} (h : x ∈ allF w m o t) : x.1 < w.heap.size ∧ m.ownBlock ≠ some x.1 ∧ o.ownBlock ≠ some x.1 ∧ t.ownBlock ≠ some x.1 ∧ x.2 = fun ob => w.heap[x.1]? = some ob := by
  obtain ⟨k, hk, rfl⟩ := List.mem_map.1 h
  obtain ⟨hk, hf⟩ := List.mem_filter.1 hk
  simp only [Bool.and_eq_true, Bool.not_eq_true', beq_eq_false_iff_ne, ne_eq] at hf
  exact ⟨List.mem_range.1 hk, hf.1.1, hf.1.2, hf.2, rfl⟩
/-- the answer's cells written over -/
theorem spoilA_any {s : Scr} {m o t : Value} {w w1 : World} {base base1 : Nat} (hO : OwnScr w base s m o t) (hs : s.small) (h1 : OwnScr w1 base1 s m o t) (hlt : w1.heap.size < w.heap.size) :
    Calls Tryd.prog 61 #[.agg (scrL s m o t).toArray] w fun e w' => e = .returned (.tuple #[]) ∧ Apart3 w w' m o t := by
  have hM : Mem { w with heap := #[] } w (allF w m o t) := by
    refine ⟨⟨rfl, rfl, rfl, Nat.zero_le _, fun k hk => absurd hk (by simp)⟩, fun x hx => ?_, ?_⟩
    · obtain ⟨h2, _, _, _, h3⟩ := allF_of hx
      refine ⟨Nat.zero_le _, w.heap[x.1], Array.getElem?_eq_getElem h2, ?_⟩
      rw [h3]
      exact Array.getElem?_eq_getElem h2
    · unfold allF
      rw [List.pairwise_map]
      exact (List.Pairwise.filter _ List.nodup_range).imp (fun h => h)
  refine (spoilS_any hM ⟨OwnC.lower hO.hm (Nat.zero_le _), OwnC.lower hO.ho (Nat.zero_le _), ownB_lower (w' := { w with heap := #[] }) hO.ht (Nat.zero_le _), hO.mo, hO.mt, hO.ot⟩ hs (fun x hx => by obtain ⟨_, a, b, c, _⟩ := allF_of hx; exact ⟨a, b, c⟩)).mono ?_
  rintro e w' ⟨rfl, hM'⟩
  have hblk : ∀ k, k < w.heap.size → m.ownBlock ≠ some k → o.ownBlock ≠ some k → t.ownBlock ≠ some k → w'.heap[k]? = w.heap[k]? := fun k hk a b c => by
    obtain ⟨_, ob, hob, hp⟩ := hM'.here _ (allF_mem hk a b c)
    exact hob.trans (show w.heap[k]? = some ob from hp).symm
  refine ⟨rfl, hM'.below.os, hM'.below.tape, hM'.below.output, ?_, hblk⟩
  have hk : w.heap.size - 1 < w.heap.size := by omega
  obtain ⟨a, b, c⟩ := h1.blk_lt (k := w.heap.size - 1) (.inr (by omega))
  have h2 := hblk _ hk a b c
  rw [Array.getElem?_eq_getElem hk] at h2
  have := (Array.getElem?_eq_some_iff.1 h2).1
  omega
theorem Apart3.trans_below {w w5 w6 w7 : World} {m o t : Value} (h : Below w.heap.size w w5) (ha : Apart3 w5 w6 m o t) (hb : Below w6.heap.size w6 w7) : Apart3 w w7 m o t :=
  ⟨hb.os.trans (ha.os.trans h.os), hb.tape.trans (ha.tape.trans h.tape), hb.output.trans (ha.output.trans h.output), Nat.le_trans h.size (Nat.le_trans ha.size hb.size), fun k hk a b c => (hb.block k (Nat.lt_of_lt_of_le hk (Nat.le_trans h.size ha.size))).trans ((ha.block k (Nat.lt_of_lt_of_le hk h.size) a b c).trans (h.block k hk))⟩

set_option maxRecDepth 100000 in
set_option maxHeartbeats 2000000 in
theorem same_mayA {r s : Scr} {mx ox tx mw ow tw mi oi ti m o t : Value} {wB w : World} (hB : Below wB.heap.size wB w) (hO : OwnScr w wB.heap.size r mx ox tx) (hr : r.small) (hw : RdScr w r mw ow tw) (hi : RdScr wB s mi oi ti) (hs : RdScr wB s m o t) :
    Calls Tryd.prog 37 #[.agg (scrL r mx ox tx).toArray, .int .i64 0, .bool true, .agg (scrL r mw ow tw).toArray, .agg (scrL s mi oi ti).toArray, .agg (scrL s m o t).toArray] w fun e w' => e = .returned (.bool true) ∧ Apart3 w w' mx ox tx := by
  have HB := hid hB
  have HO := hid hO
  have HR := hid hr
  have HE1 : Hid (∀ W, Below w.heap.size w W → Calls Tryd.prog 28 #[.agg (scrL r mx ox tx).toArray, .agg (scrL r mw ow tw).toArray] W fun e w' => e = .returned (.bool true) ∧ Below W.heap.size W w') := hid fun W hW => eqS_yes ((hO.rd hr).below hW) (hw.below hW)
  have HE2 : Hid (∀ W, Below wB.heap.size wB W → Calls Tryd.prog 28 #[.agg (scrL s mi oi ti).toArray, .agg (scrL s m o t).toArray] W fun e w' => e = .returned (.bool true) ∧ Below W.heap.size W w') := hid fun W hW => eqS_yes (hi.below hW) (hs.below hW)
  have HX := hid (Mem.start w)
  clear hB hO hr hw hi hs
  go_enter Tryd.func37, Tryd.ntmps37
  go_upto_region 0 with (fail)
  refine wp_region_lit ?_
  refine m_box HX.out rfl rfl rfl ?_
  intro b1 w1 hM1
  simp only [Act.put, List.setIfInBounds_toArray, List.set_cons_zero, List.set_cons_succ]
  refine m_box hM1 rfl rfl rfl ?_
  intro b2 w2 hM2
  simp only [Act.put, List.setIfInBounds_toArray, List.set_cons_zero, List.set_cons_succ]
  refine m_box hM2 rfl rfl rfl ?_
  intro b3 w3 hM3
  simp only [Act.put, List.setIfInBounds_toArray, List.set_cons_zero, List.set_cons_succ]
  refine m_box hM3 rfl rfl rfl ?_
  intro b4 w4 hM
  simp only [Act.put, List.setIfInBounds_toArray, List.set_cons_zero, List.set_cons_succ]
  have HM := hid hM
  clear hM hM1 hM2 hM3
  go_upto_region 5 with (fail)
  refine m_seq HM.out fun hne => ?_
  repeat (first | (go_big_quiet_want; refine mq_load rfl rfl (by first | exact .head _ | exact .tail _ (.head _) | exact .tail _ (.tail _ (.head _)) | exact .tail _ (.tail _ (.tail _ (.head _))) | exact .tail _ (.tail _ (.tail _ (.tail _ (.head _)))) | exact .tail _ (.tail _ (.tail _ (.tail _ (.tail _ (.head _))))) | exact .tail _ (.tail _ (.tail _ (.tail _ (.tail _ (.tail _ (.head _)))))) | exact .tail _ (.tail _ (.tail _ (.tail _ (.tail _ (.tail _ (.tail _ (.head _)))))))) rfl (by first | exact Tryd.underlying3 | exact Tryd.underlying4 | exact Tryd.underlying9 | exact Tryd.underlying28 | exact Tryd.underlying35) rfl ?_; simp only [Act.put, List.setIfInBounds_toArray, List.set_cons_zero, List.set_cons_succ]; go_big_quiet_on) | (go_big_quiet_want; refine mq_loadS rfl rfl (by first | exact .head _ | exact .tail _ (.head _) | exact .tail _ (.tail _ (.head _)) | exact .tail _ (.tail _ (.tail _ (.head _))) | exact .tail _ (.tail _ (.tail _ (.tail _ (.head _)))) | exact .tail _ (.tail _ (.tail _ (.tail _ (.tail _ (.head _))))) | exact .tail _ (.tail _ (.tail _ (.tail _ (.tail _ (.tail _ (.head _)))))) | exact .tail _ (.tail _ (.tail _ (.tail _ (.tail _ (.tail _ (.tail _ (.head _)))))))) (scrL r mx ox tx) rfl Tryd.underlying37 rfl (by kernel_rfl) ?_; simp only [Act.put, List.setIfInBounds_toArray, List.set_cons_zero, List.set_cons_succ]; go_big_quiet_on) | (go_big_quiet_want; refine mq_loadS rfl rfl (by first | exact .head _ | exact .tail _ (.head _) | exact .tail _ (.tail _ (.head _)) | exact .tail _ (.tail _ (.tail _ (.head _))) | exact .tail _ (.tail _ (.tail _ (.tail _ (.head _)))) | exact .tail _ (.tail _ (.tail _ (.tail _ (.tail _ (.head _))))) | exact .tail _ (.tail _ (.tail _ (.tail _ (.tail _ (.tail _ (.head _)))))) | exact .tail _ (.tail _ (.tail _ (.tail _ (.tail _ (.tail _ (.tail _ (.head _)))))))) (scrL r mw ow tw) rfl Tryd.underlying37 rfl (by kernel_rfl) ?_; simp only [Act.put, List.setIfInBounds_toArray, List.set_cons_zero, List.set_cons_succ]; go_big_quiet_on) | (go_big_quiet_want; refine mq_loadS rfl rfl (by first | exact .head _ | exact .tail _ (.head _) | exact .tail _ (.tail _ (.head _)) | exact .tail _ (.tail _ (.tail _ (.head _))) | exact .tail _ (.tail _ (.tail _ (.tail _ (.head _)))) | exact .tail _ (.tail _ (.tail _ (.tail _ (.tail _ (.head _))))) | exact .tail _ (.tail _ (.tail _ (.tail _ (.tail _ (.tail _ (.head _)))))) | exact .tail _ (.tail _ (.tail _ (.tail _ (.tail _ (.tail _ (.tail _ (.head _)))))))) (scrL s mi oi ti) rfl Tryd.underlying37 rfl (by kernel_rfl) ?_; simp only [Act.put, List.setIfInBounds_toArray, List.set_cons_zero, List.set_cons_succ]; go_big_quiet_on) | (go_big_quiet_want; refine mq_loadS rfl rfl (by first | exact .head _ | exact .tail _ (.head _) | exact .tail _ (.tail _ (.head _)) | exact .tail _ (.tail _ (.tail _ (.head _))) | exact .tail _ (.tail _ (.tail _ (.tail _ (.head _)))) | exact .tail _ (.tail _ (.tail _ (.tail _ (.tail _ (.head _))))) | exact .tail _ (.tail _ (.tail _ (.tail _ (.tail _ (.tail _ (.head _)))))) | exact .tail _ (.tail _ (.tail _ (.tail _ (.tail _ (.tail _ (.tail _ (.head _)))))))) (scrL s m o t) rfl Tryd.underlying37 rfl (by kernel_rfl) ?_; simp only [Act.put, List.setIfInBounds_toArray, List.set_cons_zero, List.set_cons_succ]; go_big_quiet_on) | go_big_quiet_step ((first | (go_at_call 60; with_reducible exact m_still _ (num8_any _ _)) | (go_at_call 28; with_reducible exact m_call _ (HE1.out _ (MemW.below _))) | (go_at_call 28; with_reducible exact m_call _ (HE2.out _ (HB.out.trans ((MemW.below _).mono HB.out.size)))))))
  refine wpQuiet_nil ?_
  intro w5 hM
  have HB5 := hid hM.below
  have HM' := hid (hM.lower HB.out)
  have hlt : w.heap.size < w5.heap.size := Nat.lt_of_le_of_lt (hM.here _ (.head _)).1 (hM.lt (.head _))
  have HO5 := hid (HO.out.below hM.below)
  have HS : Hid (Calls Tryd.prog 61 #[.agg (scrL r mx ox tx).toArray] w5 _) := hid (spoilA_any (HO.out.below hM.below) HR.out HO.out hlt)
  clear hM HM hlt
  have HM := HM'
  clear HM' HX HE1 HR HO
  go_wp2_with (first | ((with_reducible refine wl_id ?_); refine m_loadS HM.out rfl rfl rfl (by first | exact .head _ | exact .tail _ (.head _) | exact .tail _ (.tail _ (.head _)) | exact .tail _ (.tail _ (.tail _ (.head _))) | exact .tail _ (.tail _ (.tail _ (.tail _ (.head _)))) | exact .tail _ (.tail _ (.tail _ (.tail _ (.tail _ (.head _))))) | exact .tail _ (.tail _ (.tail _ (.tail _ (.tail _ (.tail _ (.head _)))))) | exact .tail _ (.tail _ (.tail _ (.tail _ (.tail _ (.tail _ (.tail _ (.head _)))))))) (scrL r mx ox tx) rfl Tryd.underlying37 rfl (by kernel_rfl) ?_; simp only [Act.put, List.setIfInBounds_toArray, List.set_cons_zero, List.set_cons_succ]) | (go_at_call 61; fail))
  refine HS.out.mono ?_
  rintro e w6 ⟨rfl, hA⟩
  have HA := hid hA
  have HM6 := hid (HM.out.apart3 hA HO5.out (Nat.le_refl _) (fun x hx => by
    rcases List.mem_cons.1 hx with rfl | hx
    · exact ⟨_, _, rfl, rfl, rfl⟩
    rcases List.mem_cons.1 hx with rfl | hx
    · exact ⟨_, _, rfl, rfl, rfl⟩
    rcases List.mem_cons.1 hx with rfl | hx
    · exact ⟨_, _, rfl, rfl, rfl⟩
    rcases List.mem_cons.1 hx with rfl | hx
    · exact ⟨_, _, rfl, rfl, rfl⟩
    · cases hx))
  clear hA HM HS
  have HM := HM6
  clear HM6
  go_wp2_with (first | ((with_reducible refine wl_id ?_); refine m_loadS HM.out rfl rfl rfl (by first | exact .head _ | exact .tail _ (.head _) | exact .tail _ (.tail _ (.head _)) | exact .tail _ (.tail _ (.tail _ (.head _))) | exact .tail _ (.tail _ (.tail _ (.tail _ (.head _)))) | exact .tail _ (.tail _ (.tail _ (.tail _ (.tail _ (.head _))))) | exact .tail _ (.tail _ (.tail _ (.tail _ (.tail _ (.tail _ (.head _)))))) | exact .tail _ (.tail _ (.tail _ (.tail _ (.tail _ (.tail _ (.tail _ (.head _)))))))) (scrL s mi oi ti) rfl Tryd.underlying37 rfl (by kernel_rfl) ?_; simp only [Act.put, List.setIfInBounds_toArray, List.set_cons_zero, List.set_cons_succ]) | ((with_reducible refine wl_id ?_); refine m_loadS HM.out rfl rfl rfl (by first | exact .head _ | exact .tail _ (.head _) | exact .tail _ (.tail _ (.head _)) | exact .tail _ (.tail _ (.tail _ (.head _))) | exact .tail _ (.tail _ (.tail _ (.tail _ (.head _)))) | exact .tail _ (.tail _ (.tail _ (.tail _ (.tail _ (.head _))))) | exact .tail _ (.tail _ (.tail _ (.tail _ (.tail _ (.tail _ (.head _)))))) | exact .tail _ (.tail _ (.tail _ (.tail _ (.tail _ (.tail _ (.tail _ (.head _)))))))) (scrL s m o t) rfl Tryd.underlying37 rfl (by kernel_rfl) ?_; simp only [Act.put, List.setIfInBounds_toArray, List.set_cons_zero, List.set_cons_succ]) | (go_at_call 28; fail))
  refine (HE2.out _ HM.out.below).mono ?_
  rintro e w7 ⟨rfl, hB7⟩
  have HB7 := hid hB7
  clear hB7
  go_wp2
  go_ret
  exact ⟨rfl, Apart3.trans_below HB5.out HA.out HB7.out⟩
set_option maxRecDepth 100000 in
set_option maxHeartbeats 2000000 in
theorem same_notA {r s : Scr} {mx ox tx mw ow tw mi oi ti m o t : Value} {wB w : World} (hB : Below wB.heap.size wB w) (hO : OwnScr w wB.heap.size zS mx ox tx) (hi : RdScr wB s mi oi ti) (hs : RdScr wB s m o t) :
    Calls Tryd.prog 37 #[.agg (scrL zS mx ox tx).toArray, .int .i64 1, .bool false, .agg (scrL r mw ow tw).toArray, .agg (scrL s mi oi ti).toArray, .agg (scrL s m o t).toArray] w fun e w' => e = .returned (.bool true) ∧ Apart3 w w' mx ox tx := by
  have HB := hid hB
  have HO := hid hO
  have HR := hid zS_small
  have HE1 : Hid (∀ W, Below w.heap.size w W → Calls Tryd.prog 28 #[.agg (scrL zS mx ox tx).toArray, .agg zL.toArray] W fun e w' => e = .returned (.bool true) ∧ Below W.heap.size W w') := hid fun W hW => eqS_yes ((hO.rd zS_small).below hW) (zS_rd W)
  have HE2 : Hid (∀ W, Below wB.heap.size wB W → Calls Tryd.prog 28 #[.agg (scrL s mi oi ti).toArray, .agg (scrL s m o t).toArray] W fun e w' => e = .returned (.bool true) ∧ Below W.heap.size W w') := hid fun W hW => eqS_yes (hi.below hW) (hs.below hW)
  have HX := hid (Mem.start w)
  clear hB hO hi hs
  go_enter Tryd.func37, Tryd.ntmps37
  go_upto_region 0 with (fail)
  refine wp_region_lit ?_
  refine m_box HX.out rfl rfl rfl ?_
  intro b1 w1 hM1
  simp only [Act.put, List.setIfInBounds_toArray, List.set_cons_zero, List.set_cons_succ]
  refine m_box hM1 rfl rfl rfl ?_
  intro b2 w2 hM2
  simp only [Act.put, List.setIfInBounds_toArray, List.set_cons_zero, List.set_cons_succ]
  refine m_box hM2 rfl rfl rfl ?_
  intro b3 w3 hM3
  simp only [Act.put, List.setIfInBounds_toArray, List.set_cons_zero, List.set_cons_succ]
  refine m_box hM3 rfl rfl rfl ?_
  intro b4 w4 hM
  simp only [Act.put, List.setIfInBounds_toArray, List.set_cons_zero, List.set_cons_succ]
  have HM := hid hM
  clear hM hM1 hM2 hM3
  go_upto_region 4 with (fail)
  refine wp_region_lit ?_
  refine m_build0 rfl rfl (build_zS _) ?_
  simp only [Act.put, List.setIfInBounds_toArray, List.set_cons_zero, List.set_cons_succ]
  refine m_storeA HM.out rfl rfl rfl 2 rfl rfl rfl (by kernel_rfl) rfl ?_
  intro w4 hM
  simp only [Act.put, List.setIfInBounds_toArray, List.set_cons_zero, List.set_cons_succ]
  clear HM
  have HM := hid (show Mem w w4 [(b4, Row 37 (scrL s m o t)), (b3, Row 37 (scrL s mi oi ti)), (b2, Row 37 zL), (b1, Row 37 (scrL zS mx ox tx))] from hM)
  clear hM
  go_upto_region 5 with (fail)
  refine m_seq HM.out fun hne => ?_
  repeat (first | (go_big_quiet_want; refine mq_load rfl rfl (by first | exact .head _ | exact .tail _ (.head _) | exact .tail _ (.tail _ (.head _)) | exact .tail _ (.tail _ (.tail _ (.head _))) | exact .tail _ (.tail _ (.tail _ (.tail _ (.head _)))) | exact .tail _ (.tail _ (.tail _ (.tail _ (.tail _ (.head _))))) | exact .tail _ (.tail _ (.tail _ (.tail _ (.tail _ (.tail _ (.head _)))))) | exact .tail _ (.tail _ (.tail _ (.tail _ (.tail _ (.tail _ (.tail _ (.head _)))))))) rfl (by first | exact Tryd.underlying3 | exact Tryd.underlying4 | exact Tryd.underlying9 | exact Tryd.underlying28 | exact Tryd.underlying35) rfl ?_; simp only [Act.put, List.setIfInBounds_toArray, List.set_cons_zero, List.set_cons_succ]; go_big_quiet_on) | (go_big_quiet_want; refine mq_loadS rfl rfl (by first | exact .head _ | exact .tail _ (.head _) | exact .tail _ (.tail _ (.head _)) | exact .tail _ (.tail _ (.tail _ (.head _))) | exact .tail _ (.tail _ (.tail _ (.tail _ (.head _)))) | exact .tail _ (.tail _ (.tail _ (.tail _ (.tail _ (.head _))))) | exact .tail _ (.tail _ (.tail _ (.tail _ (.tail _ (.tail _ (.head _)))))) | exact .tail _ (.tail _ (.tail _ (.tail _ (.tail _ (.tail _ (.tail _ (.head _)))))))) (scrL zS mx ox tx) rfl Tryd.underlying37 rfl (by kernel_rfl) ?_; simp only [Act.put, List.setIfInBounds_toArray, List.set_cons_zero, List.set_cons_succ]; go_big_quiet_on) | (go_big_quiet_want; refine mq_loadS rfl rfl (by first | exact .head _ | exact .tail _ (.head _) | exact .tail _ (.tail _ (.head _)) | exact .tail _ (.tail _ (.tail _ (.head _))) | exact .tail _ (.tail _ (.tail _ (.tail _ (.head _)))) | exact .tail _ (.tail _ (.tail _ (.tail _ (.tail _ (.head _))))) | exact .tail _ (.tail _ (.tail _ (.tail _ (.tail _ (.tail _ (.head _)))))) | exact .tail _ (.tail _ (.tail _ (.tail _ (.tail _ (.tail _ (.tail _ (.head _)))))))) (zL) rfl Tryd.underlying37 rfl (by kernel_rfl) ?_; simp only [Act.put, List.setIfInBounds_toArray, List.set_cons_zero, List.set_cons_succ]; go_big_quiet_on) | (go_big_quiet_want; refine mq_loadS rfl rfl (by first | exact .head _ | exact .tail _ (.head _) | exact .tail _ (.tail _ (.head _)) | exact .tail _ (.tail _ (.tail _ (.head _))) | exact .tail _ (.tail _ (.tail _ (.tail _ (.head _)))) | exact .tail _ (.tail _ (.tail _ (.tail _ (.tail _ (.head _))))) | exact .tail _ (.tail _ (.tail _ (.tail _ (.tail _ (.tail _ (.head _)))))) | exact .tail _ (.tail _ (.tail _ (.tail _ (.tail _ (.tail _ (.tail _ (.head _)))))))) (scrL s mi oi ti) rfl Tryd.underlying37 rfl (by kernel_rfl) ?_; simp only [Act.put, List.setIfInBounds_toArray, List.set_cons_zero, List.set_cons_succ]; go_big_quiet_on) | (go_big_quiet_want; refine mq_loadS rfl rfl (by first | exact .head _ | exact .tail _ (.head _) | exact .tail _ (.tail _ (.head _)) | exact .tail _ (.tail _ (.tail _ (.head _))) | exact .tail _ (.tail _ (.tail _ (.tail _ (.head _)))) | exact .tail _ (.tail _ (.tail _ (.tail _ (.tail _ (.head _))))) | exact .tail _ (.tail _ (.tail _ (.tail _ (.tail _ (.tail _ (.head _)))))) | exact .tail _ (.tail _ (.tail _ (.tail _ (.tail _ (.tail _ (.tail _ (.head _)))))))) (scrL s m o t) rfl Tryd.underlying37 rfl (by kernel_rfl) ?_; simp only [Act.put, List.setIfInBounds_toArray, List.set_cons_zero, List.set_cons_succ]; go_big_quiet_on) | go_big_quiet_step ((first | (go_at_call 60; with_reducible exact m_still _ (num8_any _ _)) | (go_at_call 28; with_reducible exact m_call _ (HE1.out _ (MemW.below _))) | (go_at_call 28; with_reducible exact m_call _ (HE2.out _ (HB.out.trans ((MemW.below _).mono HB.out.size)))))))
  refine wpQuiet_nil ?_
  intro w5 hM
  have HB5 := hid hM.below
  have HM' := hid (hM.lower HB.out)
  have hlt : w.heap.size < w5.heap.size := Nat.lt_of_le_of_lt (hM.here _ (.head _)).1 (hM.lt (.head _))
  have HO5 := hid (HO.out.below hM.below)
  have HS : Hid (Calls Tryd.prog 61 #[.agg (scrL zS mx ox tx).toArray] w5 _) := hid (spoilA_any (HO.out.below hM.below) HR.out HO.out hlt)
  clear hM HM hlt
  have HM := HM'
  clear HM' HX HE1 HR HO
  go_wp2_with (first | ((with_reducible refine wl_id ?_); refine m_loadS HM.out rfl rfl rfl (by first | exact .head _ | exact .tail _ (.head _) | exact .tail _ (.tail _ (.head _)) | exact .tail _ (.tail _ (.tail _ (.head _))) | exact .tail _ (.tail _ (.tail _ (.tail _ (.head _)))) | exact .tail _ (.tail _ (.tail _ (.tail _ (.tail _ (.head _))))) | exact .tail _ (.tail _ (.tail _ (.tail _ (.tail _ (.tail _ (.head _)))))) | exact .tail _ (.tail _ (.tail _ (.tail _ (.tail _ (.tail _ (.tail _ (.head _)))))))) (scrL zS mx ox tx) rfl Tryd.underlying37 rfl (by kernel_rfl) ?_; simp only [Act.put, List.setIfInBounds_toArray, List.set_cons_zero, List.set_cons_succ]) | (go_at_call 61; fail))
  refine HS.out.mono ?_
  rintro e w6 ⟨rfl, hA⟩
  have HA := hid hA
  have HM6 := hid (HM.out.apart3 hA HO5.out (Nat.le_refl _) (fun x hx => by
    rcases List.mem_cons.1 hx with rfl | hx
    · exact ⟨_, _, rfl, rfl, rfl⟩
    rcases List.mem_cons.1 hx with rfl | hx
    · exact ⟨_, _, rfl, rfl, rfl⟩
    rcases List.mem_cons.1 hx with rfl | hx
    · exact ⟨_, _, rfl, rfl, rfl⟩
    rcases List.mem_cons.1 hx with rfl | hx
    · exact ⟨_, _, rfl, rfl, rfl⟩
    · cases hx))
  clear hA HM HS
  have HM := HM6
  clear HM6
  go_wp2_with (first | ((with_reducible refine wl_id ?_); refine m_loadS HM.out rfl rfl rfl (by first | exact .head _ | exact .tail _ (.head _) | exact .tail _ (.tail _ (.head _)) | exact .tail _ (.tail _ (.tail _ (.head _))) | exact .tail _ (.tail _ (.tail _ (.tail _ (.head _)))) | exact .tail _ (.tail _ (.tail _ (.tail _ (.tail _ (.head _))))) | exact .tail _ (.tail _ (.tail _ (.tail _ (.tail _ (.tail _ (.head _)))))) | exact .tail _ (.tail _ (.tail _ (.tail _ (.tail _ (.tail _ (.tail _ (.head _)))))))) (scrL s mi oi ti) rfl Tryd.underlying37 rfl (by kernel_rfl) ?_; simp only [Act.put, List.setIfInBounds_toArray, List.set_cons_zero, List.set_cons_succ]) | ((with_reducible refine wl_id ?_); refine m_loadS HM.out rfl rfl rfl (by first | exact .head _ | exact .tail _ (.head _) | exact .tail _ (.tail _ (.head _)) | exact .tail _ (.tail _ (.tail _ (.head _))) | exact .tail _ (.tail _ (.tail _ (.tail _ (.head _)))) | exact .tail _ (.tail _ (.tail _ (.tail _ (.tail _ (.head _))))) | exact .tail _ (.tail _ (.tail _ (.tail _ (.tail _ (.tail _ (.head _)))))) | exact .tail _ (.tail _ (.tail _ (.tail _ (.tail _ (.tail _ (.tail _ (.head _)))))))) (scrL s m o t) rfl Tryd.underlying37 rfl (by kernel_rfl) ?_; simp only [Act.put, List.setIfInBounds_toArray, List.set_cons_zero, List.set_cons_succ]) | (go_at_call 28; fail))
  refine (HE2.out _ HM.out.below).mono ?_
  rintro e w7 ⟨rfl, hB7⟩
  have HB7 := hid hB7
  clear hB7
  go_wp2
  go_ret
  exact ⟨rfl, Apart3.trans_below HB5.out HA.out HB7.out⟩
end Go.Proofs.YtbjckahaalbpaaaDoor
