/- Screens as lists of cells: contracts restated; grids and screens compared; an answer written over. -/
import Derived.Test.YtpmfjombfcnhmaaGreatDoorMem
import Derived.Test.YtpmfjombfcnhmaaGreatDoorSOwn
import Derived.Test.YtpmfjombfcnhmaaGreatDoorSEq
set_option linter.unusedVariables false
set_option linter.unusedSimpArgs false
namespace Go.Proofs.YtpmfjombfcnhmaaGreatDoor
open Go Go.RowKit

def scrL (s : Scr) (m o t : Value) : List Value := [.int .i64 s.mr, .int .i64 s.mc, m, .int .i64 s.orr, .int .i64 s.oc, o, .bool s.sw, .int .i64 s.cur.row, .int .i64 s.cur.col, .bool s.cur.wrap, .int .i64 s.cur.a.fg, .int .i64 s.cur.a.bg, .int .i64 s.cur.a.fl, .int .i64 s.cur.g0, .int .i64 s.cur.g1, .int .i64 s.cur.sh, .bool s.cur.org, .int .i64 s.sav.row, .int .i64 s.sav.col, .bool s.sav.wrap, .int .i64 s.sav.a.fg, .int .i64 s.sav.a.bg, .int .i64 s.sav.a.fl, .int .i64 s.sav.g0, .int .i64 s.sav.g1, .int .i64 s.sav.sh, .bool s.sav.org, .int .i64 s.too.row, .int .i64 s.too.col, .bool s.too.wrap, .int .i64 s.too.a.fg, .int .i64 s.too.a.bg, .int .i64 s.too.a.fl, .int .i64 s.too.g0, .int .i64 s.too.g1, .int .i64 s.too.sh, .bool s.too.org, .int .i64 s.top, .int .i64 s.bot, t, .int .i64 s.modes, .string s.title, .int .i64 s.last]
def curL (c : Cur) : List Value := [.int .i64 c.row, .int .i64 c.col, .bool c.wrap, .int .i64 c.a.fg, .int .i64 c.a.bg, .int .i64 c.a.fl, .int .i64 c.g0, .int .i64 c.g1, .int .i64 c.sh, .bool c.org]
def gridL (r c : Int) (v : Value) : List Value := [.int .i64 r, .int .i64 c, v]
/-- a screen that came in -/
def RdScr (w : World) (s : Scr) (m o t : Value) : Prop := RdC w m s.ms ∧ RdC w o s.os ∧ RdB w t s.tabs ∧ s.small
theorem RdScr.below {w w1 : World} {s : Scr} {m o t : Value} (h : RdScr w s m o t) (hb : Below w.heap.size w w1) : RdScr w1 s m o t := ⟨h.1.below hb, h.2.1.below hb, h.2.2.1.below hb, h.2.2.2⟩
/-- a screen in new memory -/
structure OwnScr (w : World) (base : Nat) (s : Scr) (m o t : Value) : Prop where
  hm : OwnC w base m s.ms
  ho : OwnC w base o s.os
  ht : OwnB w base t s.tabs
  mo : apartV m o
  mt : apartV m t
  ot : apartV o t
theorem OwnScr.below {w w1 : World} {base : Nat} {s : Scr} {m o t : Value} (h : OwnScr w base s m o t) (hb : Below w.heap.size w w1) : OwnScr w1 base s m o t := ⟨h.hm.below hb, h.ho.below hb, h.ht.below hb, h.mo, h.mt, h.ot⟩
theorem OwnScr.rd {w : World} {base : Nat} {s : Scr} {m o t : Value} (h : OwnScr w base s m o t) (hs : s.small) : RdScr w s m o t := ⟨h.hm.rd, h.ho.rd, h.ht.rd, hs⟩

theorem mayS_l {s : Scr} {x : Bool} (h : scrB s = x) {m o t : Value} {w : World} (hr : RdScr w s m o t) (hT : U8 w) :
    Calls Tryz.prog 30 #[.agg (scrL s m o t).toArray] w fun e w' => e = .returned (.bool x) ∧ Below w.heap.size w w' := mayS_is h m o t w hr.1 hr.2.1 hr.2.2.1 hr.2.2.2 hT
theorem rS_l {s : Scr} {x : Bool} (h : scrB s = x) {m o t : Value} {w : World} (hr : RdScr w s m o t) (hT : U8 w) :
    Calls Tryz.prog 21 #[.agg (scrL s m o t).toArray] w fun e w' => e = .returned (.bool x) ∧ Below w.heap.size w w' := rS_is h m o t w hr.1 hr.2.1 hr.2.2.1 hr.2.2.2 hT
theorem ownS_l {s : Scr} {m o t : Value} {w : World} (hr : RdScr w s m o t) :
    Calls Tryz.prog 32 #[.agg (scrL s m o t).toArray] w fun e w' => ∃ m' o' t', e = .returned (.agg (scrL s m' o' t').toArray) ∧ OwnScr w' w.heap.size s m' o' t' ∧ Below w.heap.size w w' :=
  (ownS_any s m o t w hr.1 hr.2.1 hr.2.2.1 hr.2.2.2).mono fun e w' ⟨m', o', t', he, h1, h2, h3, h4, h5, h6, h7⟩ => ⟨m', o', t', he, ⟨h1, h2, h3, h5, h6, h7⟩, h4⟩
theorem copyS_l {s : Scr} {m o t : Value} {w : World} (hr : RdScr w s m o t) :
    Calls Tryz.prog 19 #[.agg (scrL s m o t).toArray] w fun e w' => ∃ m' o' t', e = .returned (.agg (scrL s m' o' t').toArray) ∧ OwnScr w' w.heap.size s m' o' t' ∧ Below w.heap.size w w' :=
  (copyS_any s m o t w hr.1 hr.2.1 hr.2.2.1 hr.2.2.2).mono fun e w' ⟨m', o', t', he, h1, h2, h3, h4, h5, h6, h7⟩ => ⟨m', o', t', he, ⟨h1, h2, h3, h5, h6, h7⟩, h4⟩

theorem run_loadAt_rowS {P : Program} {w0 w : World} {F : List Ent} (hM : Mem w0 w F) {b o : Nat} {t : TypeId} {l : List Value} (hF : (b, Row t l) ∈ F) {ty : TypeId} (cs : List Value) (hv : (l.drop o).take cs.length = cs) {d : TypeDesc} (hu : P.underlying ty = some d) (hd : d.isRow = true) (hi : (P.info? ty).map (·.size) = some cs.length) :
    (Instr.loadAt ty (.pointer (some ⟨b, o, none⟩))).run P w = .ok (.agg cs.toArray) w := run_loadAt_mid w b o ty cs d (hM.range hF hv) hu hd hi

theorem beqc (x : Cur) (w : World) : (binOp .eql 35 (.agg (curL x).toArray) (.agg (curL x).toArray)).run Tryz.prog w = .ok (.bool true) w := by
  have := eql_cur x x w
  rw [curSame_iff.2 rfl] at this
  exact this

set_option maxHeartbeats 4000000 in
set_option maxRecDepth 100000 in
theorem eqS_yes {s : Scr} {m o t m2 o2 t2 : Value} {w : World} (h1 : RdScr w s m o t) (h2 : RdScr w s m2 o2 t2) :
    Calls Tryz.prog 49 #[.agg (scrL s m o t).toArray, .agg (scrL s m2 o2 t2).toArray] w fun e w' => e = .returned (.bool true) ∧ Below w.heap.size w w' := by
  have HA : Hid (∀ W, Below w.heap.size w W → Calls Tryz.prog 82 #[.agg (gridL s.mr s.mc m).toArray, .agg (gridL s.mr s.mc m2).toArray] W fun e w' => e = .returned (.bool true) ∧ Below W.heap.size W w') := hid fun W hW => eqG_is (by simp) _ _ W (h1.1.below hW) (h2.1.below hW) h1.2.2.2.1 h1.2.2.2.1
  have HB : Hid (∀ W, Below w.heap.size w W → Calls Tryz.prog 82 #[.agg (gridL s.orr s.oc o).toArray, .agg (gridL s.orr s.oc o2).toArray] W fun e w' => e = .returned (.bool true) ∧ Below W.heap.size W w') := hid fun W hW => eqG_is (by simp) _ _ W (h1.2.1.below hW) (h2.2.1.below hW) h1.2.2.2.2.1 h1.2.2.2.2.1
  have HC : Hid (∀ W, Below w.heap.size w W → Calls Tryz.prog 83 #[t, t2] W fun e w' => e = .returned (.bool true) ∧ Below W.heap.size W w') := hid fun W hW => by
    have := eqB_any s.tabs s.tabs t t2 W (h1.2.2.1.below hW) (h2.2.2.1.below hW) (by have := h1.2.2.2.2.2.1; omega) (by have := h1.2.2.2.2.2.1; omega)
    rw [decide_eq_true rfl] at this; exact this
  have HX := hid (Mem.start w)
  clear h1 h2
  go_enter Tryz.func49, Tryz.ntmps49
  go_upto_region 0 with (fail)
  refine wp_region_lit ?_
  refine m_box HX.out rfl rfl rfl ?_
  intro b1 w1 hM1
  simp only [Act.put, List.setIfInBounds_toArray, List.set_cons_zero, List.set_cons_succ]
  refine m_box hM1 rfl rfl rfl ?_
  intro b2 w2 hM
  simp only [Act.put, List.setIfInBounds_toArray, List.set_cons_zero, List.set_cons_succ]
  clear hM1 HX
  have HM := hid hM
  clear hM
  go_upto_region 1 with (fail)
  refine m_seq HM.out fun hne => ?_
  simp only [List.append_eq, List.cons_append, List.nil_append]
  have hc1 := beqc s.cur
  have hc2 := beqc s.sav
  have hc3 := beqc s.too
  repeat (first | (go_big_quiet_want; refine mq_load rfl rfl (by first | exact .head _ | exact .tail _ (.head _) | exact .tail _ (.tail _ (.head _)) | exact .tail _ (.tail _ (.tail _ (.head _))) | exact .tail _ (.tail _ (.tail _ (.tail _ (.head _)))) | exact .tail _ (.tail _ (.tail _ (.tail _ (.tail _ (.head _))))) | exact .tail _ (.tail _ (.tail _ (.tail _ (.tail _ (.tail _ (.head _)))))) | exact .tail _ (.tail _ (.tail _ (.tail _ (.tail _ (.tail _ (.tail _ (.head _)))))))) rfl (by first | exact Tryz.underlying3 | exact Tryz.underlying4 | exact Tryz.underlying9 | exact Tryz.underlying29 | exact Tryz.underlying36) rfl ?_; simp only [Act.put, List.setIfInBounds_toArray, List.set_cons_zero, List.set_cons_succ]; go_big_quiet_on) | (go_big_quiet_want; refine mq_loadS rfl rfl (by first | exact .head _ | exact .tail _ (.head _) | exact .tail _ (.tail _ (.head _)) | exact .tail _ (.tail _ (.tail _ (.head _))) | exact .tail _ (.tail _ (.tail _ (.tail _ (.head _)))) | exact .tail _ (.tail _ (.tail _ (.tail _ (.tail _ (.head _))))) | exact .tail _ (.tail _ (.tail _ (.tail _ (.tail _ (.tail _ (.head _)))))) | exact .tail _ (.tail _ (.tail _ (.tail _ (.tail _ (.tail _ (.tail _ (.head _)))))))) (gridL s.mr s.mc m) rfl Tryz.underlying31 rfl (by kernel_rfl) ?_; simp only [Act.put, List.setIfInBounds_toArray, List.set_cons_zero, List.set_cons_succ]; go_big_quiet_on) | (go_big_quiet_want; refine mq_loadS rfl rfl (by first | exact .head _ | exact .tail _ (.head _) | exact .tail _ (.tail _ (.head _)) | exact .tail _ (.tail _ (.tail _ (.head _))) | exact .tail _ (.tail _ (.tail _ (.tail _ (.head _)))) | exact .tail _ (.tail _ (.tail _ (.tail _ (.tail _ (.head _))))) | exact .tail _ (.tail _ (.tail _ (.tail _ (.tail _ (.tail _ (.head _)))))) | exact .tail _ (.tail _ (.tail _ (.tail _ (.tail _ (.tail _ (.tail _ (.head _)))))))) (gridL s.mr s.mc m2) rfl Tryz.underlying31 rfl (by kernel_rfl) ?_; simp only [Act.put, List.setIfInBounds_toArray, List.set_cons_zero, List.set_cons_succ]; go_big_quiet_on) | (go_big_quiet_want; refine mq_loadS rfl rfl (by first | exact .head _ | exact .tail _ (.head _) | exact .tail _ (.tail _ (.head _)) | exact .tail _ (.tail _ (.tail _ (.head _))) | exact .tail _ (.tail _ (.tail _ (.tail _ (.head _)))) | exact .tail _ (.tail _ (.tail _ (.tail _ (.tail _ (.head _))))) | exact .tail _ (.tail _ (.tail _ (.tail _ (.tail _ (.tail _ (.head _)))))) | exact .tail _ (.tail _ (.tail _ (.tail _ (.tail _ (.tail _ (.tail _ (.head _)))))))) (gridL s.orr s.oc o) rfl Tryz.underlying31 rfl (by kernel_rfl) ?_; simp only [Act.put, List.setIfInBounds_toArray, List.set_cons_zero, List.set_cons_succ]; go_big_quiet_on) | (go_big_quiet_want; refine mq_loadS rfl rfl (by first | exact .head _ | exact .tail _ (.head _) | exact .tail _ (.tail _ (.head _)) | exact .tail _ (.tail _ (.tail _ (.head _))) | exact .tail _ (.tail _ (.tail _ (.tail _ (.head _)))) | exact .tail _ (.tail _ (.tail _ (.tail _ (.tail _ (.head _))))) | exact .tail _ (.tail _ (.tail _ (.tail _ (.tail _ (.tail _ (.head _)))))) | exact .tail _ (.tail _ (.tail _ (.tail _ (.tail _ (.tail _ (.tail _ (.head _)))))))) (gridL s.orr s.oc o2) rfl Tryz.underlying31 rfl (by kernel_rfl) ?_; simp only [Act.put, List.setIfInBounds_toArray, List.set_cons_zero, List.set_cons_succ]; go_big_quiet_on) | (go_big_quiet_want; refine mq_loadS rfl rfl (by first | exact .head _ | exact .tail _ (.head _) | exact .tail _ (.tail _ (.head _)) | exact .tail _ (.tail _ (.tail _ (.head _))) | exact .tail _ (.tail _ (.tail _ (.tail _ (.head _)))) | exact .tail _ (.tail _ (.tail _ (.tail _ (.tail _ (.head _))))) | exact .tail _ (.tail _ (.tail _ (.tail _ (.tail _ (.tail _ (.head _)))))) | exact .tail _ (.tail _ (.tail _ (.tail _ (.tail _ (.tail _ (.tail _ (.head _)))))))) (curL s.cur) rfl Tryz.underlying35 rfl (by kernel_rfl) ?_; simp only [Act.put, List.setIfInBounds_toArray, List.set_cons_zero, List.set_cons_succ]; go_big_quiet_on) | (go_big_quiet_want; refine mq_loadS rfl rfl (by first | exact .head _ | exact .tail _ (.head _) | exact .tail _ (.tail _ (.head _)) | exact .tail _ (.tail _ (.tail _ (.head _))) | exact .tail _ (.tail _ (.tail _ (.tail _ (.head _)))) | exact .tail _ (.tail _ (.tail _ (.tail _ (.tail _ (.head _))))) | exact .tail _ (.tail _ (.tail _ (.tail _ (.tail _ (.tail _ (.head _)))))) | exact .tail _ (.tail _ (.tail _ (.tail _ (.tail _ (.tail _ (.tail _ (.head _)))))))) (curL s.sav) rfl Tryz.underlying35 rfl (by kernel_rfl) ?_; simp only [Act.put, List.setIfInBounds_toArray, List.set_cons_zero, List.set_cons_succ]; go_big_quiet_on) | (go_big_quiet_want; refine mq_loadS rfl rfl (by first | exact .head _ | exact .tail _ (.head _) | exact .tail _ (.tail _ (.head _)) | exact .tail _ (.tail _ (.tail _ (.head _))) | exact .tail _ (.tail _ (.tail _ (.tail _ (.head _)))) | exact .tail _ (.tail _ (.tail _ (.tail _ (.tail _ (.head _))))) | exact .tail _ (.tail _ (.tail _ (.tail _ (.tail _ (.tail _ (.head _)))))) | exact .tail _ (.tail _ (.tail _ (.tail _ (.tail _ (.tail _ (.tail _ (.head _)))))))) (curL s.too) rfl Tryz.underlying35 rfl (by kernel_rfl) ?_; simp only [Act.put, List.setIfInBounds_toArray, List.set_cons_zero, List.set_cons_succ]; go_big_quiet_on) | go_big_quiet_step ((first | (go_at_call 82; with_reducible exact m_call _ (HA.out _ (MemW.below _))) | (go_at_call 82; with_reducible exact m_call _ (HB.out _ (MemW.below _))) | (go_at_call 83; with_reducible exact m_call _ (HC.out _ (MemW.below _))))))
  refine wpQuiet_nil ?_
  intro w' hM'
  have HM' := hid hM'
  clear hM'
  go_wp2
  go_ret
  exact ⟨rfl, HM'.out.below⟩
end Go.Proofs.YtpmfjombfcnhmaaGreatDoor
