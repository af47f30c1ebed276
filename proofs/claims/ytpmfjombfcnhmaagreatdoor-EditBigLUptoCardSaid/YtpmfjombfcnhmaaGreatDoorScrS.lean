/- Screens, by the reference: the whole. -/
import Derived.Test.YtpmfjombfcnhmaaGreatDoorScrR
set_option linter.unusedVariables false
set_option linter.unusedSimpArgs false
namespace Go.Proofs.YtpmfjombfcnhmaaGreatDoor
open Go Go.RowKit

theorem scr_cur (s : Scr) (m o t : Value) (k : Nat) (v : Value) (hk : (#[.int .i64 s.cur.row, .int .i64 s.cur.col, .bool s.cur.wrap, .int .i64 s.cur.a.fg, .int .i64 s.cur.a.bg, .int .i64 s.cur.a.fl, .int .i64 s.cur.g0, .int .i64 s.cur.g1, .int .i64 s.cur.sh, .bool s.cur.org] : Array Value)[k]? = some v) : (#[.int .i64 s.mr, .int .i64 s.mc, m, .int .i64 s.orr, .int .i64 s.oc, o, .bool s.sw, .int .i64 s.cur.row, .int .i64 s.cur.col, .bool s.cur.wrap, .int .i64 s.cur.a.fg, .int .i64 s.cur.a.bg, .int .i64 s.cur.a.fl, .int .i64 s.cur.g0, .int .i64 s.cur.g1, .int .i64 s.cur.sh, .bool s.cur.org, .int .i64 s.sav.row, .int .i64 s.sav.col, .bool s.sav.wrap, .int .i64 s.sav.a.fg, .int .i64 s.sav.a.bg, .int .i64 s.sav.a.fl, .int .i64 s.sav.g0, .int .i64 s.sav.g1, .int .i64 s.sav.sh, .bool s.sav.org, .int .i64 s.too.row, .int .i64 s.too.col, .bool s.too.wrap, .int .i64 s.too.a.fg, .int .i64 s.too.a.bg, .int .i64 s.too.a.fl, .int .i64 s.too.g0, .int .i64 s.too.g1, .int .i64 s.too.sh, .bool s.too.org, .int .i64 s.top, .int .i64 s.bot, t, .int .i64 s.modes, .string s.title, .int .i64 s.last] : Array Value)[7 + k]? = some v := by
  match k with
  | 0 | 1 | 2 | 3 | 4 | 5 | 6 | 7 | 8 | 9 => exact hk
  | k + 10 => simp at hk
theorem scr_sav (s : Scr) (m o t : Value) (k : Nat) (v : Value) (hk : (#[.int .i64 s.sav.row, .int .i64 s.sav.col, .bool s.sav.wrap, .int .i64 s.sav.a.fg, .int .i64 s.sav.a.bg, .int .i64 s.sav.a.fl, .int .i64 s.sav.g0, .int .i64 s.sav.g1, .int .i64 s.sav.sh, .bool s.sav.org] : Array Value)[k]? = some v) : (#[.int .i64 s.mr, .int .i64 s.mc, m, .int .i64 s.orr, .int .i64 s.oc, o, .bool s.sw, .int .i64 s.cur.row, .int .i64 s.cur.col, .bool s.cur.wrap, .int .i64 s.cur.a.fg, .int .i64 s.cur.a.bg, .int .i64 s.cur.a.fl, .int .i64 s.cur.g0, .int .i64 s.cur.g1, .int .i64 s.cur.sh, .bool s.cur.org, .int .i64 s.sav.row, .int .i64 s.sav.col, .bool s.sav.wrap, .int .i64 s.sav.a.fg, .int .i64 s.sav.a.bg, .int .i64 s.sav.a.fl, .int .i64 s.sav.g0, .int .i64 s.sav.g1, .int .i64 s.sav.sh, .bool s.sav.org, .int .i64 s.too.row, .int .i64 s.too.col, .bool s.too.wrap, .int .i64 s.too.a.fg, .int .i64 s.too.a.bg, .int .i64 s.too.a.fl, .int .i64 s.too.g0, .int .i64 s.too.g1, .int .i64 s.too.sh, .bool s.too.org, .int .i64 s.top, .int .i64 s.bot, t, .int .i64 s.modes, .string s.title, .int .i64 s.last] : Array Value)[17 + k]? = some v := by
  match k with
  | 0 | 1 | 2 | 3 | 4 | 5 | 6 | 7 | 8 | 9 => exact hk
  | k + 10 => simp at hk
theorem scr_too (s : Scr) (m o t : Value) (k : Nat) (v : Value) (hk : (#[.int .i64 s.too.row, .int .i64 s.too.col, .bool s.too.wrap, .int .i64 s.too.a.fg, .int .i64 s.too.a.bg, .int .i64 s.too.a.fl, .int .i64 s.too.g0, .int .i64 s.too.g1, .int .i64 s.too.sh, .bool s.too.org] : Array Value)[k]? = some v) : (#[.int .i64 s.mr, .int .i64 s.mc, m, .int .i64 s.orr, .int .i64 s.oc, o, .bool s.sw, .int .i64 s.cur.row, .int .i64 s.cur.col, .bool s.cur.wrap, .int .i64 s.cur.a.fg, .int .i64 s.cur.a.bg, .int .i64 s.cur.a.fl, .int .i64 s.cur.g0, .int .i64 s.cur.g1, .int .i64 s.cur.sh, .bool s.cur.org, .int .i64 s.sav.row, .int .i64 s.sav.col, .bool s.sav.wrap, .int .i64 s.sav.a.fg, .int .i64 s.sav.a.bg, .int .i64 s.sav.a.fl, .int .i64 s.sav.g0, .int .i64 s.sav.g1, .int .i64 s.sav.sh, .bool s.sav.org, .int .i64 s.too.row, .int .i64 s.too.col, .bool s.too.wrap, .int .i64 s.too.a.fg, .int .i64 s.too.a.bg, .int .i64 s.too.a.fl, .int .i64 s.too.g0, .int .i64 s.too.g1, .int .i64 s.too.sh, .bool s.too.org, .int .i64 s.top, .int .i64 s.bot, t, .int .i64 s.modes, .string s.title, .int .i64 s.last] : Array Value)[27 + k]? = some v := by
  match k with
  | 0 | 1 | 2 | 3 | 4 | 5 | 6 | 7 | 8 | 9 => exact hk
  | k + 10 => simp at hk

set_option maxHeartbeats 4000000 in
set_option maxRecDepth 100000 in
theorem rS_is {s : Scr} {x : Bool} (h : scrB s = x) (m o t : Value) (w : World) (hm : RdC w m s.ms) (ho : RdC w o s.os) (ht : RdB w t s.tabs) (hs : s.small) (hT : U8 w) :
    Calls Tryz.prog 21 #[.agg #[.int .i64 s.mr, .int .i64 s.mc, m, .int .i64 s.orr, .int .i64 s.oc, o, .bool s.sw, .int .i64 s.cur.row, .int .i64 s.cur.col, .bool s.cur.wrap, .int .i64 s.cur.a.fg, .int .i64 s.cur.a.bg, .int .i64 s.cur.a.fl, .int .i64 s.cur.g0, .int .i64 s.cur.g1, .int .i64 s.cur.sh, .bool s.cur.org, .int .i64 s.sav.row, .int .i64 s.sav.col, .bool s.sav.wrap, .int .i64 s.sav.a.fg, .int .i64 s.sav.a.bg, .int .i64 s.sav.a.fl, .int .i64 s.sav.g0, .int .i64 s.sav.g1, .int .i64 s.sav.sh, .bool s.sav.org, .int .i64 s.too.row, .int .i64 s.too.col, .bool s.too.wrap, .int .i64 s.too.a.fg, .int .i64 s.too.a.bg, .int .i64 s.too.a.fl, .int .i64 s.too.g0, .int .i64 s.too.g1, .int .i64 s.too.sh, .bool s.too.org, .int .i64 s.top, .int .i64 s.bot, t, .int .i64 s.modes, .string s.title, .int .i64 s.last]] w fun e w' => e = .returned (.bool x) ∧ Below w.heap.size w w' := by
  obtain ⟨l1, l2, l3, l4, l5, l6⟩ := hs
  obtain ⟨g1, hg1⟩ : ∃ v, gridB s.mr s.mc s.ms = v := ⟨_, rfl⟩
  obtain ⟨g2, hg2⟩ : ∃ v, gridB s.orr s.oc s.os = v := ⟨_, rfl⟩
  have HG1 := hid hg1
  have HS := newS_cells s m o t w
  have HWB : ∀ W, Below (newS s m o t w).heap.size (newS s m o t w) W → Below w.heap.size w W := fun W h => newS_below h
  have hGA : ∀ W, Below w.heap.size w W → Calls Tryz.prog 34 #[.agg #[.int .i64 s.mr, .int .i64 s.mc, m]] W fun e w' => e = .returned (.bool g1) ∧ Below W.heap.size W w' := fun W hW => rgrid_is hg1 m W (hm.below hW) l1 l5 (hT.below hW)
  have hGB : ∀ W, Below w.heap.size w W → Calls Tryz.prog 34 #[.agg #[.int .i64 s.orr, .int .i64 s.oc, o]] W fun e w' => e = .returned (.bool g2) ∧ Below W.heap.size W w' := fun W hW => rgrid_is hg2 o W (ho.below hW) l2 l6 (hT.below hW)
  obtain ⟨g3, hg3⟩ : ∃ v, decide (s.mr = s.orr) = v := ⟨_, rfl⟩
  obtain ⟨g4, hg4⟩ : ∃ v, decide (s.mc = s.oc) = v := ⟨_, rfl⟩
  have hG : gridsOk s = (g1 && g2 && g3 && g4) := by rw [gridsOk, hg1, hg2, hg3, hg4]
  have H := hid (show ((g1 && g2 && g3 && g4) && cursOk s && restOk s) = x by rw [← h, scrB, hG])
  have HT : Hid (∀ W, Below w.heap.size w W → U8 W) := hid fun W hW => hT.below hW
  have HTB : Hid (∀ W, Below w.heap.size w W → RdB W t s.tabs) := hid fun W hW => ht.below hW
  have e3 : (s.mr != s.orr) = !g3 := by rw [← hg3]; by_cases h : s.mr = s.orr <;> simp [h]
  have e4 : (s.mc != s.oc) = !g4 := by rw [← hg4]; by_cases h : s.mc = s.oc <;> simp [h]
  obtain ⟨wn, hwn⟩ : ∃ wn, wn = newS s m o t w := ⟨_, rfl⟩
  have HWN := hid hwn
  rw [← hwn] at HS HWB
  have HA : Hid (∀ x : After wn, Calls Tryz.prog 34 #[.agg #[.int .i64 s.mr, .int .i64 s.mc, m]] x.W _) := hid fun x => hGA x.W (HWB _ x.h)
  have HB : Hid (∀ x : After wn, Calls Tryz.prog 34 #[.agg #[.int .i64 s.orr, .int .i64 s.oc, o]] x.W _) := hid fun x => hGB x.W (HWB _ x.h)
  have hfin : (g1 && g2 && g3 && g4) = false → x = false := fun h => by rw [← H.out, h]; rfl
  clear h hm ho ht hT hGA hGB hg1 hg2 hg3 hg4 hG hwn
  have HHS := hid HS
  have HHW := hid HWB
  go_enter Tryz.func21, Tryz.ntmps21
  go_upto_region 1 with (fail)
  change Code.wp _ _ _ _ (newS s m o t w)
  rw [← HWN.out]
  have f0 : ∀ x : After wn, x.W.cell? ⟨w.heap.size, 0, none⟩ = some (.int .i64 s.mr) := fun x => HS x.W x.h 0 _ rfl; have f1 : ∀ x : After wn, x.W.cell? ⟨w.heap.size, 1, none⟩ = some (.int .i64 s.mc) := fun x => HS x.W x.h 1 _ rfl; have f2 : ∀ x : After wn, x.W.cell? ⟨w.heap.size, 2, none⟩ = some (m) := fun x => HS x.W x.h 2 _ rfl; have f3 : ∀ x : After wn, x.W.cell? ⟨w.heap.size, 3, none⟩ = some (.int .i64 s.orr) := fun x => HS x.W x.h 3 _ rfl; have f4 : ∀ x : After wn, x.W.cell? ⟨w.heap.size, 4, none⟩ = some (.int .i64 s.oc) := fun x => HS x.W x.h 4 _ rfl; have f5 : ∀ x : After wn, x.W.cell? ⟨w.heap.size, 5, none⟩ = some (o) := fun x => HS x.W x.h 5 _ rfl
  clear HS HWB
  have HF := hid hfin
  clear hfin
  cases g1 with
  | false =>
    have hx := HF.out (by simp)
    subst hx
    refine wp_region_seq (w0 := wn) (Below.refl _ _) ?_
    repeat (go_big_quiet_step ((first | (go_at_call 34; with_reducible exact after_call _ (HA.out _)) | (go_at_call 34; with_reducible exact after_call _ (HB.out _)))))
    refine wpQuiet_nil ?_
    rintro wq ⟨⟨_, hB4⟩, rfl⟩
    have HB4 := hid (HHW.out _ hB4)
    clear hB4
    clear f0 f1 f2 f3 f4 f5
    go_wp2
    go_ret
    exact ⟨rfl, HB4.out⟩
  | true =>
  cases g2 with
  | false =>
    have hx := HF.out (by simp)
    subst hx
    refine wp_region_seq (w0 := wn) (Below.refl _ _) ?_
    repeat (go_big_quiet_step ((first | (go_at_call 34; with_reducible exact after_call _ (HA.out _)) | (go_at_call 34; with_reducible exact after_call _ (HB.out _)))))
    refine wpQuiet_nil ?_
    rintro wq ⟨⟨_, hB4⟩, rfl⟩
    have HB4 := hid (HHW.out _ hB4)
    clear hB4
    clear f0 f1 f2 f3 f4 f5
    go_wp2
    go_ret
    exact ⟨rfl, HB4.out⟩
  | true =>
  cases g3 with
  | false =>
    have hx := HF.out (by simp)
    subst hx
    refine wp_region_seq (w0 := wn) (Below.refl _ _) ?_
    repeat (go_big_quiet_step ((first | (go_at_call 34; with_reducible exact after_call _ (HA.out _)) | (go_at_call 34; with_reducible exact after_call _ (HB.out _)))))
    refine wpQuiet_nil ?_
    rintro wq ⟨⟨_, hB4⟩, rfl⟩
    have HB4 := hid (HHW.out _ hB4)
    clear hB4
    clear f0 f1 f2 f3 f4 f5
    go_wp2
    go_ret
    exact ⟨rfl, HB4.out⟩
  | true =>
  cases g4 with
  | false =>
    have hx := HF.out (by simp)
    subst hx
    refine wp_region_seq (w0 := wn) (Below.refl _ _) ?_
    repeat (go_big_quiet_step ((first | (go_at_call 34; with_reducible exact after_call _ (HA.out _)) | (go_at_call 34; with_reducible exact after_call _ (HB.out _)))))
    refine wpQuiet_nil ?_
    rintro wq ⟨⟨_, hB4⟩, rfl⟩
    have HB4 := hid (HHW.out _ hB4)
    clear hB4
    clear f0 f1 f2 f3 f4 f5
    go_wp2
    go_ret
    exact ⟨rfl, HB4.out⟩
  | true =>
    refine wp_region_seq (w0 := wn) (Below.refl _ _) ?_
    repeat (go_big_quiet_step ((first | (go_at_call 34; with_reducible exact after_call _ (HA.out _)) | (go_at_call 34; with_reducible exact after_call _ (HB.out _)))))
    refine wpQuiet_nil ?_
    rintro wq ⟨⟨_, hB4⟩, rfl⟩
    have hsz := sidesOk_iff.1 (gridB_iff.1 HG1.out).1
    have HSZ := hid hsz
    obtain ⟨q1, hq1⟩ : ∃ v, curOk s.cur s.mr s.mc = v := ⟨_, rfl⟩
    obtain ⟨q2, hq2⟩ : ∃ v, curOk s.sav s.mr s.mc = v := ⟨_, rfl⟩
    obtain ⟨q3, hq3⟩ : ∃ v, curOk s.too s.mr s.mc = v := ⟨_, rfl⟩
    have hcu1 : ∀ W, Calls Tryz.prog 35 #[.agg #[.int .i64 s.cur.row, .int .i64 s.cur.col, .bool s.cur.wrap, .int .i64 s.cur.a.fg, .int .i64 s.cur.a.bg, .int .i64 s.cur.a.fl, .int .i64 s.cur.g0, .int .i64 s.cur.g1, .int .i64 s.cur.sh, .bool s.cur.org], .int .i64 s.mr, .int .i64 s.mc] W _ := fun W => rcur_is hq1 W ⟨hsz.1, hsz.2.1⟩ ⟨hsz.2.2.1, hsz.2.2.2⟩
    have hcu2 : ∀ W, Calls Tryz.prog 35 #[.agg #[.int .i64 s.sav.row, .int .i64 s.sav.col, .bool s.sav.wrap, .int .i64 s.sav.a.fg, .int .i64 s.sav.a.bg, .int .i64 s.sav.a.fl, .int .i64 s.sav.g0, .int .i64 s.sav.g1, .int .i64 s.sav.sh, .bool s.sav.org], .int .i64 s.mr, .int .i64 s.mc] W _ := fun W => rcur_is hq2 W ⟨hsz.1, hsz.2.1⟩ ⟨hsz.2.2.1, hsz.2.2.2⟩
    have hcu3 : ∀ W, Calls Tryz.prog 35 #[.agg #[.int .i64 s.too.row, .int .i64 s.too.col, .bool s.too.wrap, .int .i64 s.too.a.fg, .int .i64 s.too.a.bg, .int .i64 s.too.a.fl, .int .i64 s.too.g0, .int .i64 s.too.g1, .int .i64 s.too.sh, .bool s.too.org], .int .i64 s.mr, .int .i64 s.mc] W _ := fun W => rcur_is hq3 W ⟨hsz.1, hsz.2.1⟩ ⟨hsz.2.2.1, hsz.2.2.2⟩
    have HC1 := hid hcu1
    have HC2 := hid hcu2
    have HC3 := hid hcu3
    have HQ := hid (show cursOk s = (q1 && q2 && q3) by rw [cursOk, hq1, hq2, hq3])
    have HB4 := hid hB4
    clear hcu1 hcu2 hcu3 hq1 hq2 hq3 e3 e4 hsz hB4
    go_upto_region 3 with (fail)
    refine wp_region_after (w0 := wn) HB4.out (by kernel_rfl) (by kernel_rfl) ?_
    repeat (go_big_quiet_step (fail))
    refine wpQuiet_nil ?_
    rintro w3 ⟨⟨_, hB3⟩, rfl⟩
    have HB3 := hid hB3
    clear hB3 f0 f1 f2 f3 f4 f5
    go_upto_region 4 with (fail)
    have HL : Hid (∀ (y : After w3) (k : Nat) (v : Value), (#[.int .i64 s.mr, .int .i64 s.mc, m, .int .i64 s.orr, .int .i64 s.oc, o, .bool s.sw, .int .i64 s.cur.row, .int .i64 s.cur.col, .bool s.cur.wrap, .int .i64 s.cur.a.fg, .int .i64 s.cur.a.bg, .int .i64 s.cur.a.fl, .int .i64 s.cur.g0, .int .i64 s.cur.g1, .int .i64 s.cur.sh, .bool s.cur.org, .int .i64 s.sav.row, .int .i64 s.sav.col, .bool s.sav.wrap, .int .i64 s.sav.a.fg, .int .i64 s.sav.a.bg, .int .i64 s.sav.a.fl, .int .i64 s.sav.g0, .int .i64 s.sav.g1, .int .i64 s.sav.sh, .bool s.sav.org, .int .i64 s.too.row, .int .i64 s.too.col, .bool s.too.wrap, .int .i64 s.too.a.fg, .int .i64 s.too.a.bg, .int .i64 s.too.a.fl, .int .i64 s.too.g0, .int .i64 s.too.g1, .int .i64 s.too.sh, .bool s.too.org, .int .i64 s.top, .int .i64 s.bot, t, .int .i64 s.modes, .string s.title, .int .i64 s.last] : Array Value)[k]? = some v → y.W.cell? ⟨w.heap.size, k, none⟩ = some v) := hid fun y => HHS.out y.W (HB3.out.trans (y.h.mono HB3.out.size))
    refine rreg4_is HC1.out HC2.out HC3.out (fun y => loadC fun k v hk => HL.out y _ _ (scr_cur s m o t k v hk)) (fun y => loadC fun k v hk => HL.out y _ _ (scr_sav s m o t k v hk)) (fun y => loadC fun k v hk => HL.out y _ _ (scr_too s m o t k v hk)) _ _ _ _ _ _ _ _ _ _ _ _ _ _ _ _ _ _ _ _ _ _ _ _ _ _ _ _ _ _ _ _ _ _ _ _ _ _ _ _ _ _ _ _ _ _ _ _ _ _ _ _ _ _ _ _ _ _ _ _ _ _ _ _ _ _ _ _ _ _ _ _ _ _ _ _ _ _ _ _ _ _ _ _ _ _ _ _ _ _ _ _ _ _ _ _ _ _ _ _ _ _ _ _ _ _ _ _ _ _ _ _ _ _ _ _ _ _ _ _ ?_
    rintro w4 v41 v42 v43 v44 v45 v46 v47 v48 v49 v50 v51 v52 v53 v54 v55 v56 v57 v58 v59 v60 v61 hB4
    have HB5 := hid (HB3.out.trans (hB4.mono HB3.out.size))
    clear hB4
    conv => zeta
    obtain ⟨q, hqq⟩ : ∃ q, (q1 && q2 && q3) = q := ⟨_, rfl⟩
    rw [hqq]
    have HQQ := hid (show cursOk s = q by rw [HQ.out, hqq])
    clear hqq
    cases q with
    | false =>
      have hx : x = false := by rw [← H.out, HQQ.out]; simp
      subst hx
      go_wp2
      go_ret
      exact ⟨rfl, HHW.out _ HB5.out⟩
    | true =>
      have hF : restOk s = x := by rw [← H.out, HQQ.out]; simp
      have hta := (HTB.out w (Below.refl _ _)).open_
      obtain ⟨At, ct, rfl, -, -⟩ := hta
      obtain ⟨b1, hb1⟩ : ∃ v, marginsOk s = v := ⟨_, rfl⟩
      obtain ⟨b3, hb3⟩ : ∃ v, ((s.tabs.length : Int) == s.mc) = v := ⟨_, rfl⟩
      obtain ⟨b4, hb4⟩ : ∃ v, decide (0 ≤ s.modes ∧ s.modes ≤ 1023) = v := ⟨_, rfl⟩
      obtain ⟨b5, hb5⟩ : ∃ v, titleOk s.title = v := ⟨_, rfl⟩
      obtain ⟨b6, hb6⟩ : ∃ v, (s.last == 0) = v := ⟨_, rfl⟩
      obtain ⟨y7, hy7⟩ : ∃ v, widthOf s.last = v := ⟨_, rfl⟩
      have hF2 : (b1 && b3 && b4 && b5 && (b6 || decide (0 < y7))) = x := by
        rw [← hF, restOk, hb1, ← hb3, hb4, hb5, ← hb6, hy7]
        rw [Bool.eq_iff_iff]; simp
      have HF2 := hid hF2
      have HM1 := hid hb1
      have HM3 := hid hb3
      have HM6 := hid hb6
      have HWI : Hid (∀ W, Calls Tryz.prog 36 #[.int .i64 s.last] W _) := hid fun W => width_is hy7 W
      have HNU : Hid (∀ W, Calls Tryz.prog 37 #[.int .i64 s.modes, .int .i64 1023] W _) := hid fun W => num_is hb4 W
      have HTI : Hid (∀ W, Below w.heap.size w W → Calls Tryz.prog 38 #[.string s.title] W _) := hid fun W hW => rtitle_is hb5 W l4 (HT.out _ hW)
      clear hF hF2 hb1 hb3 hb4 hb5 hb6 hy7
      go_upto_region 6 with (fail)
      refine rreg6_is HM1.out HSZ.out.1 (HHS.out _ HB5.out 37 _ rfl) (HHS.out _ HB5.out 38 _ rfl) _ _ _ _ _ _ _ _ _ _ _ _ _ _ _ _ _ _ _ _ _ _ _ _ _ _ _ _ _ _ _ _ _ _ _ _ _ _ _ _ _ _ _ _ _ _ _ _ _ _ _ _ _ _ _ _ _ _ _ _ _ _ _ _ _ _ _ _ _ _ _ _ _ _ _ _ _ _ _ _ _ _ _ _ _ _ _ _ _ _ _ _ _ _ _ _ _ _ _ _ _ _ _ _ _ _ _ _ _ _ _ _ _ _ _ _ _ _ _ _ _ ?_
      rintro z v63 v64 v65 v66 v67 v68 v69 v70 v71 v72 v73 v74 v75 v76 v77 v78 v79 v80 v81 v82 v83 v84 v85 v86 v87 v88 v89 v90 v91 v92 rfl
      conv => zeta
      go_upto_region 7 with (fail)
      refine rreg7_is HM6.out (HWI.out _) (HHS.out _ HB5.out 42 _ rfl) _ _ _ _ _ _ _ _ _ _ _ _ _ _ _ _ _ _ _ _ _ _ _ _ _ _ _ _ _ _ _ _ _ _ _ _ _ _ _ _ _ _ _ _ _ _ _ _ _ _ _ _ _ _ _ _ _ _ _ _ _ _ _ _ _ _ _ _ _ _ _ _ _ _ _ _ _ _ _ _ _ _ _ _ _ _ _ _ _ _ _ _ _ _ _ _ _ _ _ _ _ _ _ _ _ _ _ _ _ _ _ _ _ _ _ _ _ _ _ _ _ _ ?_
      rintro w7 z2 v93 v94 v95 v96 v97 v98 v99 v100 v101 hB7 rfl
      have HB7 := hid (HB5.out.trans (hB7.mono HB5.out.size))
      clear hB7
      conv => zeta
      go_upto_region 8 with (fail)
      refine rreg8_is HF2.out HM3.out (HNU.out _) (HTI.out _ (HHW.out _ HB7.out)) (HHS.out _ HB7.out 39 _ rfl) (HHS.out _ HB7.out 40 _ rfl) (HHS.out _ HB7.out 41 _ rfl) _ _ _ _ _ _ _ _ _ _ _ _ _ _ _ _ _ _ _ _ _ _ _ _ _ _ _ _ _ _ _ _ _ _ _ _ _ _ _ _ _ _ _ _ _ _ _ _ _ _ _ _ _ _ _ _ _ _ _ _ _ _ _ _ _ _ _ _ _ _ _ _ _ _ _ _ _ _ _ _ _ _ _ _ _ _ _ _ _ _ _ _ _ _ _ _ _ _ _ _ _ _ _ _ _ _ _ _ _ _ _ _ _ _ _ _ _ _ _ ?_
      rintro w8 z3 v102 v103 v104 v105 v106 v107 v108 v109 v110 v111 v112 v113 v114 v115 v116 v117 v118 v119 v120 v121 v122 hB8 rfl
      have HB8 := hid (HB7.out.trans (hB8.mono HB7.out.size))
      clear hB8
      conv => zeta
      go_wp2
      go_ret
      exact ⟨rfl, HHW.out _ HB8.out⟩
end Go.Proofs.YtpmfjombfcnhmaaGreatDoor
