/- Screens copied: a variable of 43 cells, loaded and stored at once. -/
import Derived.Test.YtpmfjombfcnhmaaGreatDoorGCop
set_option linter.unusedVariables false
set_option linter.unusedSimpArgs false
namespace Go.Proofs.YtpmfjombfcnhmaaGreatDoor
open Go Go.RowKit

theorem RowL.range {w : World} {b : Nat} {t : TypeId} {l : List Value} (h : RowL w b t l) : w.rangeAt b 0 l := fun j v hj => by rw [Nat.zero_add]; exact h.cell j v hj
theorem RowL.there {w : World} {b : Nat} {t : TypeId} {l : List Value} (h : RowL w b t l) {n : Nat} (hn : n = l.length) : w.there b 0 n := fun j hj => by
  subst hn
  rw [Nat.zero_add]
  exact ⟨by rw [h.cell j _ (List.getElem?_eq_getElem hj)]; rfl, h.free j⟩
theorem RowL.set {w : World} {b : Nat} {t : TypeId} {l : List Value} (h : RowL w b t l) (k : Nat) (v : Value) : RowL (w.setCell ⟨b, k, none⟩ v) b t (l.set k v) := by
  unfold RowL
  rw [List.length_set]
  refine (World.rowIs.set h k v).congr fun i hi => ?_
  by_cases hk : i = k
  · subst hk; simp [hi]
  · rw [if_neg hk, List.getD_eq_getElem?_getD, List.getD_eq_getElem?_getD, List.getElem?_set_ne (by omega)]
theorem RowL.far {w : World} {b g k : Nat} {t : TypeId} {l : List Value} {v : Value} (h : RowL w b t l) (hb : b ≠ g) : RowL (w.setCell ⟨g, k, none⟩ v) b t l :=
  World.rowIs.of_block h ((grown_set w g k v).block b h.lt (by simpa using hb))
theorem setCells_all {w : World} {b : Nat} {t : TypeId} {l m : List Value} (h : RowL w b t l) (hm : m.length = l.length) : RowL (w.setCells b 0 m) b t m := by
  unfold RowL
  rw [hm]
  refine (rowIs_setCells m 0 w _ h).congr fun i hi => ?_
  rw [if_pos (by omega), Nat.sub_zero]
theorem setCells_far {w : World} {b g : Nat} {t : TypeId} {l m : List Value} (h : RowL w b t l) (hb : b ≠ g) : RowL (w.setCells g 0 m) b t l :=
  World.rowIs.of_block h ((grown_setCells m 0 w).block b h.lt (by simpa using hb))
theorem results_cell {P : Program} {fn : Func} {p : Tmp} {ty : TypeId} (h : fn.results = #[.cell p ty]) (tmps : Array Value) (w : World) (b o : Nat) (ht : tmps.getD p undef = .pointer (some ⟨b, o, none⟩)) (v : Value)
    (hl : (loadVar ty ⟨b, o, none⟩).run P w = .ok v w) : (results fn tmps).run P w = .ok v w := by
  have ht2 : tmps[p]?.getD undef = .pointer (some ⟨b, o, none⟩) := by simpa using ht
  simp [results, h, ht2, asAddr, hl, Result.andThen]

theorem wpList_allocS {ops : Array Oper} {rest : List Oper} {op : Oper} {a : Act} {w : World} {Q : Exit → Act → World → Prop} (hgd : op.guard = none) (ho : op.op = .alloc 38)
    (h : wpList Tryz.prog ops Q rest (a.put op.dst (.pointer (some ⟨w.heap.size, 0, none⟩))) (w.alloc (.cells #[.int .i64 0, .int .i64 0, .slice none 0 0, .int .i64 0, .int .i64 0, .slice none 0 0, .bool false, .int .i64 0, .int .i64 0, .bool false, .int .i64 0, .int .i64 0, .int .i64 0, .int .i64 0, .int .i64 0, .int .i64 0, .bool false, .int .i64 0, .int .i64 0, .bool false, .int .i64 0, .int .i64 0, .int .i64 0, .int .i64 0, .int .i64 0, .int .i64 0, .bool false, .int .i64 0, .int .i64 0, .bool false, .int .i64 0, .int .i64 0, .int .i64 0, .int .i64 0, .int .i64 0, .int .i64 0, .bool false, .int .i64 0, .int .i64 0, .slice none 0 0, .int .i64 0, .string ⟨#[]⟩, .int .i64 0] 38))) : wpList Tryz.prog ops Q (op :: rest) a w :=
  wpList_plain hgd fun K hK => by
    unfold Oper.wp execOp
    rw [ho]
    simp [go_sem]
    exact hK _ _ h

theorem own_grown {w w1 : World} {base g n : Nat} {e : TypeId} {size : Nat} {v : Value} {xs : List Value} (h : w.ownsRow base e size v n xs) (hgr : w.grownBy w1 (some g)) (hg : g < base) : w1.ownsRow base e size v n xs :=
  h.kept hgr (by
    cases hv : v.ownBlock with
    | none => exact .inl rfl
    | some j => exact .inr fun e => by have := (h.lt j hv).1; cases e; omega)
def zeroL : List Value := [.int .i64 0, .int .i64 0, .slice none 0 0, .int .i64 0, .int .i64 0, .slice none 0 0, .bool false, .int .i64 0, .int .i64 0, .bool false, .int .i64 0, .int .i64 0, .int .i64 0, .int .i64 0, .int .i64 0, .int .i64 0, .bool false, .int .i64 0, .int .i64 0, .bool false, .int .i64 0, .int .i64 0, .int .i64 0, .int .i64 0, .int .i64 0, .int .i64 0, .bool false, .int .i64 0, .int .i64 0, .bool false, .int .i64 0, .int .i64 0, .int .i64 0, .int .i64 0, .int .i64 0, .int .i64 0, .bool false, .int .i64 0, .int .i64 0, .slice none 0 0, .int .i64 0, .string ⟨#[]⟩, .int .i64 0]
set_option maxHeartbeats 4000000 in
set_option maxRecDepth 100000 in
theorem copyS_any (s : Scr) (m o t : Value) (w : World) (hm : RdC w m s.ms) (ho : RdC w o s.os) (ht : RdB w t s.tabs) (hs : s.small) :
    Calls Tryz.prog 19 #[.agg #[.int .i64 s.mr, .int .i64 s.mc, m, .int .i64 s.orr, .int .i64 s.oc, o, .bool s.sw, .int .i64 s.cur.row, .int .i64 s.cur.col, .bool s.cur.wrap, .int .i64 s.cur.a.fg, .int .i64 s.cur.a.bg, .int .i64 s.cur.a.fl, .int .i64 s.cur.g0, .int .i64 s.cur.g1, .int .i64 s.cur.sh, .bool s.cur.org, .int .i64 s.sav.row, .int .i64 s.sav.col, .bool s.sav.wrap, .int .i64 s.sav.a.fg, .int .i64 s.sav.a.bg, .int .i64 s.sav.a.fl, .int .i64 s.sav.g0, .int .i64 s.sav.g1, .int .i64 s.sav.sh, .bool s.sav.org, .int .i64 s.too.row, .int .i64 s.too.col, .bool s.too.wrap, .int .i64 s.too.a.fg, .int .i64 s.too.a.bg, .int .i64 s.too.a.fl, .int .i64 s.too.g0, .int .i64 s.too.g1, .int .i64 s.too.sh, .bool s.too.org, .int .i64 s.top, .int .i64 s.bot, t, .int .i64 s.modes, .string s.title, .int .i64 s.last]] w fun e w' => ∃ m' o' t', e = .returned (.agg #[.int .i64 s.mr, .int .i64 s.mc, m', .int .i64 s.orr, .int .i64 s.oc, o', .bool s.sw, .int .i64 s.cur.row, .int .i64 s.cur.col, .bool s.cur.wrap, .int .i64 s.cur.a.fg, .int .i64 s.cur.a.bg, .int .i64 s.cur.a.fl, .int .i64 s.cur.g0, .int .i64 s.cur.g1, .int .i64 s.cur.sh, .bool s.cur.org, .int .i64 s.sav.row, .int .i64 s.sav.col, .bool s.sav.wrap, .int .i64 s.sav.a.fg, .int .i64 s.sav.a.bg, .int .i64 s.sav.a.fl, .int .i64 s.sav.g0, .int .i64 s.sav.g1, .int .i64 s.sav.sh, .bool s.sav.org, .int .i64 s.too.row, .int .i64 s.too.col, .bool s.too.wrap, .int .i64 s.too.a.fg, .int .i64 s.too.a.bg, .int .i64 s.too.a.fl, .int .i64 s.too.g0, .int .i64 s.too.g1, .int .i64 s.too.sh, .bool s.too.org, .int .i64 s.top, .int .i64 s.bot, t', .int .i64 s.modes, .string s.title, .int .i64 s.last]) ∧ OwnC w' w.heap.size m' s.ms ∧ OwnC w' w.heap.size o' s.os ∧ OwnB w' w.heap.size t' s.tabs ∧ Below w.heap.size w w' ∧ apartV m' o' ∧ apartV m' t' ∧ apartV o' t' := by
  obtain ⟨l1, l2, l3, l4, l5, l6⟩ := hs
  obtain ⟨Am, km, rfl, -, -⟩ := hm.open_
  obtain ⟨Ao, ko, rfl, -, -⟩ := ho.open_
  obtain ⟨At, kt, rfl, -, -⟩ := ht.open_
  have HM : Hid (∀ W, Below w.heap.size w W → Calls Tryz.prog 28 #[.agg #[.int .i64 s.mr, .int .i64 s.mc, .slice Am s.ms.length km]] W _) := hid fun W hW => copyG_any _ _ _ _ W (hm.below hW) l1
  have HO : Hid (∀ W, Below w.heap.size w W → Calls Tryz.prog 28 #[.agg #[.int .i64 s.orr, .int .i64 s.oc, .slice Ao s.os.length ko]] W _) := hid fun W hW => copyG_any _ _ _ _ W (ho.below hW) l2
  have HT : Hid (∀ W, Below w.heap.size w W → Calls Tryz.prog 29 #[.slice At s.tabs.length kt] W _) := hid fun W hW => copyB_any _ _ W (ht.below hW) (by omega)
  obtain ⟨wA, hwA⟩ : ∃ wA, wA = ((w.alloc (.cells #[.int .i64 s.mr, .int .i64 s.mc, (.slice Am s.ms.length km), .int .i64 s.orr, .int .i64 s.oc, (.slice Ao s.os.length ko), .bool s.sw, .int .i64 s.cur.row, .int .i64 s.cur.col, .bool s.cur.wrap, .int .i64 s.cur.a.fg, .int .i64 s.cur.a.bg, .int .i64 s.cur.a.fl, .int .i64 s.cur.g0, .int .i64 s.cur.g1, .int .i64 s.cur.sh, .bool s.cur.org, .int .i64 s.sav.row, .int .i64 s.sav.col, .bool s.sav.wrap, .int .i64 s.sav.a.fg, .int .i64 s.sav.a.bg, .int .i64 s.sav.a.fl, .int .i64 s.sav.g0, .int .i64 s.sav.g1, .int .i64 s.sav.sh, .bool s.sav.org, .int .i64 s.too.row, .int .i64 s.too.col, .bool s.too.wrap, .int .i64 s.too.a.fg, .int .i64 s.too.a.bg, .int .i64 s.too.a.fl, .int .i64 s.too.g0, .int .i64 s.too.g1, .int .i64 s.too.sh, .bool s.too.org, .int .i64 s.top, .int .i64 s.bot, (.slice At s.tabs.length kt), .int .i64 s.modes, .string s.title, .int .i64 s.last] 38)).alloc (.cells #[.int .i64 0, .int .i64 0, .slice none 0 0, .int .i64 0, .int .i64 0, .slice none 0 0, .bool false, .int .i64 0, .int .i64 0, .bool false, .int .i64 0, .int .i64 0, .int .i64 0, .int .i64 0, .int .i64 0, .int .i64 0, .bool false, .int .i64 0, .int .i64 0, .bool false, .int .i64 0, .int .i64 0, .int .i64 0, .int .i64 0, .int .i64 0, .int .i64 0, .bool false, .int .i64 0, .int .i64 0, .bool false, .int .i64 0, .int .i64 0, .int .i64 0, .int .i64 0, .int .i64 0, .int .i64 0, .bool false, .int .i64 0, .int .i64 0, .slice none 0 0, .int .i64 0, .string ⟨#[]⟩, .int .i64 0] 38)) := ⟨_, rfl⟩
  have r0 : RowL wA w.heap.size 38 [.int .i64 s.mr, .int .i64 s.mc, (.slice Am s.ms.length km), .int .i64 s.orr, .int .i64 s.oc, (.slice Ao s.os.length ko), .bool s.sw, .int .i64 s.cur.row, .int .i64 s.cur.col, .bool s.cur.wrap, .int .i64 s.cur.a.fg, .int .i64 s.cur.a.bg, .int .i64 s.cur.a.fl, .int .i64 s.cur.g0, .int .i64 s.cur.g1, .int .i64 s.cur.sh, .bool s.cur.org, .int .i64 s.sav.row, .int .i64 s.sav.col, .bool s.sav.wrap, .int .i64 s.sav.a.fg, .int .i64 s.sav.a.bg, .int .i64 s.sav.a.fl, .int .i64 s.sav.g0, .int .i64 s.sav.g1, .int .i64 s.sav.sh, .bool s.sav.org, .int .i64 s.too.row, .int .i64 s.too.col, .bool s.too.wrap, .int .i64 s.too.a.fg, .int .i64 s.too.a.bg, .int .i64 s.too.a.fl, .int .i64 s.too.g0, .int .i64 s.too.g1, .int .i64 s.too.sh, .bool s.too.org, .int .i64 s.top, .int .i64 s.bot, (.slice At s.tabs.length kt), .int .i64 s.modes, .string s.title, .int .i64 s.last] := by
    rw [hwA]; exact (RowL.new w 38 _).below (alloc_below (Below.refl _ _) _)
  have r1 : RowL wA (w.heap.size + 1) 38 zeroL := by
    rw [hwA]
    have h := RowL.new (w.alloc (.cells #[.int .i64 s.mr, .int .i64 s.mc, (.slice Am s.ms.length km), .int .i64 s.orr, .int .i64 s.oc, (.slice Ao s.os.length ko), .bool s.sw, .int .i64 s.cur.row, .int .i64 s.cur.col, .bool s.cur.wrap, .int .i64 s.cur.a.fg, .int .i64 s.cur.a.bg, .int .i64 s.cur.a.fl, .int .i64 s.cur.g0, .int .i64 s.cur.g1, .int .i64 s.cur.sh, .bool s.cur.org, .int .i64 s.sav.row, .int .i64 s.sav.col, .bool s.sav.wrap, .int .i64 s.sav.a.fg, .int .i64 s.sav.a.bg, .int .i64 s.sav.a.fl, .int .i64 s.sav.g0, .int .i64 s.sav.g1, .int .i64 s.sav.sh, .bool s.sav.org, .int .i64 s.too.row, .int .i64 s.too.col, .bool s.too.wrap, .int .i64 s.too.a.fg, .int .i64 s.too.a.bg, .int .i64 s.too.a.fl, .int .i64 s.too.g0, .int .i64 s.too.g1, .int .i64 s.too.sh, .bool s.too.org, .int .i64 s.top, .int .i64 s.bot, (.slice At s.tabs.length kt), .int .i64 s.modes, .string s.title, .int .i64 s.last] 38)) 38 #[.int .i64 0, .int .i64 0, .slice none 0 0, .int .i64 0, .int .i64 0, .slice none 0 0, .bool false, .int .i64 0, .int .i64 0, .bool false, .int .i64 0, .int .i64 0, .int .i64 0, .int .i64 0, .int .i64 0, .int .i64 0, .bool false, .int .i64 0, .int .i64 0, .bool false, .int .i64 0, .int .i64 0, .int .i64 0, .int .i64 0, .int .i64 0, .int .i64 0, .bool false, .int .i64 0, .int .i64 0, .bool false, .int .i64 0, .int .i64 0, .int .i64 0, .int .i64 0, .int .i64 0, .int .i64 0, .bool false, .int .i64 0, .int .i64 0, .slice none 0 0, .int .i64 0, .string ⟨#[]⟩, .int .i64 0]
    have hsz : (w.alloc (.cells #[.int .i64 s.mr, .int .i64 s.mc, (.slice Am s.ms.length km), .int .i64 s.orr, .int .i64 s.oc, (.slice Ao s.os.length ko), .bool s.sw, .int .i64 s.cur.row, .int .i64 s.cur.col, .bool s.cur.wrap, .int .i64 s.cur.a.fg, .int .i64 s.cur.a.bg, .int .i64 s.cur.a.fl, .int .i64 s.cur.g0, .int .i64 s.cur.g1, .int .i64 s.cur.sh, .bool s.cur.org, .int .i64 s.sav.row, .int .i64 s.sav.col, .bool s.sav.wrap, .int .i64 s.sav.a.fg, .int .i64 s.sav.a.bg, .int .i64 s.sav.a.fl, .int .i64 s.sav.g0, .int .i64 s.sav.g1, .int .i64 s.sav.sh, .bool s.sav.org, .int .i64 s.too.row, .int .i64 s.too.col, .bool s.too.wrap, .int .i64 s.too.a.fg, .int .i64 s.too.a.bg, .int .i64 s.too.a.fl, .int .i64 s.too.g0, .int .i64 s.too.g1, .int .i64 s.too.sh, .bool s.too.org, .int .i64 s.top, .int .i64 s.bot, (.slice At s.tabs.length kt), .int .i64 s.modes, .string s.title, .int .i64 s.last] 38)).heap.size = w.heap.size + 1 := by simp
    rw [hsz] at h
    exact h
  have hzA : wA.heap.size = w.heap.size + 1 + 1 := by rw [hwA]; simp
  have hbA : Below w.heap.size w wA := by rw [hwA]; exact alloc_below (alloc_below (Below.refl _ _) _) _
  have HWA := hid hwA
  have R0 := hid r0
  have R1 := hid r1
  have HZA := hid hzA
  have HBA := hid hbA
  clear hwA r0 r1 hzA hbA hm ho ht
  go_enter Tryz.func19, Tryz.ntmps19
  go_upto_region 1 with (fail)
  change Code.wp _ _ _ _ ((w.alloc (.cells #[.int .i64 s.mr, .int .i64 s.mc, (.slice Am s.ms.length km), .int .i64 s.orr, .int .i64 s.oc, (.slice Ao s.os.length ko), .bool s.sw, .int .i64 s.cur.row, .int .i64 s.cur.col, .bool s.cur.wrap, .int .i64 s.cur.a.fg, .int .i64 s.cur.a.bg, .int .i64 s.cur.a.fl, .int .i64 s.cur.g0, .int .i64 s.cur.g1, .int .i64 s.cur.sh, .bool s.cur.org, .int .i64 s.sav.row, .int .i64 s.sav.col, .bool s.sav.wrap, .int .i64 s.sav.a.fg, .int .i64 s.sav.a.bg, .int .i64 s.sav.a.fl, .int .i64 s.sav.g0, .int .i64 s.sav.g1, .int .i64 s.sav.sh, .bool s.sav.org, .int .i64 s.too.row, .int .i64 s.too.col, .bool s.too.wrap, .int .i64 s.too.a.fg, .int .i64 s.too.a.bg, .int .i64 s.too.a.fl, .int .i64 s.too.g0, .int .i64 s.too.g1, .int .i64 s.too.sh, .bool s.too.org, .int .i64 s.top, .int .i64 s.bot, (.slice At s.tabs.length kt), .int .i64 s.modes, .string s.title, .int .i64 s.last] 38)).alloc (.cells #[.int .i64 0, .int .i64 0, .slice none 0 0, .int .i64 0, .int .i64 0, .slice none 0 0, .bool false, .int .i64 0, .int .i64 0, .bool false, .int .i64 0, .int .i64 0, .int .i64 0, .int .i64 0, .int .i64 0, .int .i64 0, .bool false, .int .i64 0, .int .i64 0, .bool false, .int .i64 0, .int .i64 0, .int .i64 0, .int .i64 0, .int .i64 0, .int .i64 0, .bool false, .int .i64 0, .int .i64 0, .bool false, .int .i64 0, .int .i64 0, .int .i64 0, .int .i64 0, .int .i64 0, .int .i64 0, .bool false, .int .i64 0, .int .i64 0, .slice none 0 0, .int .i64 0, .string ⟨#[]⟩, .int .i64 0] 38))
  rw [← HWA.out]
  refine wp_region_lit ?_
  refine wpList_load_mid rfl 38 _ rfl w.heap.size 0 rfl [.int .i64 s.mr, .int .i64 s.mc, (.slice Am s.ms.length km), .int .i64 s.orr, .int .i64 s.oc, (.slice Ao s.os.length ko), .bool s.sw, .int .i64 s.cur.row, .int .i64 s.cur.col, .bool s.cur.wrap, .int .i64 s.cur.a.fg, .int .i64 s.cur.a.bg, .int .i64 s.cur.a.fl, .int .i64 s.cur.g0, .int .i64 s.cur.g1, .int .i64 s.cur.sh, .bool s.cur.org, .int .i64 s.sav.row, .int .i64 s.sav.col, .bool s.sav.wrap, .int .i64 s.sav.a.fg, .int .i64 s.sav.a.bg, .int .i64 s.sav.a.fl, .int .i64 s.sav.g0, .int .i64 s.sav.g1, .int .i64 s.sav.sh, .bool s.sav.org, .int .i64 s.too.row, .int .i64 s.too.col, .bool s.too.wrap, .int .i64 s.too.a.fg, .int .i64 s.too.a.bg, .int .i64 s.too.a.fl, .int .i64 s.too.g0, .int .i64 s.too.g1, .int .i64 s.too.sh, .bool s.too.org, .int .i64 s.top, .int .i64 s.bot, (.slice At s.tabs.length kt), .int .i64 s.modes, .string s.title, .int .i64 s.last] _ R0.out.range Tryz.underlying38 rfl (by kernel_rfl) ?_
  have hne0 : w.heap.size ≠ wA.heap.size := by have := HZA.out; omega
  have hne1 : w.heap.size + 1 ≠ wA.heap.size := by have := HZA.out; omega
  have RN := hid (RowL.new wA 38 #[.int .i64 0, .int .i64 0, .slice none 0 0, .int .i64 0, .int .i64 0, .slice none 0 0, .bool false, .int .i64 0, .int .i64 0, .bool false, .int .i64 0, .int .i64 0, .int .i64 0, .int .i64 0, .int .i64 0, .int .i64 0, .bool false, .int .i64 0, .int .i64 0, .bool false, .int .i64 0, .int .i64 0, .int .i64 0, .int .i64 0, .int .i64 0, .int .i64 0, .bool false, .int .i64 0, .int .i64 0, .bool false, .int .i64 0, .int .i64 0, .int .i64 0, .int .i64 0, .int .i64 0, .int .i64 0, .bool false, .int .i64 0, .int .i64 0, .slice none 0 0, .int .i64 0, .string ⟨#[]⟩, .int .i64 0])
  have HNE0 := hid hne0
  have HNE1 := hid hne1
  clear hne0 hne1
  refine wpList_allocS rfl rfl ?_
  refine wpList_store_mid rfl 38 _ _ rfl wA.heap.size 0 (#[.int .i64 s.mr, .int .i64 s.mc, (.slice Am s.ms.length km), .int .i64 s.orr, .int .i64 s.oc, (.slice Ao s.os.length ko), .bool s.sw, .int .i64 s.cur.row, .int .i64 s.cur.col, .bool s.cur.wrap, .int .i64 s.cur.a.fg, .int .i64 s.cur.a.bg, .int .i64 s.cur.a.fl, .int .i64 s.cur.g0, .int .i64 s.cur.g1, .int .i64 s.cur.sh, .bool s.cur.org, .int .i64 s.sav.row, .int .i64 s.sav.col, .bool s.sav.wrap, .int .i64 s.sav.a.fg, .int .i64 s.sav.a.bg, .int .i64 s.sav.a.fl, .int .i64 s.sav.g0, .int .i64 s.sav.g1, .int .i64 s.sav.sh, .bool s.sav.org, .int .i64 s.too.row, .int .i64 s.too.col, .bool s.too.wrap, .int .i64 s.too.a.fg, .int .i64 s.too.a.bg, .int .i64 s.too.a.fl, .int .i64 s.too.g0, .int .i64 s.too.g1, .int .i64 s.too.sh, .bool s.too.org, .int .i64 s.top, .int .i64 s.bot, (.slice At s.tabs.length kt), .int .i64 s.modes, .string s.title, .int .i64 s.last]) rfl rfl ?_ ?_ ?_ ?_
  · exact RN.out.there rfl
  · kernel_rfl
  · rw [List.all_toArray]; rfl
  generalize hwB : World.setCells _ _ _ _ = wB
  have hal : Below wA.heap.size wA (wA.alloc (.cells #[.int .i64 0, .int .i64 0, .slice none 0 0, .int .i64 0, .int .i64 0, .slice none 0 0, .bool false, .int .i64 0, .int .i64 0, .bool false, .int .i64 0, .int .i64 0, .int .i64 0, .int .i64 0, .int .i64 0, .int .i64 0, .bool false, .int .i64 0, .int .i64 0, .bool false, .int .i64 0, .int .i64 0, .int .i64 0, .int .i64 0, .int .i64 0, .int .i64 0, .bool false, .int .i64 0, .int .i64 0, .bool false, .int .i64 0, .int .i64 0, .int .i64 0, .int .i64 0, .int .i64 0, .int .i64 0, .bool false, .int .i64 0, .int .i64 0, .slice none 0 0, .int .i64 0, .string ⟨#[]⟩, .int .i64 0] 38)) := alloc_below (Below.refl _ _) _
  have r0 : RowL wB w.heap.size 38 [.int .i64 s.mr, .int .i64 s.mc, (.slice Am s.ms.length km), .int .i64 s.orr, .int .i64 s.oc, (.slice Ao s.os.length ko), .bool s.sw, .int .i64 s.cur.row, .int .i64 s.cur.col, .bool s.cur.wrap, .int .i64 s.cur.a.fg, .int .i64 s.cur.a.bg, .int .i64 s.cur.a.fl, .int .i64 s.cur.g0, .int .i64 s.cur.g1, .int .i64 s.cur.sh, .bool s.cur.org, .int .i64 s.sav.row, .int .i64 s.sav.col, .bool s.sav.wrap, .int .i64 s.sav.a.fg, .int .i64 s.sav.a.bg, .int .i64 s.sav.a.fl, .int .i64 s.sav.g0, .int .i64 s.sav.g1, .int .i64 s.sav.sh, .bool s.sav.org, .int .i64 s.too.row, .int .i64 s.too.col, .bool s.too.wrap, .int .i64 s.too.a.fg, .int .i64 s.too.a.bg, .int .i64 s.too.a.fl, .int .i64 s.too.g0, .int .i64 s.too.g1, .int .i64 s.too.sh, .bool s.too.org, .int .i64 s.top, .int .i64 s.bot, (.slice At s.tabs.length kt), .int .i64 s.modes, .string s.title, .int .i64 s.last] := by rw [← hwB]; exact setCells_far (R0.out.below hal) HNE0.out
  have r1 : RowL wB (w.heap.size + 1) 38 zeroL := by rw [← hwB]; exact setCells_far (R1.out.below hal) HNE1.out
  have r2 : RowL wB wA.heap.size 38 [.int .i64 s.mr, .int .i64 s.mc, (.slice Am s.ms.length km), .int .i64 s.orr, .int .i64 s.oc, (.slice Ao s.os.length ko), .bool s.sw, .int .i64 s.cur.row, .int .i64 s.cur.col, .bool s.cur.wrap, .int .i64 s.cur.a.fg, .int .i64 s.cur.a.bg, .int .i64 s.cur.a.fl, .int .i64 s.cur.g0, .int .i64 s.cur.g1, .int .i64 s.cur.sh, .bool s.cur.org, .int .i64 s.sav.row, .int .i64 s.sav.col, .bool s.sav.wrap, .int .i64 s.sav.a.fg, .int .i64 s.sav.a.bg, .int .i64 s.sav.a.fl, .int .i64 s.sav.g0, .int .i64 s.sav.g1, .int .i64 s.sav.sh, .bool s.sav.org, .int .i64 s.too.row, .int .i64 s.too.col, .bool s.too.wrap, .int .i64 s.too.a.fg, .int .i64 s.too.a.bg, .int .i64 s.too.a.fl, .int .i64 s.too.g0, .int .i64 s.too.g1, .int .i64 s.too.sh, .bool s.too.org, .int .i64 s.top, .int .i64 s.bot, (.slice At s.tabs.length kt), .int .i64 s.modes, .string s.title, .int .i64 s.last] := by rw [← hwB]; exact setCells_all RN.out rfl
  have hbB : Below w.heap.size w wB := by
    rw [← hwB]
    exact below_of_grown (alloc_below HBA.out _) (grown_setCells _ _ _) (fun k hk => by cases hk; have := HZA.out; omega)
  have RB0 := hid r0
  have RB1 := hid r1
  have RB2 := hid r2
  have HBB := hid hbB
  clear hwB r0 r1 r2 hbB hal
  obtain ⟨g, hg⟩ : ∃ g, wA.heap.size = g := ⟨_, rfl⟩
  rw [hg] at RB2 ⊢
  have HG := hid (show g = w.heap.size + 1 + 1 by rw [← hg]; exact HZA.out)
  have hgB : g < wB.heap.size := RB2.out.lt
  have HGB := hid hgB
  clear hg hgB R0 R1 RN HBA HWA HZA HNE0 HNE1
  go_upto_region 2 with (fail)
  have c0 := RB0.out.cell 0 _ rfl
  have c1 := RB0.out.cell 1 _ rfl
  have c2 := RB0.out.cell 2 _ rfl
  go_upto_region 3 with (go_at_call 28; (with_reducible refine (HM.out _ HBB.out).mono ?_); rintro e w1 ⟨v', rfl, hO, hB⟩; obtain ⟨Am', km', rfl⟩ := hO.slice; have HO1 := hid hO; have HB1 := hid hB; have d0 := (RB2.out.below hB).cell 0 _ rfl; have d1 := (RB2.out.below hB).cell 1 _ rfl; have d2 := (RB2.out.below hB).cell 2 _ rfl; have f2 := (RB2.out.below hB).free; clear hO hB c0 c1 c2)
  have hn0 : w.heap.size ≠ g := by have := HG.out; omega
  have hn1 : w.heap.size + 1 ≠ g := by have := HG.out; omega
  have HN0 := hid hn0
  have HN1 := hid hn1
  clear hn0 hn1 d0 d1 d2 f2
  generalize hwC : World.setCell (World.setCell (World.setCell w1 _ _) _ _) _ _ = wC
  have RC0 : Hid (RowL wC w.heap.size 38 [.int .i64 s.mr, .int .i64 s.mc, (.slice Am s.ms.length km), .int .i64 s.orr, .int .i64 s.oc, (.slice Ao s.os.length ko), .bool s.sw, .int .i64 s.cur.row, .int .i64 s.cur.col, .bool s.cur.wrap, .int .i64 s.cur.a.fg, .int .i64 s.cur.a.bg, .int .i64 s.cur.a.fl, .int .i64 s.cur.g0, .int .i64 s.cur.g1, .int .i64 s.cur.sh, .bool s.cur.org, .int .i64 s.sav.row, .int .i64 s.sav.col, .bool s.sav.wrap, .int .i64 s.sav.a.fg, .int .i64 s.sav.a.bg, .int .i64 s.sav.a.fl, .int .i64 s.sav.g0, .int .i64 s.sav.g1, .int .i64 s.sav.sh, .bool s.sav.org, .int .i64 s.too.row, .int .i64 s.too.col, .bool s.too.wrap, .int .i64 s.too.a.fg, .int .i64 s.too.a.bg, .int .i64 s.too.a.fl, .int .i64 s.too.g0, .int .i64 s.too.g1, .int .i64 s.too.sh, .bool s.too.org, .int .i64 s.top, .int .i64 s.bot, (.slice At s.tabs.length kt), .int .i64 s.modes, .string s.title, .int .i64 s.last]) := hid (by rw [← hwC]; exact (((RB0.out.below HB1.out).far HN0.out).far HN0.out).far HN0.out)
  have RC1 : Hid (RowL wC (w.heap.size + 1) 38 zeroL) := hid (by rw [← hwC]; exact (((RB1.out.below HB1.out).far HN1.out).far HN1.out).far HN1.out)
  have RC2 : Hid (RowL wC g 38 [.int .i64 s.mr, .int .i64 s.mc, (.slice Am' s.ms.length km'), .int .i64 s.orr, .int .i64 s.oc, (.slice Ao s.os.length ko), .bool s.sw, .int .i64 s.cur.row, .int .i64 s.cur.col, .bool s.cur.wrap, .int .i64 s.cur.a.fg, .int .i64 s.cur.a.bg, .int .i64 s.cur.a.fl, .int .i64 s.cur.g0, .int .i64 s.cur.g1, .int .i64 s.cur.sh, .bool s.cur.org, .int .i64 s.sav.row, .int .i64 s.sav.col, .bool s.sav.wrap, .int .i64 s.sav.a.fg, .int .i64 s.sav.a.bg, .int .i64 s.sav.a.fl, .int .i64 s.sav.g0, .int .i64 s.sav.g1, .int .i64 s.sav.sh, .bool s.sav.org, .int .i64 s.too.row, .int .i64 s.too.col, .bool s.too.wrap, .int .i64 s.too.a.fg, .int .i64 s.too.a.bg, .int .i64 s.too.a.fl, .int .i64 s.too.g0, .int .i64 s.too.g1, .int .i64 s.too.sh, .bool s.too.org, .int .i64 s.top, .int .i64 s.bot, (.slice At s.tabs.length kt), .int .i64 s.modes, .string s.title, .int .i64 s.last]) := hid (by rw [← hwC]; exact (((RB2.out.below HB1.out).set 0 _).set 1 _).set 2 _)
  have HOC : Hid (OwnC wC (g + 1) (.slice Am' s.ms.length km') s.ms) := hid (by rw [← hwC]; exact OwnC.lower (own_set (own_set (own_set HO1.out HGB.out) HGB.out) HGB.out) HGB.out)
  have HBC : Hid (Below w.heap.size w wC) := hid (by rw [← hwC]; have hg := HG.out; exact below_set (below_set (below_set (after HBB.out HB1.out) (by omega) _ _) (by omega) _ _) (by omega) _ _)
  have HGC : Hid (g < wC.heap.size) := hid RC2.out.lt
  have HZC : Hid (w1.heap.size ≤ wC.heap.size) := hid (by rw [← hwC]; simp [World.setCell])
  clear hwC RB0 RB1 RB2 HB1 HBB HGB
  have c3 := RC0.out.cell 3 _ rfl
  have c4 := RC0.out.cell 4 _ rfl
  have c5 := RC0.out.cell 5 _ rfl
  go_upto_region 4 with (go_at_call 28; (with_reducible refine (HO.out _ HBC.out).mono ?_); rintro e w2 ⟨v', rfl, hO, hB⟩; obtain ⟨Ao', ko', rfl⟩ := hO.slice; have HO2 := hid hO; have HB2 := hid hB; have d3 := (RC2.out.below hB).cell 3 _ rfl; have d4 := (RC2.out.below hB).cell 4 _ rfl; have d5 := (RC2.out.below hB).cell 5 _ rfl; have f2 := (RC2.out.below hB).free; clear hO hB c3 c4 c5)
  clear d3 d4 d5 f2
  generalize hwD : World.setCell (World.setCell (World.setCell w2 _ _) _ _) _ _ = wD
  have RD0 : Hid (RowL wD w.heap.size 38 [.int .i64 s.mr, .int .i64 s.mc, (.slice Am s.ms.length km), .int .i64 s.orr, .int .i64 s.oc, (.slice Ao s.os.length ko), .bool s.sw, .int .i64 s.cur.row, .int .i64 s.cur.col, .bool s.cur.wrap, .int .i64 s.cur.a.fg, .int .i64 s.cur.a.bg, .int .i64 s.cur.a.fl, .int .i64 s.cur.g0, .int .i64 s.cur.g1, .int .i64 s.cur.sh, .bool s.cur.org, .int .i64 s.sav.row, .int .i64 s.sav.col, .bool s.sav.wrap, .int .i64 s.sav.a.fg, .int .i64 s.sav.a.bg, .int .i64 s.sav.a.fl, .int .i64 s.sav.g0, .int .i64 s.sav.g1, .int .i64 s.sav.sh, .bool s.sav.org, .int .i64 s.too.row, .int .i64 s.too.col, .bool s.too.wrap, .int .i64 s.too.a.fg, .int .i64 s.too.a.bg, .int .i64 s.too.a.fl, .int .i64 s.too.g0, .int .i64 s.too.g1, .int .i64 s.too.sh, .bool s.too.org, .int .i64 s.top, .int .i64 s.bot, (.slice At s.tabs.length kt), .int .i64 s.modes, .string s.title, .int .i64 s.last]) := hid (by rw [← hwD]; exact (((RC0.out.below HB2.out).far HN0.out).far HN0.out).far HN0.out)
  have RD1 : Hid (RowL wD (w.heap.size + 1) 38 zeroL) := hid (by rw [← hwD]; exact (((RC1.out.below HB2.out).far HN1.out).far HN1.out).far HN1.out)
  have RD2 : Hid (RowL wD g 38 [.int .i64 s.mr, .int .i64 s.mc, (.slice Am' s.ms.length km'), .int .i64 s.orr, .int .i64 s.oc, (.slice Ao' s.os.length ko'), .bool s.sw, .int .i64 s.cur.row, .int .i64 s.cur.col, .bool s.cur.wrap, .int .i64 s.cur.a.fg, .int .i64 s.cur.a.bg, .int .i64 s.cur.a.fl, .int .i64 s.cur.g0, .int .i64 s.cur.g1, .int .i64 s.cur.sh, .bool s.cur.org, .int .i64 s.sav.row, .int .i64 s.sav.col, .bool s.sav.wrap, .int .i64 s.sav.a.fg, .int .i64 s.sav.a.bg, .int .i64 s.sav.a.fl, .int .i64 s.sav.g0, .int .i64 s.sav.g1, .int .i64 s.sav.sh, .bool s.sav.org, .int .i64 s.too.row, .int .i64 s.too.col, .bool s.too.wrap, .int .i64 s.too.a.fg, .int .i64 s.too.a.bg, .int .i64 s.too.a.fl, .int .i64 s.too.g0, .int .i64 s.too.g1, .int .i64 s.too.sh, .bool s.too.org, .int .i64 s.top, .int .i64 s.bot, (.slice At s.tabs.length kt), .int .i64 s.modes, .string s.title, .int .i64 s.last]) := hid (by rw [← hwD]; exact (((RC2.out.below HB2.out).set 3 _).set 4 _).set 5 _)
  have HOD : Hid (OwnC wD (g + 1) (.slice Ao' s.os.length ko') s.os) := hid (by rw [← hwD]; exact OwnC.lower (own_set (own_set (own_set HO2.out HGC.out) HGC.out) HGC.out) HGC.out)
  have HMD : Hid (OwnC wD (g + 1) (.slice Am' s.ms.length km') s.ms) := hid (by rw [← hwD]; exact own_set (own_set (own_set (HOC.out.below HB2.out) (by omega)) (by omega)) (by omega))
  have HBD : Hid (Below w.heap.size w wD) := hid (by rw [← hwD]; have hg := HG.out; exact below_set (below_set (below_set (after HBC.out HB2.out) (by omega) _ _) (by omega) _ _) (by omega) _ _)
  have HGD : Hid (g < wD.heap.size) := hid RD2.out.lt
  have HZD : Hid (w2.heap.size ≤ wD.heap.size) := hid (by rw [← hwD]; simp [World.setCell])
  have AMO := hid (apart_of HO1.out HO2.out HZC.out)
  have HZ1 : Hid (w1.heap.size ≤ wD.heap.size) := hid (Nat.le_trans HZC.out (Nat.le_trans HB2.out.size HZD.out))
  clear hwD RC0 RC1 RC2 HB2 HBC HGC HOC
  have c39 := RD0.out.cell 39 _ rfl
  go_upto_region 5 with (go_at_call 29; (with_reducible refine (HT.out _ HBD.out).mono ?_); rintro e w3 ⟨v', rfl, hO, hB⟩; obtain ⟨At', kt', rfl⟩ := ownB_slice hO; have HO3 := hid hO; have HB3 := hid hB; have d39 := (RD2.out.below hB).cell 39 _ rfl; have f2 := (RD2.out.below hB).free; clear hO hB c39)
  clear d39 f2
  generalize hwE : World.setCell w3 _ _ = wE
  have RE1 : Hid (RowL wE (w.heap.size + 1) 38 zeroL) := hid (by rw [← hwE]; exact (RD1.out.below HB3.out).far HN1.out)
  have RE2 : Hid (RowL wE g 38 [.int .i64 s.mr, .int .i64 s.mc, (.slice Am' s.ms.length km'), .int .i64 s.orr, .int .i64 s.oc, (.slice Ao' s.os.length ko'), .bool s.sw, .int .i64 s.cur.row, .int .i64 s.cur.col, .bool s.cur.wrap, .int .i64 s.cur.a.fg, .int .i64 s.cur.a.bg, .int .i64 s.cur.a.fl, .int .i64 s.cur.g0, .int .i64 s.cur.g1, .int .i64 s.cur.sh, .bool s.cur.org, .int .i64 s.sav.row, .int .i64 s.sav.col, .bool s.sav.wrap, .int .i64 s.sav.a.fg, .int .i64 s.sav.a.bg, .int .i64 s.sav.a.fl, .int .i64 s.sav.g0, .int .i64 s.sav.g1, .int .i64 s.sav.sh, .bool s.sav.org, .int .i64 s.too.row, .int .i64 s.too.col, .bool s.too.wrap, .int .i64 s.too.a.fg, .int .i64 s.too.a.bg, .int .i64 s.too.a.fl, .int .i64 s.too.g0, .int .i64 s.too.g1, .int .i64 s.too.sh, .bool s.too.org, .int .i64 s.top, .int .i64 s.bot, (.slice At' s.tabs.length kt'), .int .i64 s.modes, .string s.title, .int .i64 s.last]) := hid (by rw [← hwE]; exact (RD2.out.below HB3.out).set 39 _)
  have HTE : Hid (OwnB wE (g + 1) (.slice At' s.tabs.length kt') s.tabs) := hid (by rw [← hwE]; exact ownB_lower (w' := w) (own_set HO3.out HGD.out) HGD.out)
  have HOE : Hid (OwnC wE (g + 1) (.slice Ao' s.os.length ko') s.os) := hid (by rw [← hwE]; exact own_set (HOD.out.below HB3.out) (by omega))
  have HME : Hid (OwnC wE (g + 1) (.slice Am' s.ms.length km') s.ms) := hid (by rw [← hwE]; exact own_set (HMD.out.below HB3.out) (by omega))
  have HBE : Hid (Below w.heap.size w wE) := hid (by rw [← hwE]; have hg := HG.out; exact below_set (after HBD.out HB3.out) (by omega) _ _)
  have AMT := hid (apart_of HO1.out HO3.out HZ1.out)
  have AOT := hid (apart_of HO2.out HO3.out HZD.out)
  clear hwE RD0 RD1 RD2 HO1 HO2 HO3 HB3 HBD HGD HOD HMD HZC HZD HZ1
  refine wp_region_lit ?_
  refine wpList_load_mid rfl 38 _ rfl g 0 rfl [.int .i64 s.mr, .int .i64 s.mc, (.slice Am' s.ms.length km'), .int .i64 s.orr, .int .i64 s.oc, (.slice Ao' s.os.length ko'), .bool s.sw, .int .i64 s.cur.row, .int .i64 s.cur.col, .bool s.cur.wrap, .int .i64 s.cur.a.fg, .int .i64 s.cur.a.bg, .int .i64 s.cur.a.fl, .int .i64 s.cur.g0, .int .i64 s.cur.g1, .int .i64 s.cur.sh, .bool s.cur.org, .int .i64 s.sav.row, .int .i64 s.sav.col, .bool s.sav.wrap, .int .i64 s.sav.a.fg, .int .i64 s.sav.a.bg, .int .i64 s.sav.a.fl, .int .i64 s.sav.g0, .int .i64 s.sav.g1, .int .i64 s.sav.sh, .bool s.sav.org, .int .i64 s.too.row, .int .i64 s.too.col, .bool s.too.wrap, .int .i64 s.too.a.fg, .int .i64 s.too.a.bg, .int .i64 s.too.a.fl, .int .i64 s.too.g0, .int .i64 s.too.g1, .int .i64 s.too.sh, .bool s.too.org, .int .i64 s.top, .int .i64 s.bot, (.slice At' s.tabs.length kt'), .int .i64 s.modes, .string s.title, .int .i64 s.last] _ RE2.out.range Tryz.underlying38 rfl (by kernel_rfl) ?_
  refine wpList_store_mid rfl 38 _ _ rfl (w.heap.size + 1) 0 (#[.int .i64 s.mr, .int .i64 s.mc, (.slice Am' s.ms.length km'), .int .i64 s.orr, .int .i64 s.oc, (.slice Ao' s.os.length ko'), .bool s.sw, .int .i64 s.cur.row, .int .i64 s.cur.col, .bool s.cur.wrap, .int .i64 s.cur.a.fg, .int .i64 s.cur.a.bg, .int .i64 s.cur.a.fl, .int .i64 s.cur.g0, .int .i64 s.cur.g1, .int .i64 s.cur.sh, .bool s.cur.org, .int .i64 s.sav.row, .int .i64 s.sav.col, .bool s.sav.wrap, .int .i64 s.sav.a.fg, .int .i64 s.sav.a.bg, .int .i64 s.sav.a.fl, .int .i64 s.sav.g0, .int .i64 s.sav.g1, .int .i64 s.sav.sh, .bool s.sav.org, .int .i64 s.too.row, .int .i64 s.too.col, .bool s.too.wrap, .int .i64 s.too.a.fg, .int .i64 s.too.a.bg, .int .i64 s.too.a.fl, .int .i64 s.too.g0, .int .i64 s.too.g1, .int .i64 s.too.sh, .bool s.too.org, .int .i64 s.top, .int .i64 s.bot, (.slice At' s.tabs.length kt'), .int .i64 s.modes, .string s.title, .int .i64 s.last]) rfl rfl ?_ ?_ ?_ ?_
  · exact RE1.out.there rfl
  · kernel_rfl
  · rw [List.all_toArray]; rfl
  generalize hwF : World.setCells _ _ _ _ = wF
  have hg := HG.out
  have RF1 : Hid (RowL wF (w.heap.size + 1) 38 [.int .i64 s.mr, .int .i64 s.mc, (.slice Am' s.ms.length km'), .int .i64 s.orr, .int .i64 s.oc, (.slice Ao' s.os.length ko'), .bool s.sw, .int .i64 s.cur.row, .int .i64 s.cur.col, .bool s.cur.wrap, .int .i64 s.cur.a.fg, .int .i64 s.cur.a.bg, .int .i64 s.cur.a.fl, .int .i64 s.cur.g0, .int .i64 s.cur.g1, .int .i64 s.cur.sh, .bool s.cur.org, .int .i64 s.sav.row, .int .i64 s.sav.col, .bool s.sav.wrap, .int .i64 s.sav.a.fg, .int .i64 s.sav.a.bg, .int .i64 s.sav.a.fl, .int .i64 s.sav.g0, .int .i64 s.sav.g1, .int .i64 s.sav.sh, .bool s.sav.org, .int .i64 s.too.row, .int .i64 s.too.col, .bool s.too.wrap, .int .i64 s.too.a.fg, .int .i64 s.too.a.bg, .int .i64 s.too.a.fl, .int .i64 s.too.g0, .int .i64 s.too.g1, .int .i64 s.too.sh, .bool s.too.org, .int .i64 s.top, .int .i64 s.bot, (.slice At' s.tabs.length kt'), .int .i64 s.modes, .string s.title, .int .i64 s.last]) := hid (by rw [← hwF]; exact setCells_all RE1.out rfl)
  have HGR : wE.grownBy wF (some (w.heap.size + 1)) := by rw [← hwF]; exact grown_setCells _ _ _
  have HTF : Hid (OwnB wF w.heap.size (.slice At' s.tabs.length kt') s.tabs) := hid (ownB_lower (w' := w) (own_grown HTE.out HGR (by omega)) (by omega))
  have HOF : Hid (OwnC wF w.heap.size (.slice Ao' s.os.length ko') s.os) := hid (OwnC.lower (own_grown HOE.out HGR (by omega)) (by omega))
  have HMF : Hid (OwnC wF w.heap.size (.slice Am' s.ms.length km') s.ms) := hid (OwnC.lower (own_grown HME.out HGR (by omega)) (by omega))
  have HBF : Hid (Below w.heap.size w wF) := hid (below_of_grown HBE.out HGR (fun k hk => by cases hk; omega))
  clear hwF HGR RE1 RE2 HTE HOE HME HBE
  go_wp2
  exact bodyPost_ret (results_cell Tryz.results19 _ _ (w.heap.size + 1) 0 rfl _ (run_loadVar_mid _ (w.heap.size + 1) 0 38 [.int .i64 s.mr, .int .i64 s.mc, (.slice Am' s.ms.length km'), .int .i64 s.orr, .int .i64 s.oc, (.slice Ao' s.os.length ko'), .bool s.sw, .int .i64 s.cur.row, .int .i64 s.cur.col, .bool s.cur.wrap, .int .i64 s.cur.a.fg, .int .i64 s.cur.a.bg, .int .i64 s.cur.a.fl, .int .i64 s.cur.g0, .int .i64 s.cur.g1, .int .i64 s.cur.sh, .bool s.cur.org, .int .i64 s.sav.row, .int .i64 s.sav.col, .bool s.sav.wrap, .int .i64 s.sav.a.fg, .int .i64 s.sav.a.bg, .int .i64 s.sav.a.fl, .int .i64 s.sav.g0, .int .i64 s.sav.g1, .int .i64 s.sav.sh, .bool s.sav.org, .int .i64 s.too.row, .int .i64 s.too.col, .bool s.too.wrap, .int .i64 s.too.a.fg, .int .i64 s.too.a.bg, .int .i64 s.too.a.fl, .int .i64 s.too.g0, .int .i64 s.too.g1, .int .i64 s.too.sh, .bool s.too.org, .int .i64 s.top, .int .i64 s.bot, (.slice At' s.tabs.length kt'), .int .i64 s.modes, .string s.title, .int .i64 s.last] _ RF1.out.range Tryz.underlying38 rfl (by kernel_rfl))) rfl ⟨_, _, _, rfl, HMF.out, HOF.out, HTF.out, HBF.out, AMO.out, AMT.out, AOT.out⟩
end Go.Proofs.YtpmfjombfcnhmaaGreatDoor
