/- cursor.Move, cursor.done and what is done: refused, or a screen of one's own, changed. -/
import Derived.Test.YtpmfjombfcnhmaaGreatDoorTo
set_option linter.unusedVariables false
set_option linter.unusedSimpArgs false
namespace Go.Proofs.YtpmfjombfcnhmaaGreatDoor
open Go Go.RowKit

/-! ### slices of one's own as blocks -/
def OwnP (e : TypeId) (size n cap : Nat) (xs : List Value) : Obj → Prop := fun o => xs.length = n * size ∧ ∃ cur : Array Value, o = .cells cur e (0, 0) ∧ n ≤ cap ∧ cap ≤ maxLen ∧ cur.size = cap * size ∧ cur.toList.take (n * size) = xs
theorem own_ent {w : World} {base : Nat} {e : TypeId} {size n : Nat} {v : Value} {xs : List Value} (h : w.ownsRow base e size v n xs) (hn : 0 < n) :
    ∃ g cap, v = .slice (some ⟨g, 0, none⟩) n cap ∧ base ≤ g ∧ ∃ o, w.heap[g]? = some o ∧ OwnP e size n cap xs o := by
  obtain ⟨hl, h | ⟨g, cap, cur, rfl, hb, hg, h1, h2, h3, h4⟩⟩ := h
  · omega
  · exact ⟨g, cap, rfl, hb, _, hg, hl, cur, rfl, h1, h2, h3, h4⟩
theorem Mem.own {w0 w : World} {F : List Ent} (hM : Mem w0 w F) {g : Nat} {e : TypeId} {size n cap : Nat} {xs : List Value} (h : (g, OwnP e size n cap xs) ∈ F) : w.ownsRow w0.heap.size e size (.slice (some ⟨g, 0, none⟩) n cap) n xs := by
  obtain ⟨hb, o, ho, hl, cur, rfl, h1, h2, h3, h4⟩ := hM.here _ h
  exact ⟨hl, .inr ⟨g, cap, cur, rfl, hb, ho, h1, h2, h3, h4⟩⟩
abbrev entC (L : List Cell) (cap : Nat) : Obj → Prop := OwnP 73 6 L.length cap (encs L)
abbrev entB (l : List Bool) (cap : Nat) : Obj → Prop := OwnP 4 1 l.length cap (l.map .bool)
abbrev sl (g n cap : Nat) : Value := .slice (some ⟨g, 0, none⟩) n cap
/-- no slice of the screen is nil -/
def full (s : Scr) : Prop := 0 < s.ms.length ∧ 0 < s.os.length ∧ 0 < s.tabs.length
theorem Mem.addScr {w0 w w' : World} {F : List Ent} {s : Scr} {m o t : Value} (hM : Mem w0 w F) (hB : Below w.heap.size w w') (hO : OwnScr w' w.heap.size s m o t) (hs : full s) :
    ∃ gm cm go co gt ct, m = sl gm s.ms.length cm ∧ o = sl go s.os.length co ∧ t = sl gt s.tabs.length ct ∧ Mem w0 w' ((gm, entC s.ms cm) :: (go, entC s.os co) :: (gt, entB s.tabs ct) :: F) := by
  obtain ⟨gm, cm, rfl, b1, p1⟩ := own_ent hO.hm hs.1
  obtain ⟨go, co, rfl, b2, p2⟩ := own_ent hO.ho hs.2.1
  obtain ⟨gt, ct, rfl, b3, p3⟩ := own_ent hO.ht hs.2.2
  have e1 : go ≠ gm := fun h => by rcases hO.mo with h2 | h2 <;> simp_all [Value.ownBlock]
  have e2 : gt ≠ gm := fun h => by rcases hO.mt with h2 | h2 <;> simp_all [Value.ownBlock]
  have e3 : gt ≠ go := fun h => by rcases hO.ot with h2 | h2 <;> simp_all [Value.ownBlock]
  refine ⟨gm, cm, go, co, gt, ct, rfl, rfl, rfl, ?_⟩
  have h' := hM.call hB
  have hlt : ∀ x ∈ F, x.1 < w.heap.size := fun x hx => hM.lt hx
  refine ⟨h'.below, fun x hx => ?_, ?_⟩
  · rcases List.mem_cons.1 hx with rfl | hx
    · exact ⟨Nat.le_trans hM.below.size b1, p1⟩
    rcases List.mem_cons.1 hx with rfl | hx
    · exact ⟨Nat.le_trans hM.below.size b2, p2⟩
    rcases List.mem_cons.1 hx with rfl | hx
    · exact ⟨Nat.le_trans hM.below.size b3, p3⟩
    exact h'.here x hx
  · refine List.pairwise_cons.2 ⟨fun x hx => ?_, List.pairwise_cons.2 ⟨fun x hx => ?_, List.pairwise_cons.2 ⟨fun x hx => ?_, hM.apart⟩⟩⟩
    · rcases List.mem_cons.1 hx with rfl | hx
      · exact fun h => e1 h.symm
      rcases List.mem_cons.1 hx with rfl | hx
      · exact fun h => e2 h.symm
      · have := hlt x hx; show gm ≠ x.1; omega
    · rcases List.mem_cons.1 hx with rfl | hx
      · exact fun h => e3 h.symm
      · have := hlt x hx; show go ≠ x.1; omega
    · have := hlt x hx; show gt ≠ x.1; omega
theorem Mem.scr {w0 w : World} {R : List Ent} {s : Scr} {gm cm go co gt ct : Nat} (hM : Mem w0 w ((gm, entC s.ms cm) :: (go, entC s.os co) :: (gt, entB s.tabs ct) :: R)) : OwnScr w w0.heap.size s (sl gm s.ms.length cm) (sl go s.os.length co) (sl gt s.tabs.length ct) := by
  have ha := hM.apart
  simp only [List.pairwise_cons, List.mem_cons, forall_eq_or_imp] at ha
  refine ⟨hM.own (.head _), hM.own (.tail _ (.head _)), hM.own (.tail _ (.tail _ (.head _))), .inr fun h => ?_, .inr fun h => ?_, .inr fun h => ?_⟩
  · exact ha.1.1 (Option.some.inj h).symm
  · exact ha.1.2.1 (Option.some.inj h).symm
  · exact ha.2.1.1 (Option.some.inj h).symm
/-- what may be is full, small enough and within bounds -/
theorem scrB_facts {s : Scr} (h : scrB s = true) : Bd s ∧ full s ∧ (s.tabs.length : Int) = s.mc ∧ s.mr = s.orr ∧ s.mc = s.oc ∧ gridOk s.mr s.mc s.ms ∧ gridOk s.orr s.oc s.os := by
  simp only [scrB, gridsOk, cursOk, restOk, curOk, Bool.and_eq_true, decide_eq_true_eq, gridB_iff] at h
  obtain ⟨⟨⟨⟨⟨h1, h2⟩, h3⟩, h4⟩, ⟨⟨⟨⟨⟨⟨⟨⟨h5, h6⟩, _⟩, _⟩, _⟩, _⟩, _⟩, _⟩, _⟩⟩, ⟨⟨⟨⟨h7, h8⟩, _⟩, _⟩, _⟩⟩ := h
  have hs := sidesOk_iff.1 h1.1
  have hs2 := sidesOk_iff.1 h2.1
  have hlm := h1.2.1
  have hlo := h2.2.1
  have hp : ∀ a b : Int, 1 ≤ a → 1 ≤ b → 1 ≤ a * b := fun a b ha hb => by
    have := Int.mul_le_mul ha hb (by omega) (by omega); simpa using this
  have p1 := hp _ _ hs.1 hs.2.2.1
  have p2 := hp _ _ hs2.1 hs2.2.2.1
  unfold marginsOk at h7
  refine ⟨⟨⟨hs.1, hs.2.1⟩, hs.2.2, h5, h6, ?_, ?_⟩, ⟨by omega, by omega, by omega⟩, h8, h3, h4, h1, h2⟩
  · split at h7 <;> simp only [decide_eq_true_eq] at h7 <;> omega
  · split at h7 <;> simp only [decide_eq_true_eq] at h7 <;> omega

theorem m_results2 {P : Program} {fn : Func} {p q : Tmp} {ty : TypeId} {w0 w : World} {F : List Ent} (hM : Mem w0 w F) (h : fn.results = #[.cell p ty, .tmp q]) (tmps : Array Value) {b : Nat} (ht : tmps.getD p undef = .pointer (some ⟨b, 0, none⟩)) {v : Value} (hv2 : tmps.getD q undef = v) {t : TypeId} {l : List Value} (hF : (b, Row t l) ∈ F)
    (cs : List Value) (hv : (l.drop 0).take cs.length = cs) {d : TypeDesc} (hu : P.underlying ty = some d) (hd : d.isRow = true) (hi : (P.info? ty).map (·.size) = some cs.length) : (results fn tmps).run P w = .ok (.tuple #[.agg cs.toArray, v]) w := by
  have hl := run_loadVar_mid w b 0 ty cs d (hM.range hF hv) hu hd hi
  have ht2 : tmps[p]?.getD undef = .pointer (some ⟨b, 0, none⟩) := by simpa using ht
  have hv3 : tmps[q]?.getD undef = v := by simpa using hv2
  simp [results, h, ht2, hv3, asAddr, hl, Result.andThen]

/-! ### the keys, the numbers -/
def moveKey (k : Int) : Bool := decide (k = 65 ∨ k = 66 ∨ k = 67 ∨ k = 68 ∨ k = 69 ∨ k = 70 ∨ k = 71 ∨ k = 100 ∨ k = 72 ∨ k = 73 ∨ k = 90)
def numOk (n : Int) : Bool := decide (-1 ≤ n ∧ n ≤ 9999)
theorem between0_is {n l m : Int} {x : Bool} (h : decide (l ≤ n ∧ n ≤ m) = x) (w : World) : Calls Tryz.prog 40 #[.int .i64 n, .int .i64 l, .int .i64 m] w fun e w' => e = .returned (.bool x) ∧ w = w' := by
  have H := hid h
  clear h
  go_enter Tryz.func40, Tryz.ntmps40
  go_wp2
  all_goals (go_ret; exact ⟨ret_bool (by rw [← H.out, Bool.eq_iff_iff]; simp; try omega), rfl⟩)
theorem numR_is {n : Int} {x : Bool} (h : numOk n = x) (w : World) : Calls Tryz.prog 23 #[.int .i64 n] w fun e w' => e = .returned (.bool x) ∧ w = w' := by
  have H := hid (show decide (-1 ≤ n ∧ n ≤ 9999) = x from h)
  clear h
  go_enter Tryz.func23, Tryz.ntmps23
  go_wp2_with (go_at_call 40; (with_reducible refine (between0_is H.out _).mono ?_); rintro e w' ⟨rfl, rfl⟩)
  go_ret
  exact ⟨rfl, rfl⟩
theorem keys_all : ∀ k : Fin 128, decide (0 ≤ Lib.indexByte [65, 66, 67, 68, 69, 70, 71, 100, 72, 73, 90] (k.val.toUInt8)) = moveKey (k.val : Int) := by decide +kernel
theorem keys_eq {k : Int} (h0 : 0 < k) (h1 : k < 128) : decide (0 ≤ Lib.indexByte (⟨#[65, 66, 67, 68, 69, 70, 71, 100, 72, 73, 90]⟩ : ByteArray).data.toList k.toNat.toUInt8) = moveKey k := by
  have h := keys_all ⟨k.toNat, by omega⟩
  simp only [Int.toNat_of_nonneg (show 0 ≤ k by omega)] at h
  exact h
theorem i32_in {k : Int} (h0 : 0 < k) (h1 : k < 128) : IntKind.i32.wrap k = k := by simp [IntKind.wrap, IntKind.signed, IntKind.bits]; omega
end Go.Proofs.YtpmfjombfcnhmaaGreatDoor
