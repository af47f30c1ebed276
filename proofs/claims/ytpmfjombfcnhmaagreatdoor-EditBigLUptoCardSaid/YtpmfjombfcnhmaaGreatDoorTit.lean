/- Titles: may one be? -/
import Derived.Test.YtpmfjombfcnhmaaGreatDoorScr
set_option linter.unusedVariables false
set_option linter.unusedSimpArgs false
namespace Go.Proofs.YtpmfjombfcnhmaaGreatDoor
open Go Go.RowKit

def bytesL (s : ByteArray) : List Int := s.data.toList.map fun b => (b.toNat : Int)
@[simp] theorem bytesL_length (s : ByteArray) : (bytesL s).length = s.size := by simp [bytesL]
theorem bytesL_at (s : ByteArray) (i : Nat) (h : i < s.size) : (bytesL s).getD i 0 = ((s[i]'h).toNat : Int) := by
  have h2 : i < s.data.toList.length := by simpa using h
  rw [List.getD_eq_getElem?_getD, bytesL, List.getElem?_map, List.getElem?_eq_getElem h2]
  simp; rfl
def low1 (x : Int) : Bool := decide (x < 32)
theorem low_any (b : Int) (w : World) : Calls Tryz.prog 98 #[.int .u8 b] w fun e w' => e = .returned (.bool (low1 b)) ∧ w = w' := by
  go_enter Tryz.func98, Tryz.ntmps98
  go_wp2
  go_ret
  exact ⟨rfl, rfl⟩
/-- the bytes of a text, as a slice -/
theorem bytes_conv (s : ByteArray) : ∃ (cp : World → Nat) (CA : World → Array Value) (FZ : World → Nat × Nat), (∀ W, (convert 9 101 (.string s)).run Tryz.prog W = .ok (.slice (some ⟨W.heap.size, 0, none⟩) s.size (cp W)) (W.drew.alloc (.cells (CA W) 5 (FZ W)))) ∧
    ∀ W i, i < s.size → (CA W)[i]? = some (.int .u8 ((bytesL s).getD i 0)) := by
  refine ⟨fun W => grownCap W s.size 0 5, fun W => bytesRow s (grownCap W s.size 0 5), fun W => ((bytesRow s (grownCap W s.size 0 5)).size, (bytesRow s (grownCap W s.size 0 5)).size + 1), fun W => ?_, fun W i hi => ?_⟩
  · exact run_bytes_of_string (P := Tryz.prog) W 9 101 5 s Tryz.underlying9 Tryz.underlying101 Tryz.underlying5
  · rw [bytesL_at s i hi]
    exact bytesRow_at s _ i hi

set_option maxHeartbeats 1000000 in
set_option maxRecDepth 10000 in
theorem indexF_any (bs : List Int) (b cap : Nat) (w : World) (hl : bs.length ≤ 64) (hc : ∀ j, j < bs.length → w.cell? ⟨b, j, none⟩ = some (.int .u8 (bs.getD j 0))) :
    Calls Tryz.prog 115 #[.slice (some ⟨b, 0, none⟩) bs.length cap, .func (.func 98) #[] #[]] w fun e w' => ∃ r : Int, e = .returned (.int .i64 r) ∧ decide (0 ≤ r) = bs.any low1 ∧ w = w' := by
  go_enter Tryz.func115, Tryz.ntmps115
  go_wp2
  go_loopg [5, 8] (bs.length + 1) (fun gk s5 s8 wx => ∃ i : Nat, s8 = .int .i64 i ∧ i ≤ bs.length ∧ gk = bs.length + 1 - i ∧ w = wx ∧ Hid ((bs.take i).any low1 = false))
  case atStart => exact ⟨0, rfl, by omega, by omega, rfl, hid (by simp)⟩
  case round =>
    obtain ⟨i, rfl, hi, hgk, rfl, HP⟩ := hrel
    by_cases hlt : i < bs.length
    · have hltz : (i : Int) < (bs.length : Int) := by omega
      have hx := hc i hlt
      have hge : bs[i] = bs.getD i 0 := by rw [List.getD_eq_getElem?_getD, List.getElem?_eq_getElem hlt]; rfl
      obtain ⟨z, hz⟩ : ∃ z, bs.getD i 0 = z := ⟨_, rfl⟩
      rw [hz] at hx hge
      obtain ⟨y, hy⟩ : ∃ y, low1 z = y := ⟨_, rfl⟩
      have HY := hid hy
      have hlow : ∀ w1, Calls Tryz.prog 98 #[.int .u8 z] w1 _ := fun w1 => low_any z w1
      have HGE := hid hge
      rw [hy] at hlow
      clear hy hc hge hz
      cases y with
      | true =>
        go_wp2_with (go_at_call 98; (with_reducible refine (hlow _).mono ?_); rintro e w' ⟨rfl, rfl⟩)
        go_ret
        refine ⟨_, rfl, ?_, rfl⟩
        rw [any_of_at low1 bs i hlt (by rw [HGE.out]; exact HY.out)]; simp
      | false =>
        go_wp2_with (go_at_call 98; (with_reducible refine (hlow _).mono ?_); rintro e w' ⟨rfl, rfl⟩)
        go_roundg (gk - 1)
        case measure => omega
        case rel => exact ⟨i + 1, by go_num, by omega, by omega, rfl, hid (by rw [any_take_succ low1 bs i hlt, HP.out, HGE.out, HY.out]; rfl)⟩
    · have hie : i = bs.length := by omega
      subst hie
      have hltz : ¬ (bs.length : Int) < (bs.length : Int) := by omega
      go_wp2
      go_ret
      refine ⟨_, rfl, ?_, rfl⟩
      have := HP.out
      rw [List.take_length] at this
      rw [this]; simp
theorem contF_any (bs : List Int) (b cap : Nat) (w : World) (hl : bs.length ≤ 64) (hc : ∀ j, j < bs.length → w.cell? ⟨b, j, none⟩ = some (.int .u8 (bs.getD j 0))) :
    Calls Tryz.prog 99 #[.slice (some ⟨b, 0, none⟩) bs.length cap, .func (.func 98) #[] #[]] w fun e w' => e = .returned (.bool (bs.any low1)) ∧ w = w' := by
  have hi : ∀ w1, w = w1 → Calls Tryz.prog 115 #[.slice (some ⟨b, 0, none⟩) bs.length cap, .func (.func 98) #[] #[]] w1 _ := fun w1 hw => indexF_any bs b cap w1 hl (hw ▸ hc)
  have HI := hid hi
  clear hi hc
  go_enter Tryz.func99, Tryz.ntmps99
  go_wp2_with (go_at_call 115; (with_reducible refine (HI.out _ rfl).mono ?_); rintro e w' ⟨r, rfl, hr, rfl⟩; have HR := hid hr; clear hr)
  go_ret
  exact ⟨ret_bool HR.out, rfl⟩
theorem contF_is {bs : List Int} {x : Bool} (h : bs.any low1 = x) (n b cap : Nat) (w : World) (hn : n = bs.length) (hl : bs.length ≤ 64) (hc : ∀ j, j < bs.length → w.cell? ⟨b, j, none⟩ = some (.int .u8 (bs.getD j 0))) :
    Calls Tryz.prog 99 #[.slice (some ⟨b, 0, none⟩) n cap, .func (.func 98) #[] #[]] w fun e w' => e = .returned (.bool x) ∧ w = w' := by
  subst hn; exact h ▸ contF_any bs b cap w hl hc
theorem titleOk_eq (s : ByteArray) : titleOk s = (decide (s.size ≤ 64) && (Lib.validD s.data.toList && !((bytesL s).any low1))) := by
  unfold titleOk bytesL
  rw [List.any_map]
  congr 3
  congr 1
  funext b
  simp only [Function.comp, low1]
  exact decide_eq_decide.2 (by omega)
set_option maxRecDepth 10000 in
set_option maxHeartbeats 1000000 in
theorem titled_is {s : ByteArray} {x : Bool} (h : titleOk s = x) (w : World) (hs : s.size ≤ 1048576) (hT : U8 w) :
    Calls Tryz.prog 60 #[.string s] w fun e w' => e = .returned (.bool x) ∧ Below w.heap.size w w' := by
  rw [titleOk_eq] at h
  by_cases h64 : s.size ≤ 64
  · have h64z : (s.size : Int) ≤ 64 := by omega
    rw [decide_eq_true h64, Bool.true_and] at h
    obtain ⟨v, hv⟩ : ∃ v, Lib.validD s.data.toList = v := ⟨_, rfl⟩
    obtain ⟨q, hq⟩ : ∃ v, (bytesL s).any low1 = v := ⟨_, rfl⟩
    rw [hv, hq] at h
    have HQ := hid hq
    have hvs : Calls Tryz.prog 77 #[.string s] w _ := valids_is hv w (by omega) hT
    clear hv hq hT
    cases v with
    | false =>
      have hx : x = false := by rw [← h]; rfl
      subst hx
      clear h
      go_enter Tryz.func60, Tryz.ntmps60
      go_wp2_with (go_at_call 77; (with_reducible refine hvs.mono ?_); rintro e w1 ⟨rfl, hB⟩; have HB := hid hB; clear hB)
      go_ret
      exact ⟨rfl, HB.out⟩
    | true =>
      have hx : x = !q := by rw [← h]; rfl
      subst hx
      clear h
      obtain ⟨cp, CA, FZ, hcv, hCA⟩ := bytes_conv s
      have HCC : Hid (∀ W : World, Calls Tryz.prog 99 #[.slice (some ⟨W.heap.size, 0, none⟩) s.size (cp W), .func (.func 98) #[] #[]] (W.drew.alloc (.cells (CA W) 5 (FZ W))) _) := hid fun W =>
        contF_is HQ.out s.size W.heap.size (cp W) (W.drew.alloc (.cells (CA W) 5 (FZ W))) (by simp) (by simp; omega) (fun j hj => by rw [bytesL_length] at hj; exact (cell_new W.drew (CA W) _ _ j).trans (hCA W j hj))
      clear hCA
      go_enter Tryz.func60, Tryz.ntmps60
      go_wp2_with (first | (go_at_call 77; (with_reducible refine hvs.mono ?_); rintro e w1 ⟨rfl, hB⟩; have HB := hid hB; clear hB) | (go_at_call 99; go_must (refine (HCC.out _).mono ?_); rintro e w2 ⟨rfl, rfl⟩))
      go_ret
      exact ⟨rfl, after HB.out (alloc_below (drewN_below (Below.refl _ _) 1) _)⟩
  · have h64z : ¬ (s.size : Int) ≤ 64 := by omega
    have hx : x = false := by rw [← h, decide_eq_false h64]; rfl
    subst hx
    clear h hT
    go_enter Tryz.func60, Tryz.ntmps60
    go_wp2
    all_goals (go_ret; exact ⟨rfl, Below.refl _ _⟩)
set_option maxHeartbeats 1000000 in
theorem rtitle_is {s : ByteArray} {x : Bool} (h : titleOk s = x) (w : World) (hs : s.size ≤ 1048576) (hT : U8 w) :
    Calls Tryz.prog 38 #[.string s] w fun e w' => e = .returned (.bool x) ∧ Below w.heap.size w w' := by
  rw [titleOk_eq] at h
  obtain ⟨v, hv⟩ : ∃ v, Lib.validD s.data.toList = v := ⟨_, rfl⟩
  rw [hv] at h
  have H := hid h
  have hvs : Calls Tryz.prog 77 #[.string s] w _ := valids_is hv w (by omega) hT
  clear h hv hT
  go_enter Tryz.func38, Tryz.ntmps38
  go_wp2
  go_loopg [3] (s.size + 1) (fun gk s3 wx => ∃ i : Nat, s3 = .int .i64 i ∧ i ≤ s.size ∧ i ≤ 65 ∧ gk = s.size + 1 - i ∧ w = wx ∧ Hid (((bytesL s).take i).any low1 = false))
  case atStart => exact ⟨0, rfl, by omega, by omega, by omega, rfl, hid (by simp)⟩
  case round =>
    obtain ⟨i, rfl, hi, hi2, hgk, rfl, HP⟩ := hrel
    by_cases h1 : i < s.size
    · have hz : (i : Int) < (s.size : Int) := by omega
      by_cases h2 : i ≤ 64
      · have hz2 : (i : Int) ≤ 64 := by omega
        have hb := bytesL_at s i h1
        have hlb : i < (bytesL s).length := by rw [bytesL_length]; exact h1
        have hge : (bytesL s)[i] = ((s[i]'h1).toNat : Int) := by rw [← hb, List.getD_eq_getElem?_getD, List.getElem?_eq_getElem hlb]; rfl
        have HGE := hid hge
        clear hb hge
        by_cases hlo : ((s[i]'h1).toNat : Int) < 32
        · have hx : x = false := by
            rw [← H.out, any_of_at low1 (bytesL s) i hlb (by rw [HGE.out, low1]; exact decide_eq_true hlo)]; simp
          subst hx
          go_wp2
          go_ret
          exact ⟨rfl, Below.refl _ _⟩
        · have hlo2 : (32 : Int) ≤ ((s[i]'h1).toNat : Int) := by omega
          go_wp2
          go_roundg (gk - 1)
          case measure => omega
          case rel => exact ⟨i + 1, by go_num, by omega, by omega, by omega, rfl, hid (by rw [any_take_succ low1 (bytesL s) i hlb, HP.out, HGE.out, low1, decide_eq_false (by omega)]; rfl)⟩
      · have hz2 : (64 : Int) < (i : Int) := by omega
        have hs64 : (64 : Int) < (s.size : Int) := by omega
        have hx : x = false := by rw [← H.out, decide_eq_false (by omega)]; rfl
        subst hx
        go_wp2
        all_goals (go_ret; exact ⟨rfl, Below.refl _ _⟩)
    · have hie : i = s.size := by omega
      subst hie
      have hz : ¬ (s.size : Int) < (s.size : Int) := by omega
      have ha : (bytesL s).any low1 = false := by have := HP.out; rwa [← bytesL_length s, List.take_length] at this
      by_cases h2 : s.size ≤ 64
      · have hz2 : (s.size : Int) ≤ 64 := by omega
        have hx : x = v := by rw [← H.out, decide_eq_true h2, ha]; simp
        subst hx
        go_wp2_with (go_at_call 77; (with_reducible refine hvs.mono ?_); rintro e w1 ⟨rfl, hB⟩; have HB := hid hB; clear hB)
        go_ret
        exact ⟨rfl, HB.out⟩
      · have hz2 : (64 : Int) < (s.size : Int) := by omega
        have hx : x = false := by rw [← H.out, decide_eq_false h2]; rfl
        subst hx
        go_wp2
        all_goals (go_ret; exact ⟨rfl, Below.refl _ _⟩)
end Go.Proofs.YtpmfjombfcnhmaaGreatDoor
