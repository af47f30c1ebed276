import Derived.Test.YtpmfjombfcnhmaaGreatDoorEdEdit
set_option linter.unusedVariables false
set_option linter.unusedSimpArgs false
set_option linter.unnecessarySimpa false
/- edit.Edit, key by key (printed by gened.py). -/
namespace Go.Proofs.YtpmfjombfcnhmaaGreatDoor
open Go Go.RowKit Go.Proofs.YtpmfjombfcnhmaaGreatDoorW.PrintLast

/-- what becomes of the cells that are seen -/
def edM (key n0 : Int) (n r c row col top bot : Nat) (a : Attr) (M : List Cell) : List Cell :=
  if key = 74 then rowsL c (jT n0 row col c a r) M
  else if key = 75 then onSub (row * c) c (lineL n0 col c a) M
  else if key = 88 then onSub (row * c) c (wipeL col (min c (col + n)) a) M
  else if key = 80 then onSub (row * c) c (shutL col (min n (c - col)) a) M
  else if key = 64 then onSub (row * c) c (openL col (min n (c - col)) a) M
  else if key = 76 then (if top ≤ row ∧ row ≤ bot then onSub (row * c) ((bot + 1) * c - row * c) (downL (min n (bot - row + 1) * c) a) M else M)
  else if key = 77 then (if top ≤ row ∧ row ≤ bot then onSub (row * c) ((bot + 1) * c - row * c) (upL (min n (bot - row + 1) * c) a) M else M)
  else if key = 83 then onSub (top * c) ((bot + 1) * c - top * c) (upL (min n (bot - top + 1) * c) a) M
  else onSub (top * c) ((bot + 1) * c - top * c) (downL (min n (bot - top + 1) * c) a) M
/-- what becomes of all else -/
def edS (key : Int) (row top bot : Nat) (s : Scr) : Scr := if key = 83 ∨ key = 84 then s else if (key = 76 ∨ key = 77) ∧ (top ≤ row ∧ row ≤ bot) then atCol (noWrap s) 0 else noWrap s
theorem set_comm2 {F : List Ent} {k j : Nat} {x y : Ent} (h : k ≠ j) : (F.set j y).set k x = (F.set k x).set j y := List.set_comm _ _ (fun e => h e.symm)
set_option maxRecDepth 100000 in
set_option maxHeartbeats 4000000 in
theorem edit_74 {s : Scr} {m o t : Value} {g cap r c row col top bot : Nat} {M : List Cell} (E : EdH s m o t g cap r c row col top bot M) {w0 w : World} {F : List Ent} {p k j n : Nat} {told : Int} (hM : Mem w0 w F) (hG : F[k]? = some (p, Row 38 (scrL s m o t))) (hF : F[j]? = some (g, entC M cap)) (ht : -1 ≤ told ∧ told ≤ 9999) (hn : (n : Int) = max 1 told) :
    Calls Tryz.prog 33 #[.pointer (some ⟨p, 0, none⟩), .int .i64 74, .int .i64 told] w fun e w' => e = .returned (.tuple #[]) ∧ Mem w0 w' ((F.set k (p, Row 38 (scrL (edS 74 row top bot s) m o t))).set j (g, entC (edM 74 (max 0 told) n r c row col top bot s.cur.a M) cap)) := by
  have hkj := Kj hM hG hF
  have HM := hid hM
  have HG := hid hG
  have HKJ := hid hkj
  have E1 := E.noW
  obtain ⟨G, hGG⟩ : ∃ G, F.set k (p, Row 38 (scrL (noWrap s) m o t)) = G := ⟨_, rfl⟩
  have hG1 : G[k]? = some (p, Row 38 (scrL (noWrap s) m o t)) := by rw [← hGG]; exact set_get hG
  have hF1 : G[j]? = some (g, entC M cap) := by rw [← hGG]; exact by rw [List.getElem?_set_ne hkj]; exact hF
  have HG1 := hid hG1
  have HF1 := hid hF1
  have HGG := hid hGG
  have HSN : Hid (∀ W, Mem w0 W G → Calls Tryz.prog 65 #[.pointer (some ⟨p, 0, none⟩)] W fun e w' => e = .returned (.pointer (some ⟨p, seenO (noWrap s), none⟩)) ∧ W = w') := hid fun W hW => Seen_any hW hG1
  have HLN : Hid (∀ W, Mem w0 W G → Calls Tryz.prog 66 #[.pointer (some ⟨p, seenO (noWrap s), none⟩), .int .i64 row] W fun e w' => e = .returned (.slice (some ⟨g, row * c * 6, none⟩) c c) ∧ Below W.heap.size W w') := hid fun W hW => LineM hW hG1 E1.l1 E1.l2 rfl (by have := E.rowIn; have := hW.lenC (List.mem_of_getElem? hF1); omega) (by have := E.rr; have := E.r40; omega) (by have := E.c40; omega) E.c1
  have HV1 := hid (show (scrL (noWrap s) m o t)[7]? = some (.int .i64 (row : Int)) by rw [← E1.hrow]; rfl)
  have HV2 := hid (show (scrL (noWrap s) m o t)[8]? = some (.int .i64 (col : Int)) by rw [← E1.hcol]; rfl)
  have HV3 := hid (show (scrL (noWrap s) m o t)[37]? = some (.int .i64 (top : Int)) by rw [← E1.htop]; rfl)
  have HV4 := hid (show (scrL (noWrap s) m o t)[38]? = some (.int .i64 (bot : Int)) by rw [← E1.hbot]; rfl)
  have HVA := hid (show ((scrL (noWrap s) m o t).drop 10).take (attrL s.cur.a).length = attrL s.cur.a from rfl)
  have HVC := hid E1.l1
  have m1 := fun ts t w => run_max_is (P := Tryz.prog) hn.symm ts t w
  have hn1 : 1 ≤ n := by omega
  have hn2 : n ≤ 9999 := by omega
  have hlen := E.len
  have hrI := E.rowIn
  have hc1 := E.c1
  have hc40 := E.c40
  have hcc := E.cc
  have hpos := E.pos
  have m0 := fun ts t w => run_max_is (P := Tryz.prog) (x := 0) (y := told) rfl ts t w
  have HCL : Hid (∀ W, Mem w0 W G → Calls Tryz.prog 67 #[.pointer (some ⟨p, 0, none⟩), .int .i64 (max 0 told)] W fun e w' => e = .returned (.tuple #[]) ∧ Mem w0 w' (G.set j (g, entC (rowsL c (jT (max 0 told) row col c s.cur.a r) M) cap))) := hid fun W hW => eall_any (s := noWrap s) hW hG1 hF1 E1.l0 E1.l1 E1.l2 E.ml (by have := E.r40; omega) E.c1 (by omega) (by omega) E1.hcol E.cc E1.hrow E.rr
  obtain ⟨q, hq⟩ : ∃ q, seenO (noWrap s) = q := ⟨_, rfl⟩
  simp only [hq] at HSN HLN HVC
  clear hM hG hF hn hG1 hF1 hGG hq hkj E E1
  go_enter Tryz.func33, Tryz.ntmps33
  go_upto_region 3 with (first | ((with_reducible refine wl_id ?_); refine m_store HM.out rfl rfl rfl k HG.out rfl rfl rfl (Nat.le_of_ble_eq_true rfl) (by kernel_rfl) ?_; intro w1 hM; simp only [Act.put, List.setIfInBounds_toArray, List.set_cons_zero, List.set_cons_succ]; have HM1 := hid hM; clear hM))
  have HM2 := hid (show Mem w0 w1 G by rw [← HGG.out]; exact HM1.out)
  clear HM HM1
  have HM := HM2
  clear HM2
  go_upto_region 5 with (first | (go_at_call 65; (with_reducible refine (HSN.out _ HM.out).mono ?_); rintro e w3 ⟨rfl, rfl⟩) | ((with_reducible refine wl_id ?_); refine m_load HM.out rfl rfl rfl (List.mem_of_getElem? HG1.out) HV1.out Tryz.underlying3 rfl ?_; simp only [Act.put, List.setIfInBounds_toArray, List.set_cons_zero, List.set_cons_succ]) | (go_at_call 66; (with_reducible refine (HLN.out _ HM.out).mono ?_); rintro e w4 ⟨rfl, hB⟩; have HM4 := hid (HM.out.call hB); clear hB))
  clear HM
  have HM := HM4
  clear HM4
  go_wp2_with (first | (go_at_call 67; (with_reducible refine (HCL.out _ HM.out).mono ?_); rintro e wz ⟨rfl, hM⟩; have HMz := hid hM; clear hM))
  first | go_end0 | (refine bodyPost_ret (results_none rfl _ _ _) rfl ?_)
  refine ⟨rfl, ?_⟩
  have hM := HMz.out
  rw [← HGG.out] at hM
  exact hM
set_option maxRecDepth 100000 in
set_option maxHeartbeats 4000000 in
theorem edit_75 {s : Scr} {m o t : Value} {g cap r c row col top bot : Nat} {M : List Cell} (E : EdH s m o t g cap r c row col top bot M) {w0 w : World} {F : List Ent} {p k j n : Nat} {told : Int} (hM : Mem w0 w F) (hG : F[k]? = some (p, Row 38 (scrL s m o t))) (hF : F[j]? = some (g, entC M cap)) (ht : -1 ≤ told ∧ told ≤ 9999) (hn : (n : Int) = max 1 told) :
    Calls Tryz.prog 33 #[.pointer (some ⟨p, 0, none⟩), .int .i64 75, .int .i64 told] w fun e w' => e = .returned (.tuple #[]) ∧ Mem w0 w' ((F.set k (p, Row 38 (scrL (edS 75 row top bot s) m o t))).set j (g, entC (edM 75 (max 0 told) n r c row col top bot s.cur.a M) cap)) := by
  have hkj := Kj hM hG hF
  have HM := hid hM
  have HG := hid hG
  have HKJ := hid hkj
  have E1 := E.noW
  obtain ⟨G, hGG⟩ : ∃ G, F.set k (p, Row 38 (scrL (noWrap s) m o t)) = G := ⟨_, rfl⟩
  have hG1 : G[k]? = some (p, Row 38 (scrL (noWrap s) m o t)) := by rw [← hGG]; exact set_get hG
  have hF1 : G[j]? = some (g, entC M cap) := by rw [← hGG]; exact by rw [List.getElem?_set_ne hkj]; exact hF
  have HG1 := hid hG1
  have HF1 := hid hF1
  have HGG := hid hGG
  have HSN : Hid (∀ W, Mem w0 W G → Calls Tryz.prog 65 #[.pointer (some ⟨p, 0, none⟩)] W fun e w' => e = .returned (.pointer (some ⟨p, seenO (noWrap s), none⟩)) ∧ W = w') := hid fun W hW => Seen_any hW hG1
  have HLN : Hid (∀ W, Mem w0 W G → Calls Tryz.prog 66 #[.pointer (some ⟨p, seenO (noWrap s), none⟩), .int .i64 row] W fun e w' => e = .returned (.slice (some ⟨g, row * c * 6, none⟩) c c) ∧ Below W.heap.size W w') := hid fun W hW => LineM hW hG1 E1.l1 E1.l2 rfl (by have := E.rowIn; have := hW.lenC (List.mem_of_getElem? hF1); omega) (by have := E.rr; have := E.r40; omega) (by have := E.c40; omega) E.c1
  have HV1 := hid (show (scrL (noWrap s) m o t)[7]? = some (.int .i64 (row : Int)) by rw [← E1.hrow]; rfl)
  have HV2 := hid (show (scrL (noWrap s) m o t)[8]? = some (.int .i64 (col : Int)) by rw [← E1.hcol]; rfl)
  have HV3 := hid (show (scrL (noWrap s) m o t)[37]? = some (.int .i64 (top : Int)) by rw [← E1.htop]; rfl)
  have HV4 := hid (show (scrL (noWrap s) m o t)[38]? = some (.int .i64 (bot : Int)) by rw [← E1.hbot]; rfl)
  have HVA := hid (show ((scrL (noWrap s) m o t).drop 10).take (attrL s.cur.a).length = attrL s.cur.a from rfl)
  have HVC := hid E1.l1
  have m1 := fun ts t w => run_max_is (P := Tryz.prog) hn.symm ts t w
  have hn1 : 1 ≤ n := by omega
  have hn2 : n ≤ 9999 := by omega
  have hlen := E.len
  have hrI := E.rowIn
  have hc1 := E.c1
  have hc40 := E.c40
  have hcc := E.cc
  have hpos := E.pos
  have m0 := fun ts t w => run_max_is (P := Tryz.prog) (x := 0) (y := told) rfl ts t w
  have HCL : Hid (∀ W, Mem w0 W G → Calls Tryz.prog 68 #[.pointer (some ⟨p, 0, none⟩), .int .i64 row, .int .i64 (max 0 told)] W fun e w' => e = .returned (.tuple #[]) ∧ Mem w0 w' (G.set j (g, entC (onSub (row * c) c (lineL (max 0 told) col c s.cur.a) M) cap))) := hid fun W hW => eline_any (s := noWrap s) hW hG1 hF1 E1.l1 E1.l2 rfl E.rowIn (by have := E.rr; have := E.r40; omega) E.c1 (by omega) (by omega) E1.hcol E.cc
  obtain ⟨q, hq⟩ : ∃ q, seenO (noWrap s) = q := ⟨_, rfl⟩
  simp only [hq] at HSN HLN HVC
  clear hM hG hF hn hG1 hF1 hGG hq hkj E E1
  go_enter Tryz.func33, Tryz.ntmps33
  go_upto_region 3 with (first | ((with_reducible refine wl_id ?_); refine m_store HM.out rfl rfl rfl k HG.out rfl rfl rfl (Nat.le_of_ble_eq_true rfl) (by kernel_rfl) ?_; intro w1 hM; simp only [Act.put, List.setIfInBounds_toArray, List.set_cons_zero, List.set_cons_succ]; have HM1 := hid hM; clear hM))
  have HM2 := hid (show Mem w0 w1 G by rw [← HGG.out]; exact HM1.out)
  clear HM HM1
  have HM := HM2
  clear HM2
  go_upto_region 5 with (first | (go_at_call 65; (with_reducible refine (HSN.out _ HM.out).mono ?_); rintro e w3 ⟨rfl, rfl⟩) | ((with_reducible refine wl_id ?_); refine m_load HM.out rfl rfl rfl (List.mem_of_getElem? HG1.out) HV1.out Tryz.underlying3 rfl ?_; simp only [Act.put, List.setIfInBounds_toArray, List.set_cons_zero, List.set_cons_succ]) | (go_at_call 66; (with_reducible refine (HLN.out _ HM.out).mono ?_); rintro e w4 ⟨rfl, hB⟩; have HM4 := hid (HM.out.call hB); clear hB))
  clear HM
  have HM := HM4
  clear HM4
  go_wp2_with (first | ((with_reducible refine wl_id ?_); refine m_load HM.out rfl rfl rfl (List.mem_of_getElem? HG1.out) HV1.out Tryz.underlying3 rfl ?_; simp only [Act.put, List.setIfInBounds_toArray, List.set_cons_zero, List.set_cons_succ]) | (go_at_call 68; (with_reducible refine (HCL.out _ HM.out).mono ?_); rintro e wz ⟨rfl, hM⟩; have HMz := hid hM; clear hM))
  first | go_end0 | (refine bodyPost_ret (results_none rfl _ _ _) rfl ?_)
  refine ⟨rfl, ?_⟩
  have hM := HMz.out
  rw [← HGG.out] at hM
  exact hM
set_option maxRecDepth 100000 in
set_option maxHeartbeats 4000000 in
theorem edit_88 {s : Scr} {m o t : Value} {g cap r c row col top bot : Nat} {M : List Cell} (E : EdH s m o t g cap r c row col top bot M) {w0 w : World} {F : List Ent} {p k j n : Nat} {told : Int} (hM : Mem w0 w F) (hG : F[k]? = some (p, Row 38 (scrL s m o t))) (hF : F[j]? = some (g, entC M cap)) (ht : -1 ≤ told ∧ told ≤ 9999) (hn : (n : Int) = max 1 told) :
    Calls Tryz.prog 33 #[.pointer (some ⟨p, 0, none⟩), .int .i64 88, .int .i64 told] w fun e w' => e = .returned (.tuple #[]) ∧ Mem w0 w' ((F.set k (p, Row 38 (scrL (edS 88 row top bot s) m o t))).set j (g, entC (edM 88 (max 0 told) n r c row col top bot s.cur.a M) cap)) := by
  have hkj := Kj hM hG hF
  have HM := hid hM
  have HG := hid hG
  have HKJ := hid hkj
  have E1 := E.noW
  obtain ⟨G, hGG⟩ : ∃ G, F.set k (p, Row 38 (scrL (noWrap s) m o t)) = G := ⟨_, rfl⟩
  have hG1 : G[k]? = some (p, Row 38 (scrL (noWrap s) m o t)) := by rw [← hGG]; exact set_get hG
  have hF1 : G[j]? = some (g, entC M cap) := by rw [← hGG]; exact by rw [List.getElem?_set_ne hkj]; exact hF
  have HG1 := hid hG1
  have HF1 := hid hF1
  have HGG := hid hGG
  have HSN : Hid (∀ W, Mem w0 W G → Calls Tryz.prog 65 #[.pointer (some ⟨p, 0, none⟩)] W fun e w' => e = .returned (.pointer (some ⟨p, seenO (noWrap s), none⟩)) ∧ W = w') := hid fun W hW => Seen_any hW hG1
  have HLN : Hid (∀ W, Mem w0 W G → Calls Tryz.prog 66 #[.pointer (some ⟨p, seenO (noWrap s), none⟩), .int .i64 row] W fun e w' => e = .returned (.slice (some ⟨g, row * c * 6, none⟩) c c) ∧ Below W.heap.size W w') := hid fun W hW => LineM hW hG1 E1.l1 E1.l2 rfl (by have := E.rowIn; have := hW.lenC (List.mem_of_getElem? hF1); omega) (by have := E.rr; have := E.r40; omega) (by have := E.c40; omega) E.c1
  have HV1 := hid (show (scrL (noWrap s) m o t)[7]? = some (.int .i64 (row : Int)) by rw [← E1.hrow]; rfl)
  have HV2 := hid (show (scrL (noWrap s) m o t)[8]? = some (.int .i64 (col : Int)) by rw [← E1.hcol]; rfl)
  have HV3 := hid (show (scrL (noWrap s) m o t)[37]? = some (.int .i64 (top : Int)) by rw [← E1.htop]; rfl)
  have HV4 := hid (show (scrL (noWrap s) m o t)[38]? = some (.int .i64 (bot : Int)) by rw [← E1.hbot]; rfl)
  have HVA := hid (show ((scrL (noWrap s) m o t).drop 10).take (attrL s.cur.a).length = attrL s.cur.a from rfl)
  have HVC := hid E1.l1
  have m1 := fun ts t w => run_max_is (P := Tryz.prog) hn.symm ts t w
  have hn1 : 1 ≤ n := by omega
  have hn2 : n ≤ 9999 := by omega
  have hlen := E.len
  have hrI := E.rowIn
  have hc1 := E.c1
  have hc40 := E.c40
  have hcc := E.cc
  have hpos := E.pos
  have s1 : IntKind.i64.wrap ((col : Int) + n) = (col : Int) + n := IntWalk.i64_in _ (by omega)
  have m2 := fun ts t w => run_min_is (P := Tryz.prog) (x := (c : Int)) (y := (col : Int) + n) (z := ((min c (col + n) : Nat) : Int)) (by omega) ts t w
  have HCL : Hid (∀ W, Mem w0 W G → Calls Tryz.prog 69 #[.slice (some ⟨g, row * c * 6, none⟩) c c, .int .i64 col, .int .i64 ((min c (col + n) : Nat) : Int), .agg (attrL s.cur.a).toArray] W fun e w' => e = .returned (.tuple #[]) ∧ Mem w0 w' (G.set j (g, entC (onSub (row * c) c (wipeL col (min c (col + n)) s.cur.a) M) cap))) := hid fun W hW => wipe_any hW hF1 rfl E.rowIn (by omega) (Nat.le_refl _) (Nat.min_le_left _ _) E.pos
  obtain ⟨q, hq⟩ : ∃ q, seenO (noWrap s) = q := ⟨_, rfl⟩
  simp only [hq] at HSN HLN HVC
  clear hM hG hF hn hG1 hF1 hGG hq hkj E E1
  go_enter Tryz.func33, Tryz.ntmps33
  go_upto_region 3 with (first | ((with_reducible refine wl_id ?_); refine m_store HM.out rfl rfl rfl k HG.out rfl rfl rfl (Nat.le_of_ble_eq_true rfl) (by kernel_rfl) ?_; intro w1 hM; simp only [Act.put, List.setIfInBounds_toArray, List.set_cons_zero, List.set_cons_succ]; have HM1 := hid hM; clear hM))
  have HM2 := hid (show Mem w0 w1 G by rw [← HGG.out]; exact HM1.out)
  clear HM HM1
  have HM := HM2
  clear HM2
  go_upto_region 5 with (first | (go_at_call 65; (with_reducible refine (HSN.out _ HM.out).mono ?_); rintro e w3 ⟨rfl, rfl⟩) | ((with_reducible refine wl_id ?_); refine m_load HM.out rfl rfl rfl (List.mem_of_getElem? HG1.out) HV1.out Tryz.underlying3 rfl ?_; simp only [Act.put, List.setIfInBounds_toArray, List.set_cons_zero, List.set_cons_succ]) | (go_at_call 66; (with_reducible refine (HLN.out _ HM.out).mono ?_); rintro e w4 ⟨rfl, hB⟩; have HM4 := hid (HM.out.call hB); clear hB))
  clear HM
  have HM := HM4
  clear HM4
  go_upto_region 11 with (fail)
  (refine m_tail 20 HM.out (by kernel_rfl) (by kernel_rfl) ?_; intro wd hM; clear HM; have HM := hid hM; clear hM; simp only [List.take_succ_cons, List.take_zero, List.drop_succ_cons, List.drop_zero])
  repeat (first | (refine ws_want rfl (fun K hK => ?_); refine ms_load HM.out rfl rfl (List.mem_of_getElem? HG1.out) HV2.out Tryz.underlying3 rfl ?_; simp only [Act.put, List.setIfInBounds_toArray, List.set_cons_zero, List.set_cons_succ]; refine hK _ ?_; clear hK K) | (refine ws_want rfl (fun K hK => ?_); refine ms_load HM.out rfl rfl (List.mem_of_getElem? HG1.out) HVC.out Tryz.underlying3 rfl ?_; simp only [Act.put, List.setIfInBounds_toArray, List.set_cons_zero, List.set_cons_succ]; refine hK _ ?_; clear hK K) | (refine ws_want rfl (fun K hK => ?_); refine ms_loadS HM.out rfl rfl (List.mem_of_getElem? HG1.out) (attrL s.cur.a) HVA.out Tryz.underlying33 rfl (by kernel_rfl) ?_; simp only [Act.put, List.setIfInBounds_toArray, List.set_cons_zero, List.set_cons_succ]; refine hK _ ?_; clear hK K) | still_step)
  refine wpStill_nil ?_
  go_wp2_with (first | (go_at_call 69; (with_reducible refine (HCL.out _ HM.out).mono ?_); rintro e wz ⟨rfl, hM⟩; have HMz := hid hM; clear hM))
  first | go_end0 | (refine bodyPost_ret (results_none rfl _ _ _) rfl ?_)
  refine ⟨rfl, ?_⟩
  have hM := HMz.out
  rw [← HGG.out] at hM
  exact hM
set_option maxRecDepth 100000 in
set_option maxHeartbeats 4000000 in
theorem edit_80 {s : Scr} {m o t : Value} {g cap r c row col top bot : Nat} {M : List Cell} (E : EdH s m o t g cap r c row col top bot M) {w0 w : World} {F : List Ent} {p k j n : Nat} {told : Int} (hM : Mem w0 w F) (hG : F[k]? = some (p, Row 38 (scrL s m o t))) (hF : F[j]? = some (g, entC M cap)) (ht : -1 ≤ told ∧ told ≤ 9999) (hn : (n : Int) = max 1 told) :
    Calls Tryz.prog 33 #[.pointer (some ⟨p, 0, none⟩), .int .i64 80, .int .i64 told] w fun e w' => e = .returned (.tuple #[]) ∧ Mem w0 w' ((F.set k (p, Row 38 (scrL (edS 80 row top bot s) m o t))).set j (g, entC (edM 80 (max 0 told) n r c row col top bot s.cur.a M) cap)) := by
  have hkj := Kj hM hG hF
  have HM := hid hM
  have HG := hid hG
  have HKJ := hid hkj
  have E1 := E.noW
  obtain ⟨G, hGG⟩ : ∃ G, F.set k (p, Row 38 (scrL (noWrap s) m o t)) = G := ⟨_, rfl⟩
  have hG1 : G[k]? = some (p, Row 38 (scrL (noWrap s) m o t)) := by rw [← hGG]; exact set_get hG
  have hF1 : G[j]? = some (g, entC M cap) := by rw [← hGG]; exact by rw [List.getElem?_set_ne hkj]; exact hF
  have HG1 := hid hG1
  have HF1 := hid hF1
  have HGG := hid hGG
  have HSN : Hid (∀ W, Mem w0 W G → Calls Tryz.prog 65 #[.pointer (some ⟨p, 0, none⟩)] W fun e w' => e = .returned (.pointer (some ⟨p, seenO (noWrap s), none⟩)) ∧ W = w') := hid fun W hW => Seen_any hW hG1
  have HLN : Hid (∀ W, Mem w0 W G → Calls Tryz.prog 66 #[.pointer (some ⟨p, seenO (noWrap s), none⟩), .int .i64 row] W fun e w' => e = .returned (.slice (some ⟨g, row * c * 6, none⟩) c c) ∧ Below W.heap.size W w') := hid fun W hW => LineM hW hG1 E1.l1 E1.l2 rfl (by have := E.rowIn; have := hW.lenC (List.mem_of_getElem? hF1); omega) (by have := E.rr; have := E.r40; omega) (by have := E.c40; omega) E.c1
  have HV1 := hid (show (scrL (noWrap s) m o t)[7]? = some (.int .i64 (row : Int)) by rw [← E1.hrow]; rfl)
  have HV2 := hid (show (scrL (noWrap s) m o t)[8]? = some (.int .i64 (col : Int)) by rw [← E1.hcol]; rfl)
  have HV3 := hid (show (scrL (noWrap s) m o t)[37]? = some (.int .i64 (top : Int)) by rw [← E1.htop]; rfl)
  have HV4 := hid (show (scrL (noWrap s) m o t)[38]? = some (.int .i64 (bot : Int)) by rw [← E1.hbot]; rfl)
  have HVA := hid (show ((scrL (noWrap s) m o t).drop 10).take (attrL s.cur.a).length = attrL s.cur.a from rfl)
  have HVC := hid E1.l1
  have m1 := fun ts t w => run_max_is (P := Tryz.prog) hn.symm ts t w
  have hn1 : 1 ≤ n := by omega
  have hn2 : n ≤ 9999 := by omega
  have hlen := E.len
  have hrI := E.rowIn
  have hc1 := E.c1
  have hc40 := E.c40
  have hcc := E.cc
  have hpos := E.pos
  have HCL : Hid (∀ W, Mem w0 W G → Calls Tryz.prog 70 #[.slice (some ⟨g, row * c * 6, none⟩) c c, .int .i64 col, .int .i64 n, .agg (attrL s.cur.a).toArray] W fun e w' => e = .returned (.tuple #[]) ∧ Mem w0 w' (G.set j (g, entC (onSub (row * c) c (shutL col (min n (c - col)) s.cur.a) M) cap))) := hid fun W hW => shut_any hW hF1 rfl E.rowIn (by omega) (Nat.le_refl _) E.cc (by omega) (by omega)
  obtain ⟨q, hq⟩ : ∃ q, seenO (noWrap s) = q := ⟨_, rfl⟩
  simp only [hq] at HSN HLN HVC
  clear hM hG hF hn hG1 hF1 hGG hq hkj E E1
  go_enter Tryz.func33, Tryz.ntmps33
  go_upto_region 3 with (first | ((with_reducible refine wl_id ?_); refine m_store HM.out rfl rfl rfl k HG.out rfl rfl rfl (Nat.le_of_ble_eq_true rfl) (by kernel_rfl) ?_; intro w1 hM; simp only [Act.put, List.setIfInBounds_toArray, List.set_cons_zero, List.set_cons_succ]; have HM1 := hid hM; clear hM))
  have HM2 := hid (show Mem w0 w1 G by rw [← HGG.out]; exact HM1.out)
  clear HM HM1
  have HM := HM2
  clear HM2
  go_upto_region 5 with (first | (go_at_call 65; (with_reducible refine (HSN.out _ HM.out).mono ?_); rintro e w3 ⟨rfl, rfl⟩) | ((with_reducible refine wl_id ?_); refine m_load HM.out rfl rfl rfl (List.mem_of_getElem? HG1.out) HV1.out Tryz.underlying3 rfl ?_; simp only [Act.put, List.setIfInBounds_toArray, List.set_cons_zero, List.set_cons_succ]) | (go_at_call 66; (with_reducible refine (HLN.out _ HM.out).mono ?_); rintro e w4 ⟨rfl, hB⟩; have HM4 := hid (HM.out.call hB); clear hB))
  clear HM
  have HM := HM4
  clear HM4
  go_upto_region 13 with (fail)
  (refine m_tail 10 HM.out (by kernel_rfl) (by kernel_rfl) ?_; intro wd hM; clear HM; have HM := hid hM; clear hM; simp only [List.take_succ_cons, List.take_zero, List.drop_succ_cons, List.drop_zero])
  repeat (first | (refine ws_want rfl (fun K hK => ?_); refine ms_load HM.out rfl rfl (List.mem_of_getElem? HG1.out) HV2.out Tryz.underlying3 rfl ?_; simp only [Act.put, List.setIfInBounds_toArray, List.set_cons_zero, List.set_cons_succ]; refine hK _ ?_; clear hK K) | (refine ws_want rfl (fun K hK => ?_); refine ms_loadS HM.out rfl rfl (List.mem_of_getElem? HG1.out) (attrL s.cur.a) HVA.out Tryz.underlying33 rfl (by kernel_rfl) ?_; simp only [Act.put, List.setIfInBounds_toArray, List.set_cons_zero, List.set_cons_succ]; refine hK _ ?_; clear hK K) | still_step)
  refine wpStill_nil ?_
  go_wp2_with (first | (go_at_call 70; (with_reducible refine (HCL.out _ HM.out).mono ?_); rintro e wz ⟨rfl, hM⟩; have HMz := hid hM; clear hM))
  first | go_end0 | (refine bodyPost_ret (results_none rfl _ _ _) rfl ?_)
  refine ⟨rfl, ?_⟩
  have hM := HMz.out
  rw [← HGG.out] at hM
  exact hM
set_option maxRecDepth 100000 in
set_option maxHeartbeats 4000000 in
theorem edit_64 {s : Scr} {m o t : Value} {g cap r c row col top bot : Nat} {M : List Cell} (E : EdH s m o t g cap r c row col top bot M) {w0 w : World} {F : List Ent} {p k j n : Nat} {told : Int} (hM : Mem w0 w F) (hG : F[k]? = some (p, Row 38 (scrL s m o t))) (hF : F[j]? = some (g, entC M cap)) (ht : -1 ≤ told ∧ told ≤ 9999) (hn : (n : Int) = max 1 told) :
    Calls Tryz.prog 33 #[.pointer (some ⟨p, 0, none⟩), .int .i64 64, .int .i64 told] w fun e w' => e = .returned (.tuple #[]) ∧ Mem w0 w' ((F.set k (p, Row 38 (scrL (edS 64 row top bot s) m o t))).set j (g, entC (edM 64 (max 0 told) n r c row col top bot s.cur.a M) cap)) := by
  have hkj := Kj hM hG hF
  have HM := hid hM
  have HG := hid hG
  have HKJ := hid hkj
  have E1 := E.noW
  obtain ⟨G, hGG⟩ : ∃ G, F.set k (p, Row 38 (scrL (noWrap s) m o t)) = G := ⟨_, rfl⟩
  have hG1 : G[k]? = some (p, Row 38 (scrL (noWrap s) m o t)) := by rw [← hGG]; exact set_get hG
  have hF1 : G[j]? = some (g, entC M cap) := by rw [← hGG]; exact by rw [List.getElem?_set_ne hkj]; exact hF
  have HG1 := hid hG1
  have HF1 := hid hF1
  have HGG := hid hGG
  have HSN : Hid (∀ W, Mem w0 W G → Calls Tryz.prog 65 #[.pointer (some ⟨p, 0, none⟩)] W fun e w' => e = .returned (.pointer (some ⟨p, seenO (noWrap s), none⟩)) ∧ W = w') := hid fun W hW => Seen_any hW hG1
  have HLN : Hid (∀ W, Mem w0 W G → Calls Tryz.prog 66 #[.pointer (some ⟨p, seenO (noWrap s), none⟩), .int .i64 row] W fun e w' => e = .returned (.slice (some ⟨g, row * c * 6, none⟩) c c) ∧ Below W.heap.size W w') := hid fun W hW => LineM hW hG1 E1.l1 E1.l2 rfl (by have := E.rowIn; have := hW.lenC (List.mem_of_getElem? hF1); omega) (by have := E.rr; have := E.r40; omega) (by have := E.c40; omega) E.c1
  have HV1 := hid (show (scrL (noWrap s) m o t)[7]? = some (.int .i64 (row : Int)) by rw [← E1.hrow]; rfl)
  have HV2 := hid (show (scrL (noWrap s) m o t)[8]? = some (.int .i64 (col : Int)) by rw [← E1.hcol]; rfl)
  have HV3 := hid (show (scrL (noWrap s) m o t)[37]? = some (.int .i64 (top : Int)) by rw [← E1.htop]; rfl)
  have HV4 := hid (show (scrL (noWrap s) m o t)[38]? = some (.int .i64 (bot : Int)) by rw [← E1.hbot]; rfl)
  have HVA := hid (show ((scrL (noWrap s) m o t).drop 10).take (attrL s.cur.a).length = attrL s.cur.a from rfl)
  have HVC := hid E1.l1
  have m1 := fun ts t w => run_max_is (P := Tryz.prog) hn.symm ts t w
  have hn1 : 1 ≤ n := by omega
  have hn2 : n ≤ 9999 := by omega
  have hlen := E.len
  have hrI := E.rowIn
  have hc1 := E.c1
  have hc40 := E.c40
  have hcc := E.cc
  have hpos := E.pos
  have HCL : Hid (∀ W, Mem w0 W G → Calls Tryz.prog 71 #[.slice (some ⟨g, row * c * 6, none⟩) c c, .int .i64 col, .int .i64 n, .agg (attrL s.cur.a).toArray] W fun e w' => e = .returned (.tuple #[]) ∧ Mem w0 w' (G.set j (g, entC (onSub (row * c) c (openL col (min n (c - col)) s.cur.a) M) cap))) := hid fun W hW => open_any hW hF1 rfl E.rowIn (by omega) (Nat.le_refl _) E.cc (by omega) (by omega)
  obtain ⟨q, hq⟩ : ∃ q, seenO (noWrap s) = q := ⟨_, rfl⟩
  simp only [hq] at HSN HLN HVC
  clear hM hG hF hn hG1 hF1 hGG hq hkj E E1
  go_enter Tryz.func33, Tryz.ntmps33
  go_upto_region 3 with (first | ((with_reducible refine wl_id ?_); refine m_store HM.out rfl rfl rfl k HG.out rfl rfl rfl (Nat.le_of_ble_eq_true rfl) (by kernel_rfl) ?_; intro w1 hM; simp only [Act.put, List.setIfInBounds_toArray, List.set_cons_zero, List.set_cons_succ]; have HM1 := hid hM; clear hM))
  have HM2 := hid (show Mem w0 w1 G by rw [← HGG.out]; exact HM1.out)
  clear HM HM1
  have HM := HM2
  clear HM2
  go_upto_region 5 with (first | (go_at_call 65; (with_reducible refine (HSN.out _ HM.out).mono ?_); rintro e w3 ⟨rfl, rfl⟩) | ((with_reducible refine wl_id ?_); refine m_load HM.out rfl rfl rfl (List.mem_of_getElem? HG1.out) HV1.out Tryz.underlying3 rfl ?_; simp only [Act.put, List.setIfInBounds_toArray, List.set_cons_zero, List.set_cons_succ]) | (go_at_call 66; (with_reducible refine (HLN.out _ HM.out).mono ?_); rintro e w4 ⟨rfl, hB⟩; have HM4 := hid (HM.out.call hB); clear hB))
  clear HM
  have HM := HM4
  clear HM4
  go_upto_region 15 with (fail)
  (refine m_tail 10 HM.out (by kernel_rfl) (by kernel_rfl) ?_; intro wd hM; clear HM; have HM := hid hM; clear hM; simp only [List.take_succ_cons, List.take_zero, List.drop_succ_cons, List.drop_zero])
  repeat (first | (refine ws_want rfl (fun K hK => ?_); refine ms_load HM.out rfl rfl (List.mem_of_getElem? HG1.out) HV2.out Tryz.underlying3 rfl ?_; simp only [Act.put, List.setIfInBounds_toArray, List.set_cons_zero, List.set_cons_succ]; refine hK _ ?_; clear hK K) | (refine ws_want rfl (fun K hK => ?_); refine ms_loadS HM.out rfl rfl (List.mem_of_getElem? HG1.out) (attrL s.cur.a) HVA.out Tryz.underlying33 rfl (by kernel_rfl) ?_; simp only [Act.put, List.setIfInBounds_toArray, List.set_cons_zero, List.set_cons_succ]; refine hK _ ?_; clear hK K) | still_step)
  refine wpStill_nil ?_
  go_wp2_with (first | (go_at_call 71; (with_reducible refine (HCL.out _ HM.out).mono ?_); rintro e wz ⟨rfl, hM⟩; have HMz := hid hM; clear hM))
  first | go_end0 | (refine bodyPost_ret (results_none rfl _ _ _) rfl ?_)
  refine ⟨rfl, ?_⟩
  have hM := HMz.out
  rw [← HGG.out] at hM
  exact hM
set_option maxRecDepth 100000 in
set_option maxHeartbeats 4000000 in
theorem edit_76in {s : Scr} {m o t : Value} {g cap r c row col top bot : Nat} {M : List Cell} (E : EdH s m o t g cap r c row col top bot M) {w0 w : World} {F : List Ent} {p k j n : Nat} {told : Int} (hM : Mem w0 w F) (hG : F[k]? = some (p, Row 38 (scrL s m o t))) (hF : F[j]? = some (g, entC M cap)) (ht : -1 ≤ told ∧ told ≤ 9999) (hn : (n : Int) = max 1 told) (hin : top ≤ row ∧ row ≤ bot) :
    Calls Tryz.prog 33 #[.pointer (some ⟨p, 0, none⟩), .int .i64 76, .int .i64 told] w fun e w' => e = .returned (.tuple #[]) ∧ Mem w0 w' ((F.set k (p, Row 38 (scrL (edS 76 row top bot s) m o t))).set j (g, entC (edM 76 (max 0 told) n r c row col top bot s.cur.a M) cap)) := by
  have hkj := Kj hM hG hF
  have HM := hid hM
  have HG := hid hG
  have HKJ := hid hkj
  have E1 := E.noW
  obtain ⟨G, hGG⟩ : ∃ G, F.set k (p, Row 38 (scrL (noWrap s) m o t)) = G := ⟨_, rfl⟩
  have hG1 : G[k]? = some (p, Row 38 (scrL (noWrap s) m o t)) := by rw [← hGG]; exact set_get hG
  have hF1 : G[j]? = some (g, entC M cap) := by rw [← hGG]; exact by rw [List.getElem?_set_ne hkj]; exact hF
  have HG1 := hid hG1
  have HF1 := hid hF1
  have HGG := hid hGG
  have HSN : Hid (∀ W, Mem w0 W G → Calls Tryz.prog 65 #[.pointer (some ⟨p, 0, none⟩)] W fun e w' => e = .returned (.pointer (some ⟨p, seenO (noWrap s), none⟩)) ∧ W = w') := hid fun W hW => Seen_any hW hG1
  have HLN : Hid (∀ W, Mem w0 W G → Calls Tryz.prog 66 #[.pointer (some ⟨p, seenO (noWrap s), none⟩), .int .i64 row] W fun e w' => e = .returned (.slice (some ⟨g, row * c * 6, none⟩) c c) ∧ Below W.heap.size W w') := hid fun W hW => LineM hW hG1 E1.l1 E1.l2 rfl (by have := E.rowIn; have := hW.lenC (List.mem_of_getElem? hF1); omega) (by have := E.rr; have := E.r40; omega) (by have := E.c40; omega) E.c1
  have HV1 := hid (show (scrL (noWrap s) m o t)[7]? = some (.int .i64 (row : Int)) by rw [← E1.hrow]; rfl)
  have HV2 := hid (show (scrL (noWrap s) m o t)[8]? = some (.int .i64 (col : Int)) by rw [← E1.hcol]; rfl)
  have HV3 := hid (show (scrL (noWrap s) m o t)[37]? = some (.int .i64 (top : Int)) by rw [← E1.htop]; rfl)
  have HV4 := hid (show (scrL (noWrap s) m o t)[38]? = some (.int .i64 (bot : Int)) by rw [← E1.hbot]; rfl)
  have HVA := hid (show ((scrL (noWrap s) m o t).drop 10).take (attrL s.cur.a).length = attrL s.cur.a from rfl)
  have HVC := hid E1.l1
  have m1 := fun ts t w => run_max_is (P := Tryz.prog) hn.symm ts t w
  have hn1 : 1 ≤ n := by omega
  have hn2 : n ≤ 9999 := by omega
  have hlen := E.len
  have hrI := E.rowIn
  have hc1 := E.c1
  have hc40 := E.c40
  have hcc := E.cc
  have hpos := E.pos
  have s4 : IntKind.i64.wrap (-(n : Int)) = -(n : Int) := IntWalk.i64_in _ (by omega)
  have HCL : Hid (∀ W, Mem w0 W G → Calls Tryz.prog 72 #[.pointer (some ⟨p, 0, none⟩), .int .i64 (-(n : Int))] W fun e w' => e = .returned (.tuple #[]) ∧ Mem w0 w' ((G.set j (g, entC (onSub (row * c) ((bot + 1) * c - row * c) (downL (min n (bot - row + 1) * c) s.cur.a) M) cap)).set k (p, Row 38 (scrL (atCol (noWrap s) 0) m o t)))) := hid fun W hW => erows_in (top := (top : Int)) hW hG1 E1.hrow E1.hbot E1.htop rfl (by omega) (fun W' hW' => scrD E1 hW' hG1 hF1 hin.2 ⟨by omega, by omega⟩) (by rw [List.getElem?_set_ne (fun e => hkj e.symm)]; exact hG1)
  obtain ⟨q, hq⟩ : ∃ q, seenO (noWrap s) = q := ⟨_, rfl⟩
  simp only [hq] at HSN HLN HVC
  clear hM hG hF hn hG1 hF1 hGG hq hkj E E1
  go_enter Tryz.func33, Tryz.ntmps33
  go_upto_region 3 with (first | ((with_reducible refine wl_id ?_); refine m_store HM.out rfl rfl rfl k HG.out rfl rfl rfl (Nat.le_of_ble_eq_true rfl) (by kernel_rfl) ?_; intro w1 hM; simp only [Act.put, List.setIfInBounds_toArray, List.set_cons_zero, List.set_cons_succ]; have HM1 := hid hM; clear hM))
  have HM2 := hid (show Mem w0 w1 G by rw [← HGG.out]; exact HM1.out)
  clear HM HM1
  have HM := HM2
  clear HM2
  go_upto_region 5 with (first | (go_at_call 65; (with_reducible refine (HSN.out _ HM.out).mono ?_); rintro e w3 ⟨rfl, rfl⟩) | ((with_reducible refine wl_id ?_); refine m_load HM.out rfl rfl rfl (List.mem_of_getElem? HG1.out) HV1.out Tryz.underlying3 rfl ?_; simp only [Act.put, List.setIfInBounds_toArray, List.set_cons_zero, List.set_cons_succ]) | (go_at_call 66; (with_reducible refine (HLN.out _ HM.out).mono ?_); rintro e w4 ⟨rfl, hB⟩; have HM4 := hid (HM.out.call hB); clear hB))
  clear HM
  have HM := HM4
  clear HM4
  go_wp2_with (first | (go_at_call 72; (with_reducible refine (HCL.out _ HM.out).mono ?_); rintro e wz ⟨rfl, hM⟩; have HMz := hid hM; clear hM))
  first | go_end0 | (refine bodyPost_ret (results_none rfl _ _ _) rfl ?_)
  refine ⟨rfl, ?_⟩
  have hM := HMz.out
  rw [← HGG.out, set_comm2 HKJ.out, List.set_set] at hM
  have e1 : edS 76 row top bot s = atCol (noWrap s) 0 := by rw [edS, if_neg (by decide), if_pos ⟨by decide, hin⟩]
  have e2 : edM 76 (max 0 told) n r c row col top bot s.cur.a M = onSub (row * c) ((bot + 1) * c - row * c) (downL (min n (bot - row + 1) * c) s.cur.a) M := by
    unfold edM
    simp only [if_pos hin]
    rfl
  rw [e1, e2]
  exact hM
set_option maxRecDepth 100000 in
set_option maxHeartbeats 4000000 in
theorem edit_76out {s : Scr} {m o t : Value} {g cap r c row col top bot : Nat} {M : List Cell} (E : EdH s m o t g cap r c row col top bot M) {w0 w : World} {F : List Ent} {p k j n : Nat} {told : Int} (hM : Mem w0 w F) (hG : F[k]? = some (p, Row 38 (scrL s m o t))) (hF : F[j]? = some (g, entC M cap)) (ht : -1 ≤ told ∧ told ≤ 9999) (hn : (n : Int) = max 1 told) (hin : ¬ (top ≤ row ∧ row ≤ bot)) :
    Calls Tryz.prog 33 #[.pointer (some ⟨p, 0, none⟩), .int .i64 76, .int .i64 told] w fun e w' => e = .returned (.tuple #[]) ∧ Mem w0 w' ((F.set k (p, Row 38 (scrL (edS 76 row top bot s) m o t))).set j (g, entC (edM 76 (max 0 told) n r c row col top bot s.cur.a M) cap)) := by
  have hkj := Kj hM hG hF
  have HM := hid hM
  have HG := hid hG
  have HKJ := hid hkj
  have E1 := E.noW
  obtain ⟨G, hGG⟩ : ∃ G, F.set k (p, Row 38 (scrL (noWrap s) m o t)) = G := ⟨_, rfl⟩
  have hG1 : G[k]? = some (p, Row 38 (scrL (noWrap s) m o t)) := by rw [← hGG]; exact set_get hG
  have hF1 : G[j]? = some (g, entC M cap) := by rw [← hGG]; exact by rw [List.getElem?_set_ne hkj]; exact hF
  have HG1 := hid hG1
  have HF1 := hid hF1
  have HGG := hid hGG
  have HSN : Hid (∀ W, Mem w0 W G → Calls Tryz.prog 65 #[.pointer (some ⟨p, 0, none⟩)] W fun e w' => e = .returned (.pointer (some ⟨p, seenO (noWrap s), none⟩)) ∧ W = w') := hid fun W hW => Seen_any hW hG1
  have HLN : Hid (∀ W, Mem w0 W G → Calls Tryz.prog 66 #[.pointer (some ⟨p, seenO (noWrap s), none⟩), .int .i64 row] W fun e w' => e = .returned (.slice (some ⟨g, row * c * 6, none⟩) c c) ∧ Below W.heap.size W w') := hid fun W hW => LineM hW hG1 E1.l1 E1.l2 rfl (by have := E.rowIn; have := hW.lenC (List.mem_of_getElem? hF1); omega) (by have := E.rr; have := E.r40; omega) (by have := E.c40; omega) E.c1
  have HV1 := hid (show (scrL (noWrap s) m o t)[7]? = some (.int .i64 (row : Int)) by rw [← E1.hrow]; rfl)
  have HV2 := hid (show (scrL (noWrap s) m o t)[8]? = some (.int .i64 (col : Int)) by rw [← E1.hcol]; rfl)
  have HV3 := hid (show (scrL (noWrap s) m o t)[37]? = some (.int .i64 (top : Int)) by rw [← E1.htop]; rfl)
  have HV4 := hid (show (scrL (noWrap s) m o t)[38]? = some (.int .i64 (bot : Int)) by rw [← E1.hbot]; rfl)
  have HVA := hid (show ((scrL (noWrap s) m o t).drop 10).take (attrL s.cur.a).length = attrL s.cur.a from rfl)
  have HVC := hid E1.l1
  have m1 := fun ts t w => run_max_is (P := Tryz.prog) hn.symm ts t w
  have hn1 : 1 ≤ n := by omega
  have hn2 : n ≤ 9999 := by omega
  have hlen := E.len
  have hrI := E.rowIn
  have hc1 := E.c1
  have hc40 := E.c40
  have hcc := E.cc
  have hpos := E.pos
  have s4 : IntKind.i64.wrap (-(n : Int)) = -(n : Int) := IntWalk.i64_in _ (by omega)
  have HCL : Hid (∀ W, Mem w0 W G → Calls Tryz.prog 72 #[.pointer (some ⟨p, 0, none⟩), .int .i64 (-(n : Int))] W fun e w' => e = .returned (.tuple #[]) ∧ Mem w0 w' G) := hid fun W hW => erows_out (top := (top : Int)) hW hG1 E1.hrow E1.hbot E1.htop (by omega)
  obtain ⟨q, hq⟩ : ∃ q, seenO (noWrap s) = q := ⟨_, rfl⟩
  simp only [hq] at HSN HLN HVC
  clear hM hG hF hn hG1 hF1 hGG hq hkj E E1
  go_enter Tryz.func33, Tryz.ntmps33
  go_upto_region 3 with (first | ((with_reducible refine wl_id ?_); refine m_store HM.out rfl rfl rfl k HG.out rfl rfl rfl (Nat.le_of_ble_eq_true rfl) (by kernel_rfl) ?_; intro w1 hM; simp only [Act.put, List.setIfInBounds_toArray, List.set_cons_zero, List.set_cons_succ]; have HM1 := hid hM; clear hM))
  have HM2 := hid (show Mem w0 w1 G by rw [← HGG.out]; exact HM1.out)
  clear HM HM1
  have HM := HM2
  clear HM2
  go_upto_region 5 with (first | (go_at_call 65; (with_reducible refine (HSN.out _ HM.out).mono ?_); rintro e w3 ⟨rfl, rfl⟩) | ((with_reducible refine wl_id ?_); refine m_load HM.out rfl rfl rfl (List.mem_of_getElem? HG1.out) HV1.out Tryz.underlying3 rfl ?_; simp only [Act.put, List.setIfInBounds_toArray, List.set_cons_zero, List.set_cons_succ]) | (go_at_call 66; (with_reducible refine (HLN.out _ HM.out).mono ?_); rintro e w4 ⟨rfl, hB⟩; have HM4 := hid (HM.out.call hB); clear hB))
  clear HM
  have HM := HM4
  clear HM4
  go_wp2_with (first | (go_at_call 72; (with_reducible refine (HCL.out _ HM.out).mono ?_); rintro e wz ⟨rfl, hM⟩; have HMz := hid hM; clear hM))
  first | go_end0 | (refine bodyPost_ret (results_none rfl _ _ _) rfl ?_)
  refine ⟨rfl, ?_⟩
  have hM := HMz.out
  have e1 : edS 76 row top bot s = noWrap s := by rw [edS, if_neg (by decide), if_neg (fun h => hin h.2)]
  have e2 : edM 76 (max 0 told) n r c row col top bot s.cur.a M = M := by
    unfold edM
    simp only [if_neg hin]
    rfl
  rw [e1, e2, HGG.out, set_same HF1.out]
  exact hM
set_option maxRecDepth 100000 in
set_option maxHeartbeats 4000000 in
theorem edit_77in {s : Scr} {m o t : Value} {g cap r c row col top bot : Nat} {M : List Cell} (E : EdH s m o t g cap r c row col top bot M) {w0 w : World} {F : List Ent} {p k j n : Nat} {told : Int} (hM : Mem w0 w F) (hG : F[k]? = some (p, Row 38 (scrL s m o t))) (hF : F[j]? = some (g, entC M cap)) (ht : -1 ≤ told ∧ told ≤ 9999) (hn : (n : Int) = max 1 told) (hin : top ≤ row ∧ row ≤ bot) :
    Calls Tryz.prog 33 #[.pointer (some ⟨p, 0, none⟩), .int .i64 77, .int .i64 told] w fun e w' => e = .returned (.tuple #[]) ∧ Mem w0 w' ((F.set k (p, Row 38 (scrL (edS 77 row top bot s) m o t))).set j (g, entC (edM 77 (max 0 told) n r c row col top bot s.cur.a M) cap)) := by
  have hkj := Kj hM hG hF
  have HM := hid hM
  have HG := hid hG
  have HKJ := hid hkj
  have E1 := E.noW
  obtain ⟨G, hGG⟩ : ∃ G, F.set k (p, Row 38 (scrL (noWrap s) m o t)) = G := ⟨_, rfl⟩
  have hG1 : G[k]? = some (p, Row 38 (scrL (noWrap s) m o t)) := by rw [← hGG]; exact set_get hG
  have hF1 : G[j]? = some (g, entC M cap) := by rw [← hGG]; exact by rw [List.getElem?_set_ne hkj]; exact hF
  have HG1 := hid hG1
  have HF1 := hid hF1
  have HGG := hid hGG
  have HSN : Hid (∀ W, Mem w0 W G → Calls Tryz.prog 65 #[.pointer (some ⟨p, 0, none⟩)] W fun e w' => e = .returned (.pointer (some ⟨p, seenO (noWrap s), none⟩)) ∧ W = w') := hid fun W hW => Seen_any hW hG1
  have HLN : Hid (∀ W, Mem w0 W G → Calls Tryz.prog 66 #[.pointer (some ⟨p, seenO (noWrap s), none⟩), .int .i64 row] W fun e w' => e = .returned (.slice (some ⟨g, row * c * 6, none⟩) c c) ∧ Below W.heap.size W w') := hid fun W hW => LineM hW hG1 E1.l1 E1.l2 rfl (by have := E.rowIn; have := hW.lenC (List.mem_of_getElem? hF1); omega) (by have := E.rr; have := E.r40; omega) (by have := E.c40; omega) E.c1
  have HV1 := hid (show (scrL (noWrap s) m o t)[7]? = some (.int .i64 (row : Int)) by rw [← E1.hrow]; rfl)
  have HV2 := hid (show (scrL (noWrap s) m o t)[8]? = some (.int .i64 (col : Int)) by rw [← E1.hcol]; rfl)
  have HV3 := hid (show (scrL (noWrap s) m o t)[37]? = some (.int .i64 (top : Int)) by rw [← E1.htop]; rfl)
  have HV4 := hid (show (scrL (noWrap s) m o t)[38]? = some (.int .i64 (bot : Int)) by rw [← E1.hbot]; rfl)
  have HVA := hid (show ((scrL (noWrap s) m o t).drop 10).take (attrL s.cur.a).length = attrL s.cur.a from rfl)
  have HVC := hid E1.l1
  have m1 := fun ts t w => run_max_is (P := Tryz.prog) hn.symm ts t w
  have hn1 : 1 ≤ n := by omega
  have hn2 : n ≤ 9999 := by omega
  have hlen := E.len
  have hrI := E.rowIn
  have hc1 := E.c1
  have hc40 := E.c40
  have hcc := E.cc
  have hpos := E.pos
  have s4 : IntKind.i64.wrap (-(n : Int)) = -(n : Int) := IntWalk.i64_in _ (by omega)
  have HCL : Hid (∀ W, Mem w0 W G → Calls Tryz.prog 72 #[.pointer (some ⟨p, 0, none⟩), .int .i64 n] W fun e w' => e = .returned (.tuple #[]) ∧ Mem w0 w' ((G.set j (g, entC (onSub (row * c) ((bot + 1) * c - row * c) (upL (min n (bot - row + 1) * c) s.cur.a) M) cap)).set k (p, Row 38 (scrL (atCol (noWrap s) 0) m o t)))) := hid fun W hW => erows_in (top := (top : Int)) hW hG1 E1.hrow E1.hbot E1.htop rfl (by omega) (fun W' hW' => scrU E1 hW' hG1 hF1 hin.2 ⟨by omega, by omega⟩) (by rw [List.getElem?_set_ne (fun e => hkj e.symm)]; exact hG1)
  obtain ⟨q, hq⟩ : ∃ q, seenO (noWrap s) = q := ⟨_, rfl⟩
  simp only [hq] at HSN HLN HVC
  clear hM hG hF hn hG1 hF1 hGG hq hkj E E1
  go_enter Tryz.func33, Tryz.ntmps33
  go_upto_region 3 with (first | ((with_reducible refine wl_id ?_); refine m_store HM.out rfl rfl rfl k HG.out rfl rfl rfl (Nat.le_of_ble_eq_true rfl) (by kernel_rfl) ?_; intro w1 hM; simp only [Act.put, List.setIfInBounds_toArray, List.set_cons_zero, List.set_cons_succ]; have HM1 := hid hM; clear hM))
  have HM2 := hid (show Mem w0 w1 G by rw [← HGG.out]; exact HM1.out)
  clear HM HM1
  have HM := HM2
  clear HM2
  go_upto_region 5 with (first | (go_at_call 65; (with_reducible refine (HSN.out _ HM.out).mono ?_); rintro e w3 ⟨rfl, rfl⟩) | ((with_reducible refine wl_id ?_); refine m_load HM.out rfl rfl rfl (List.mem_of_getElem? HG1.out) HV1.out Tryz.underlying3 rfl ?_; simp only [Act.put, List.setIfInBounds_toArray, List.set_cons_zero, List.set_cons_succ]) | (go_at_call 66; (with_reducible refine (HLN.out _ HM.out).mono ?_); rintro e w4 ⟨rfl, hB⟩; have HM4 := hid (HM.out.call hB); clear hB))
  clear HM
  have HM := HM4
  clear HM4
  go_wp2_with (first | (go_at_call 72; (with_reducible refine (HCL.out _ HM.out).mono ?_); rintro e wz ⟨rfl, hM⟩; have HMz := hid hM; clear hM))
  first | go_end0 | (refine bodyPost_ret (results_none rfl _ _ _) rfl ?_)
  refine ⟨rfl, ?_⟩
  have hM := HMz.out
  rw [← HGG.out, set_comm2 HKJ.out, List.set_set] at hM
  have e1 : edS 77 row top bot s = atCol (noWrap s) 0 := by rw [edS, if_neg (by decide), if_pos ⟨by decide, hin⟩]
  have e2 : edM 77 (max 0 told) n r c row col top bot s.cur.a M = onSub (row * c) ((bot + 1) * c - row * c) (upL (min n (bot - row + 1) * c) s.cur.a) M := by
    unfold edM
    simp only [if_pos hin]
    rfl
  rw [e1, e2]
  exact hM
set_option maxRecDepth 100000 in
set_option maxHeartbeats 4000000 in
theorem edit_77out {s : Scr} {m o t : Value} {g cap r c row col top bot : Nat} {M : List Cell} (E : EdH s m o t g cap r c row col top bot M) {w0 w : World} {F : List Ent} {p k j n : Nat} {told : Int} (hM : Mem w0 w F) (hG : F[k]? = some (p, Row 38 (scrL s m o t))) (hF : F[j]? = some (g, entC M cap)) (ht : -1 ≤ told ∧ told ≤ 9999) (hn : (n : Int) = max 1 told) (hin : ¬ (top ≤ row ∧ row ≤ bot)) :
    Calls Tryz.prog 33 #[.pointer (some ⟨p, 0, none⟩), .int .i64 77, .int .i64 told] w fun e w' => e = .returned (.tuple #[]) ∧ Mem w0 w' ((F.set k (p, Row 38 (scrL (edS 77 row top bot s) m o t))).set j (g, entC (edM 77 (max 0 told) n r c row col top bot s.cur.a M) cap)) := by
  have hkj := Kj hM hG hF
  have HM := hid hM
  have HG := hid hG
  have HKJ := hid hkj
  have E1 := E.noW
  obtain ⟨G, hGG⟩ : ∃ G, F.set k (p, Row 38 (scrL (noWrap s) m o t)) = G := ⟨_, rfl⟩
  have hG1 : G[k]? = some (p, Row 38 (scrL (noWrap s) m o t)) := by rw [← hGG]; exact set_get hG
  have hF1 : G[j]? = some (g, entC M cap) := by rw [← hGG]; exact by rw [List.getElem?_set_ne hkj]; exact hF
  have HG1 := hid hG1
  have HF1 := hid hF1
  have HGG := hid hGG
  have HSN : Hid (∀ W, Mem w0 W G → Calls Tryz.prog 65 #[.pointer (some ⟨p, 0, none⟩)] W fun e w' => e = .returned (.pointer (some ⟨p, seenO (noWrap s), none⟩)) ∧ W = w') := hid fun W hW => Seen_any hW hG1
  have HLN : Hid (∀ W, Mem w0 W G → Calls Tryz.prog 66 #[.pointer (some ⟨p, seenO (noWrap s), none⟩), .int .i64 row] W fun e w' => e = .returned (.slice (some ⟨g, row * c * 6, none⟩) c c) ∧ Below W.heap.size W w') := hid fun W hW => LineM hW hG1 E1.l1 E1.l2 rfl (by have := E.rowIn; have := hW.lenC (List.mem_of_getElem? hF1); omega) (by have := E.rr; have := E.r40; omega) (by have := E.c40; omega) E.c1
  have HV1 := hid (show (scrL (noWrap s) m o t)[7]? = some (.int .i64 (row : Int)) by rw [← E1.hrow]; rfl)
  have HV2 := hid (show (scrL (noWrap s) m o t)[8]? = some (.int .i64 (col : Int)) by rw [← E1.hcol]; rfl)
  have HV3 := hid (show (scrL (noWrap s) m o t)[37]? = some (.int .i64 (top : Int)) by rw [← E1.htop]; rfl)
  have HV4 := hid (show (scrL (noWrap s) m o t)[38]? = some (.int .i64 (bot : Int)) by rw [← E1.hbot]; rfl)
  have HVA := hid (show ((scrL (noWrap s) m o t).drop 10).take (attrL s.cur.a).length = attrL s.cur.a from rfl)
  have HVC := hid E1.l1
  have m1 := fun ts t w => run_max_is (P := Tryz.prog) hn.symm ts t w
  have hn1 : 1 ≤ n := by omega
  have hn2 : n ≤ 9999 := by omega
  have hlen := E.len
  have hrI := E.rowIn
  have hc1 := E.c1
  have hc40 := E.c40
  have hcc := E.cc
  have hpos := E.pos
  have s4 : IntKind.i64.wrap (-(n : Int)) = -(n : Int) := IntWalk.i64_in _ (by omega)
  have HCL : Hid (∀ W, Mem w0 W G → Calls Tryz.prog 72 #[.pointer (some ⟨p, 0, none⟩), .int .i64 n] W fun e w' => e = .returned (.tuple #[]) ∧ Mem w0 w' G) := hid fun W hW => erows_out (top := (top : Int)) hW hG1 E1.hrow E1.hbot E1.htop (by omega)
  obtain ⟨q, hq⟩ : ∃ q, seenO (noWrap s) = q := ⟨_, rfl⟩
  simp only [hq] at HSN HLN HVC
  clear hM hG hF hn hG1 hF1 hGG hq hkj E E1
  go_enter Tryz.func33, Tryz.ntmps33
  go_upto_region 3 with (first | ((with_reducible refine wl_id ?_); refine m_store HM.out rfl rfl rfl k HG.out rfl rfl rfl (Nat.le_of_ble_eq_true rfl) (by kernel_rfl) ?_; intro w1 hM; simp only [Act.put, List.setIfInBounds_toArray, List.set_cons_zero, List.set_cons_succ]; have HM1 := hid hM; clear hM))
  have HM2 := hid (show Mem w0 w1 G by rw [← HGG.out]; exact HM1.out)
  clear HM HM1
  have HM := HM2
  clear HM2
  go_upto_region 5 with (first | (go_at_call 65; (with_reducible refine (HSN.out _ HM.out).mono ?_); rintro e w3 ⟨rfl, rfl⟩) | ((with_reducible refine wl_id ?_); refine m_load HM.out rfl rfl rfl (List.mem_of_getElem? HG1.out) HV1.out Tryz.underlying3 rfl ?_; simp only [Act.put, List.setIfInBounds_toArray, List.set_cons_zero, List.set_cons_succ]) | (go_at_call 66; (with_reducible refine (HLN.out _ HM.out).mono ?_); rintro e w4 ⟨rfl, hB⟩; have HM4 := hid (HM.out.call hB); clear hB))
  clear HM
  have HM := HM4
  clear HM4
  go_wp2_with (first | (go_at_call 72; (with_reducible refine (HCL.out _ HM.out).mono ?_); rintro e wz ⟨rfl, hM⟩; have HMz := hid hM; clear hM))
  first | go_end0 | (refine bodyPost_ret (results_none rfl _ _ _) rfl ?_)
  refine ⟨rfl, ?_⟩
  have hM := HMz.out
  have e1 : edS 77 row top bot s = noWrap s := by rw [edS, if_neg (by decide), if_neg (fun h => hin h.2)]
  have e2 : edM 77 (max 0 told) n r c row col top bot s.cur.a M = M := by
    unfold edM
    simp only [if_neg hin]
    rfl
  rw [e1, e2, HGG.out, set_same HF1.out]
  exact hM
set_option maxRecDepth 100000 in
set_option maxHeartbeats 4000000 in
theorem edit_83 {s : Scr} {m o t : Value} {g cap r c row col top bot : Nat} {M : List Cell} (E : EdH s m o t g cap r c row col top bot M) {w0 w : World} {F : List Ent} {p k j n : Nat} {told : Int} (hM : Mem w0 w F) (hG : F[k]? = some (p, Row 38 (scrL s m o t))) (hF : F[j]? = some (g, entC M cap)) (ht : -1 ≤ told ∧ told ≤ 9999) (hn : (n : Int) = max 1 told) :
    Calls Tryz.prog 33 #[.pointer (some ⟨p, 0, none⟩), .int .i64 83, .int .i64 told] w fun e w' => e = .returned (.tuple #[]) ∧ Mem w0 w' ((F.set k (p, Row 38 (scrL (edS 83 row top bot s) m o t))).set j (g, entC (edM 83 (max 0 told) n r c row col top bot s.cur.a M) cap)) := by
  have hkj := Kj hM hG hF
  have HM := hid hM
  have HG := hid hG
  have HKJ := hid hkj
  have E1 := E
  obtain ⟨G, hGG⟩ : ∃ G, F = G := ⟨_, rfl⟩
  have hG1 : G[k]? = some (p, Row 38 (scrL s m o t)) := by rw [← hGG]; exact hG
  have hF1 : G[j]? = some (g, entC M cap) := by rw [← hGG]; exact hF
  have HG1 := hid hG1
  have HF1 := hid hF1
  have HGG := hid hGG
  have HSN : Hid (∀ W, Mem w0 W G → Calls Tryz.prog 65 #[.pointer (some ⟨p, 0, none⟩)] W fun e w' => e = .returned (.pointer (some ⟨p, seenO s, none⟩)) ∧ W = w') := hid fun W hW => Seen_any hW hG1
  have HLN : Hid (∀ W, Mem w0 W G → Calls Tryz.prog 66 #[.pointer (some ⟨p, seenO s, none⟩), .int .i64 row] W fun e w' => e = .returned (.slice (some ⟨g, row * c * 6, none⟩) c c) ∧ Below W.heap.size W w') := hid fun W hW => LineM hW hG1 E1.l1 E1.l2 rfl (by have := E.rowIn; have := hW.lenC (List.mem_of_getElem? hF1); omega) (by have := E.rr; have := E.r40; omega) (by have := E.c40; omega) E.c1
  have HV1 := hid (show (scrL s m o t)[7]? = some (.int .i64 (row : Int)) by rw [← E1.hrow]; rfl)
  have HV2 := hid (show (scrL s m o t)[8]? = some (.int .i64 (col : Int)) by rw [← E1.hcol]; rfl)
  have HV3 := hid (show (scrL s m o t)[37]? = some (.int .i64 (top : Int)) by rw [← E1.htop]; rfl)
  have HV4 := hid (show (scrL s m o t)[38]? = some (.int .i64 (bot : Int)) by rw [← E1.hbot]; rfl)
  have HVA := hid (show ((scrL s m o t).drop 10).take (attrL s.cur.a).length = attrL s.cur.a from rfl)
  have HVC := hid E1.l1
  have m1 := fun ts t w => run_max_is (P := Tryz.prog) hn.symm ts t w
  have hn1 : 1 ≤ n := by omega
  have hn2 : n ≤ 9999 := by omega
  have hlen := E.len
  have hrI := E.rowIn
  have hc1 := E.c1
  have hc40 := E.c40
  have hcc := E.cc
  have hpos := E.pos
  have s4 : IntKind.i64.wrap (-(n : Int)) = -(n : Int) := IntWalk.i64_in _ (by omega)
  have HCL : Hid (∀ W, Mem w0 W G → Calls Tryz.prog 73 #[.pointer (some ⟨p, seenO s, none⟩), .int .i64 top, .int .i64 bot, .int .i64 n, .agg (attrL s.cur.a).toArray] W fun e w' => e = .returned (.tuple #[]) ∧ Mem w0 w' (G.set j (g, entC (onSub (top * c) ((bot + 1) * c - top * c) (upL (min n (bot - top + 1) * c) s.cur.a) M) cap))) := hid fun W hW => scrU E hW hG1 hF1 E.tb ⟨by omega, by omega⟩
  obtain ⟨q, hq⟩ : ∃ q, seenO s = q := ⟨_, rfl⟩
  simp only [hq] at HSN HLN HVC HCL
  clear hM hG hF hn hG1 hF1 hGG hq hkj E E1
  go_enter Tryz.func33, Tryz.ntmps33
  have HM2 := hid (show Mem w0 w G by rw [← HGG.out]; exact HM.out)
  clear HM
  have HM := HM2
  clear HM2
  go_upto_region 5 with (first | (go_at_call 65; (with_reducible refine (HSN.out _ HM.out).mono ?_); rintro e w3 ⟨rfl, rfl⟩) | ((with_reducible refine wl_id ?_); refine m_load HM.out rfl rfl rfl (List.mem_of_getElem? HG1.out) HV1.out Tryz.underlying3 rfl ?_; simp only [Act.put, List.setIfInBounds_toArray, List.set_cons_zero, List.set_cons_succ]) | (go_at_call 66; (with_reducible refine (HLN.out _ HM.out).mono ?_); rintro e w4 ⟨rfl, hB⟩; have HM4 := hid (HM.out.call hB); clear hB))
  clear HM
  have HM := HM4
  clear HM4
  go_upto_region 21 with (fail)
  (refine m_tail 14 HM.out (by kernel_rfl) (by kernel_rfl) ?_; intro wd hM; clear HM; have HM := hid hM; clear hM; simp only [List.take_succ_cons, List.take_zero, List.drop_succ_cons, List.drop_zero])
  repeat (first | (refine ws_want rfl (fun K hK => ?_); refine ms_load HM.out rfl rfl (List.mem_of_getElem? HG1.out) HV3.out Tryz.underlying3 rfl ?_; simp only [Act.put, List.setIfInBounds_toArray, List.set_cons_zero, List.set_cons_succ]; refine hK _ ?_; clear hK K) | (refine ws_want rfl (fun K hK => ?_); refine ms_load HM.out rfl rfl (List.mem_of_getElem? HG1.out) HV4.out Tryz.underlying3 rfl ?_; simp only [Act.put, List.setIfInBounds_toArray, List.set_cons_zero, List.set_cons_succ]; refine hK _ ?_; clear hK K) | (refine ws_want rfl (fun K hK => ?_); refine ms_loadS HM.out rfl rfl (List.mem_of_getElem? HG1.out) (attrL s.cur.a) HVA.out Tryz.underlying33 rfl (by kernel_rfl) ?_; simp only [Act.put, List.setIfInBounds_toArray, List.set_cons_zero, List.set_cons_succ]; refine hK _ ?_; clear hK K) | still_step)
  refine wpStill_nil ?_
  go_wp2_with (first | (go_at_call 73; (with_reducible refine (HCL.out _ HM.out).mono ?_); rintro e wz ⟨rfl, hM⟩; have HMz := hid hM; clear hM))
  first | go_end0 | (refine bodyPost_ret (results_none rfl _ _ _) rfl ?_)
  refine ⟨rfl, ?_⟩
  have e1 : edS 83 row top bot s = s := by rw [edS, if_pos (by decide)]
  rw [e1, set_same HG.out, HGG.out]
  exact HMz.out
set_option maxRecDepth 100000 in
set_option maxHeartbeats 4000000 in
theorem edit_84 {s : Scr} {m o t : Value} {g cap r c row col top bot : Nat} {M : List Cell} (E : EdH s m o t g cap r c row col top bot M) {w0 w : World} {F : List Ent} {p k j n : Nat} {told : Int} (hM : Mem w0 w F) (hG : F[k]? = some (p, Row 38 (scrL s m o t))) (hF : F[j]? = some (g, entC M cap)) (ht : -1 ≤ told ∧ told ≤ 9999) (hn : (n : Int) = max 1 told) :
    Calls Tryz.prog 33 #[.pointer (some ⟨p, 0, none⟩), .int .i64 84, .int .i64 told] w fun e w' => e = .returned (.tuple #[]) ∧ Mem w0 w' ((F.set k (p, Row 38 (scrL (edS 84 row top bot s) m o t))).set j (g, entC (edM 84 (max 0 told) n r c row col top bot s.cur.a M) cap)) := by
  have hkj := Kj hM hG hF
  have HM := hid hM
  have HG := hid hG
  have HKJ := hid hkj
  have E1 := E
  obtain ⟨G, hGG⟩ : ∃ G, F = G := ⟨_, rfl⟩
  have hG1 : G[k]? = some (p, Row 38 (scrL s m o t)) := by rw [← hGG]; exact hG
  have hF1 : G[j]? = some (g, entC M cap) := by rw [← hGG]; exact hF
  have HG1 := hid hG1
  have HF1 := hid hF1
  have HGG := hid hGG
  have HSN : Hid (∀ W, Mem w0 W G → Calls Tryz.prog 65 #[.pointer (some ⟨p, 0, none⟩)] W fun e w' => e = .returned (.pointer (some ⟨p, seenO s, none⟩)) ∧ W = w') := hid fun W hW => Seen_any hW hG1
  have HLN : Hid (∀ W, Mem w0 W G → Calls Tryz.prog 66 #[.pointer (some ⟨p, seenO s, none⟩), .int .i64 row] W fun e w' => e = .returned (.slice (some ⟨g, row * c * 6, none⟩) c c) ∧ Below W.heap.size W w') := hid fun W hW => LineM hW hG1 E1.l1 E1.l2 rfl (by have := E.rowIn; have := hW.lenC (List.mem_of_getElem? hF1); omega) (by have := E.rr; have := E.r40; omega) (by have := E.c40; omega) E.c1
  have HV1 := hid (show (scrL s m o t)[7]? = some (.int .i64 (row : Int)) by rw [← E1.hrow]; rfl)
  have HV2 := hid (show (scrL s m o t)[8]? = some (.int .i64 (col : Int)) by rw [← E1.hcol]; rfl)
  have HV3 := hid (show (scrL s m o t)[37]? = some (.int .i64 (top : Int)) by rw [← E1.htop]; rfl)
  have HV4 := hid (show (scrL s m o t)[38]? = some (.int .i64 (bot : Int)) by rw [← E1.hbot]; rfl)
  have HVA := hid (show ((scrL s m o t).drop 10).take (attrL s.cur.a).length = attrL s.cur.a from rfl)
  have HVC := hid E1.l1
  have m1 := fun ts t w => run_max_is (P := Tryz.prog) hn.symm ts t w
  have hn1 : 1 ≤ n := by omega
  have hn2 : n ≤ 9999 := by omega
  have hlen := E.len
  have hrI := E.rowIn
  have hc1 := E.c1
  have hc40 := E.c40
  have hcc := E.cc
  have hpos := E.pos
  have s4 : IntKind.i64.wrap (-(n : Int)) = -(n : Int) := IntWalk.i64_in _ (by omega)
  have HCL : Hid (∀ W, Mem w0 W G → Calls Tryz.prog 73 #[.pointer (some ⟨p, seenO s, none⟩), .int .i64 top, .int .i64 bot, .int .i64 (-(n : Int)), .agg (attrL s.cur.a).toArray] W fun e w' => e = .returned (.tuple #[]) ∧ Mem w0 w' (G.set j (g, entC (onSub (top * c) ((bot + 1) * c - top * c) (downL (min n (bot - top + 1) * c) s.cur.a) M) cap))) := hid fun W hW => scrD E hW hG1 hF1 E.tb ⟨by omega, by omega⟩
  obtain ⟨q, hq⟩ : ∃ q, seenO s = q := ⟨_, rfl⟩
  simp only [hq] at HSN HLN HVC HCL
  clear hM hG hF hn hG1 hF1 hGG hq hkj E E1
  go_enter Tryz.func33, Tryz.ntmps33
  have HM2 := hid (show Mem w0 w G by rw [← HGG.out]; exact HM.out)
  clear HM
  have HM := HM2
  clear HM2
  go_upto_region 5 with (first | (go_at_call 65; (with_reducible refine (HSN.out _ HM.out).mono ?_); rintro e w3 ⟨rfl, rfl⟩) | ((with_reducible refine wl_id ?_); refine m_load HM.out rfl rfl rfl (List.mem_of_getElem? HG1.out) HV1.out Tryz.underlying3 rfl ?_; simp only [Act.put, List.setIfInBounds_toArray, List.set_cons_zero, List.set_cons_succ]) | (go_at_call 66; (with_reducible refine (HLN.out _ HM.out).mono ?_); rintro e w4 ⟨rfl, hB⟩; have HM4 := hid (HM.out.call hB); clear hB))
  clear HM
  have HM := HM4
  clear HM4
  go_upto_region 23 with (fail)
  (refine m_tail 15 HM.out (by kernel_rfl) (by kernel_rfl) ?_; intro wd hM; clear HM; have HM := hid hM; clear hM; simp only [List.take_succ_cons, List.take_zero, List.drop_succ_cons, List.drop_zero])
  repeat (first | (refine ws_want rfl (fun K hK => ?_); refine ms_load HM.out rfl rfl (List.mem_of_getElem? HG1.out) HV3.out Tryz.underlying3 rfl ?_; simp only [Act.put, List.setIfInBounds_toArray, List.set_cons_zero, List.set_cons_succ]; refine hK _ ?_; clear hK K) | (refine ws_want rfl (fun K hK => ?_); refine ms_load HM.out rfl rfl (List.mem_of_getElem? HG1.out) HV4.out Tryz.underlying3 rfl ?_; simp only [Act.put, List.setIfInBounds_toArray, List.set_cons_zero, List.set_cons_succ]; refine hK _ ?_; clear hK K) | (refine ws_want rfl (fun K hK => ?_); refine ms_loadS HM.out rfl rfl (List.mem_of_getElem? HG1.out) (attrL s.cur.a) HVA.out Tryz.underlying33 rfl (by kernel_rfl) ?_; simp only [Act.put, List.setIfInBounds_toArray, List.set_cons_zero, List.set_cons_succ]; refine hK _ ?_; clear hK K) | still_step)
  refine wpStill_nil ?_
  go_wp2_with (first | (go_at_call 73; (with_reducible refine (HCL.out _ HM.out).mono ?_); rintro e wz ⟨rfl, hM⟩; have HMz := hid hM; clear hM))
  first | go_end0 | (refine bodyPost_ret (results_none rfl _ _ _) rfl ?_)
  refine ⟨rfl, ?_⟩
  have e1 : edS 84 row top bot s = s := by rw [edS, if_pos (by decide)]
  rw [e1, set_same HG.out, HGG.out]
  exact HMz.out
end Go.Proofs.YtpmfjombfcnhmaaGreatDoor

/- edit.Is, edit.Do: refused, or a screen of one's own, edited. -/
namespace Go.Proofs.YtpmfjombfcnhmaaGreatDoor
open Go Go.RowKit Go.Proofs.YtpmfjombfcnhmaaGreatDoorW.PrintLast

def editKey (k : Int) : Bool := decide (k = 74 ∨ k = 75 ∨ k = 88 ∨ k = 80 ∨ k = 64 ∨ k = 76 ∨ k = 77 ∨ k = 83 ∨ k = 84)
theorem ekeys_all : ∀ k : Fin 128, decide (0 ≤ Lib.indexByte [74, 75, 88, 80, 64, 76, 77, 83, 84] (k.val.toUInt8)) = editKey (k.val : Int) := by decide +kernel
theorem ekeys_eq {k : Int} (h0 : 0 < k) (h1 : k < 128) : decide (0 ≤ Lib.indexByte (⟨#[74, 75, 88, 80, 64, 76, 77, 83, 84]⟩ : ByteArray).data.toList k.toNat.toUInt8) = editKey k := by
  have h := ekeys_all ⟨k.toNat, by omega⟩
  simp only [Int.toNat_of_nonneg (show 0 ≤ k by omega)] at h
  exact h
set_option maxRecDepth 100000 in
theorem isE_is {k : Int} {x : Bool} (h : editKey k = x) (w : World) : Calls Tryz.prog 31 #[.int .i64 k] w fun e w' => e = .returned (.bool x) ∧ w = w' := by
  by_cases h0 : 0 < k
  · by_cases h1 : k < 128
    · have H := hid ((ekeys_eq h0 h1).trans h)
      have e := i32_in h0 h1
      clear h
      go_enter Tryz.func31, Tryz.ntmps31
      go_wp2_with (go_at_call 62; (with_reducible refine (Tryz.strings_ContainsRune_ascii _ _ _ (by omega) h1).mono ?_); rintro e w' ⟨rfl, rfl⟩)
      go_ret
      exact ⟨ret_bool H.out, rfl⟩
    · have hx : x = false := by rw [← h, editKey]; simp; omega
      subst hx
      clear h
      go_enter Tryz.func31, Tryz.ntmps31
      go_wp2
      go_ret
      exact ⟨rfl, rfl⟩
  · have hx : x = false := by rw [← h, editKey]; simp; omega
    subst hx
    clear h
    go_enter Tryz.func31, Tryz.ntmps31
    go_wp2
    go_ret
    exact ⟨rfl, rfl⟩
@[simp] theorem edM_length (key n0 : Int) (n r c row col top bot : Nat) (a : Attr) (M : List Cell) : (edM key n0 n r c row col top bot a M).length = M.length := by
  unfold edM
  repeat' split
  all_goals simp
/-- what edit.Do answers, of what may be -/
def edN (told : Int) : Nat := (max 1 told).toNat
def edR (s : Scr) (key told : Int) : Scr :=
  if s.sw = true then { edS key s.cur.row.toNat s.top.toNat s.bot.toNat s with os := edM key (max 0 told) (edN told) s.mr.toNat s.mc.toNat s.cur.row.toNat s.cur.col.toNat s.top.toNat s.bot.toNat s.cur.a s.os }
  else { edS key s.cur.row.toNat s.top.toNat s.bot.toNat s with ms := edM key (max 0 told) (edN told) s.mr.toNat s.mc.toNat s.cur.row.toNat s.cur.col.toNat s.top.toNat s.bot.toNat s.cur.a s.ms }
theorem edS_keeps (key : Int) (row top bot : Nat) (s : Scr) : (edS key row top bot s).ms = s.ms ∧ (edS key row top bot s).os = s.os ∧ (edS key row top bot s).tabs = s.tabs ∧ (edS key row top bot s).title = s.title := by
  unfold edS
  split
  · exact ⟨rfl, rfl, rfl, rfl⟩
  · split
    · exact ⟨rfl, rfl, rfl, rfl⟩
    · exact ⟨rfl, rfl, rfl, rfl⟩
theorem ed_mt {s : Scr} {m o t : Value} {g cap r c row col top bot : Nat} {M : List Cell} (E : EdH s m o t g cap r c row col top bot M) {w0 w : World} {F : List Ent} {p k j n : Nat} {key told : Int} (hM : Mem w0 w F) (hG : F[k]? = some (p, Row 38 (scrL s m o t))) (hF : F[j]? = some (g, entC M cap)) (ht : -1 ≤ told ∧ told ≤ 9999) (hn : (n : Int) = max 1 told) (hk : editKey key = true) :
    Calls Tryz.prog 33 #[.pointer (some ⟨p, 0, none⟩), .int .i64 key, .int .i64 told] w fun e w' => e = .returned (.tuple #[]) ∧ Mem w0 w' ((F.set k (p, Row 38 (scrL (edS key row top bot s) m o t))).set j (g, entC (edM key (max 0 told) n r c row col top bot s.cur.a M) cap)) := by
  have hk2 := of_decide_eq_true hk
  rcases hk2 with rfl | rfl | rfl | rfl | rfl | rfl | rfl | rfl | rfl
  · exact edit_74 E hM hG hF ht hn
  · exact edit_75 E hM hG hF ht hn
  · exact edit_88 E hM hG hF ht hn
  · exact edit_80 E hM hG hF ht hn
  · exact edit_64 E hM hG hF ht hn
  · by_cases hin : top ≤ row ∧ row ≤ bot
    · exact edit_76in E hM hG hF ht hn hin
    · exact edit_76out E hM hG hF ht hn hin
  · by_cases hin : top ≤ row ∧ row ≤ bot
    · exact edit_77in E hM hG hF ht hn hin
    · exact edit_77out E hM hG hF ht hn hin
  · exact edit_83 E hM hG hF ht hn
  · exact edit_84 E hM hG hF ht hn
theorem edH_of {s : Scr} {gm cm go co : Nat} {t : Value} (hs : scrB s = true) : EdH s (sl gm s.ms.length cm) (sl go s.os.length co) t (if s.sw = true then go else gm) (if s.sw = true then co else cm) s.mr.toNat s.mc.toNat s.cur.row.toNat s.cur.col.toNat s.top.toNat s.bot.toNat (if s.sw = true then s.os else s.ms) := by
  obtain ⟨hb, -, -, h1, h2, h3, h4⟩ := scrB_facts hs
  have e3 := h3.2.1
  have e4 := h4.2.1
  have a1 := hb.mr
  have a2 := hb.mc
  have a3 := hb.row
  have a4 := hb.col
  have a5 := hb.top
  have a6 := hb.bot
  have hmul : ∀ x y : Int, 0 ≤ x → 0 ≤ y → ((x.toNat * y.toNat : Nat) : Int) = x * y := fun x y hx hy => by push_cast; rw [Int.toNat_of_nonneg hx, Int.toNat_of_nonneg hy]
  have hm1 := hmul s.mr s.mc (by omega) (by omega)
  have c1 : ((s.mr.toNat : Nat) : Int) = s.mr := by omega
  have c2 : ((s.mc.toNat : Nat) : Int) = s.mc := by omega
  cases hsw : s.sw with
  | true =>
    have e : seenO s = 3 := by rw [seenO, if_pos hsw]
    refine ⟨?_, ?_, ?_, ?_, by omega, by omega, by omega, by omega, by omega, by omega, by omega, by omega, by omega, by omega, by omega⟩
    · rw [e, c1, h1]; rfl
    · rw [e, c2, h2]; rfl
    · rw [e]; rfl
    · simp only [if_true]
      rw [← h1, ← h2] at e4
      have : ((s.os.length : Nat) : Int) = ((s.mr.toNat * s.mc.toNat : Nat) : Int) := by rw [hm1]; exact e4
      exact Int.ofNat.inj this
  | false =>
    have e : seenO s = 0 := by rw [seenO, if_neg (by simp [hsw])]
    refine ⟨?_, ?_, ?_, ?_, by omega, by omega, by omega, by omega, by omega, by omega, by omega, by omega, by omega, by omega, by omega⟩
    · rw [e, c1]; rfl
    · rw [e, c2]; rfl
    · rw [e]; rfl
    · simp only [Bool.false_eq_true, if_false]
      have : ((s.ms.length : Nat) : Int) = ((s.mr.toNat * s.mc.toNat : Nat) : Int) := by rw [hm1]; exact e3
      exact Int.ofNat.inj this
set_option maxRecDepth 100000 in
set_option maxHeartbeats 4000000 in
theorem edo_bad {s : Scr} {m o t : Value} {key n : Int} {w : World} (hr : RdScr w s m o t) (hT : U8 w) (h : (scrB s && numOk n && editKey key) = false) :
    Calls Tryz.prog 20 #[.agg (scrL s m o t).toArray, .int .i64 key, .int .i64 n] w fun e w' => e = .returned (.tuple #[.agg zL.toArray, .int .i64 1]) ∧ Below w.heap.size w w' := by
  obtain ⟨b1, h1⟩ : ∃ b, scrB s = b := ⟨_, rfl⟩
  obtain ⟨b4, h4⟩ : ∃ b, editKey key = b := ⟨_, rfl⟩
  rw [h1, h4] at h
  have HA : Hid (∀ W, Below w.heap.size w W → Calls Tryz.prog 30 #[.agg (scrL s m o t).toArray] W fun e w' => e = .returned (.bool b1) ∧ Below W.heap.size W w') := hid fun W hW => mayS_l h1 (hr.below hW) (hT.below hW)
  have HK : Hid (∀ W, Calls Tryz.prog 31 #[.int .i64 key] W fun e w' => e = .returned (.bool b4) ∧ W = w') := hid fun W => isE_is h4 W
  have HX := hid (Mem.start w)
  have H := hid h
  clear h h1 h4 hr hT
  go_enter Tryz.func20, Tryz.ntmps20
  go_upto_region 0 with (fail)
  refine wp_region_lit ?_
  refine m_box HX.out rfl rfl rfl ?_
  intro b w1 hM1
  simp only [Act.put, List.setIfInBounds_toArray, List.set_cons_zero, List.set_cons_succ]
  refine m_alloc hM1 rfl rfl info_zS ?_
  intro b' w2 hM
  simp only [Act.put, List.setIfInBounds_toArray, List.set_cons_zero, List.set_cons_succ]
  clear hM1
  have HM := hid (show Mem w w2 [(b', Row 38 zL), (b, Row 38 (scrL s m o t))] from hM)
  clear hM
  go_upto_region 1 with (fail)
  cases b1 with
  | false =>
    refine m_seq HM.out (fun hne => ?_); (repeat (first | (go_big_quiet_want; refine mq_loadS rfl rfl (by first | exact .head _ | exact .tail _ (.head _) | exact .tail _ (.tail _ (.head _)) | exact .tail _ (.tail _ (.tail _ (.head _))) | exact .tail _ (.tail _ (.tail _ (.tail _ (.head _)))) | exact .tail _ (.tail _ (.tail _ (.tail _ (.tail _ (.head _))))) | exact .tail _ (.tail _ (.tail _ (.tail _ (.tail _ (.tail _ (.head _)))))) | exact .tail _ (.tail _ (.tail _ (.tail _ (.tail _ (.tail _ (.tail _ (.head _)))))))) (scrL s m o t) rfl Tryz.underlying38 rfl (by kernel_rfl) ?_; simp only [Act.put, List.setIfInBounds_toArray, List.set_cons_zero, List.set_cons_succ]; go_big_quiet_on) | go_big_quiet_step ((first | (go_at_call 30; with_reducible exact m_call _ (HA.out _ (MemW.below _))) | (go_at_call 31; with_reducible exact m_still _ (HK.out _)))))); refine wpQuiet_nil ?_; intro wq hM; clear HM; have HM := hid hM; clear hM hne
    go_upto_region 2 with (fail); refine wp_region_lit ?_; refine m_build0 rfl rfl (build_zS _) ?_; simp only [Act.put, List.setIfInBounds_toArray, List.set_cons_zero, List.set_cons_succ]; refine m_storeA HM.out rfl rfl rfl 0 rfl rfl rfl (by kernel_rfl) rfl ?_; intro wz hM; simp only [Act.put, List.setIfInBounds_toArray, List.set_cons_zero, List.set_cons_succ]; clear HM; have HM := hid hM; clear hM; go_wp2
    exact bodyPost_ret (m_results2 HM.out Tryz.results20 _ rfl rfl (.head _) zL rfl Tryz.underlying38 rfl (by kernel_rfl)) rfl ⟨rfl, HM.out.below⟩
  | true =>
  by_cases hn1 : n < -1
  · refine m_seq HM.out (fun hne => ?_); (repeat (first | (go_big_quiet_want; refine mq_loadS rfl rfl (by first | exact .head _ | exact .tail _ (.head _) | exact .tail _ (.tail _ (.head _)) | exact .tail _ (.tail _ (.tail _ (.head _))) | exact .tail _ (.tail _ (.tail _ (.tail _ (.head _)))) | exact .tail _ (.tail _ (.tail _ (.tail _ (.tail _ (.head _))))) | exact .tail _ (.tail _ (.tail _ (.tail _ (.tail _ (.tail _ (.head _)))))) | exact .tail _ (.tail _ (.tail _ (.tail _ (.tail _ (.tail _ (.tail _ (.head _)))))))) (scrL s m o t) rfl Tryz.underlying38 rfl (by kernel_rfl) ?_; simp only [Act.put, List.setIfInBounds_toArray, List.set_cons_zero, List.set_cons_succ]; go_big_quiet_on) | go_big_quiet_step ((first | (go_at_call 30; with_reducible exact m_call _ (HA.out _ (MemW.below _))) | (go_at_call 31; with_reducible exact m_still _ (HK.out _)))))); refine wpQuiet_nil ?_; intro wq hM; clear HM; have HM := hid hM; clear hM hne
    go_upto_region 2 with (fail); refine wp_region_lit ?_; refine m_build0 rfl rfl (build_zS _) ?_; simp only [Act.put, List.setIfInBounds_toArray, List.set_cons_zero, List.set_cons_succ]; refine m_storeA HM.out rfl rfl rfl 0 rfl rfl rfl (by kernel_rfl) rfl ?_; intro wz hM; simp only [Act.put, List.setIfInBounds_toArray, List.set_cons_zero, List.set_cons_succ]; clear HM; have HM := hid hM; clear hM; go_wp2
    exact bodyPost_ret (m_results2 HM.out Tryz.results20 _ rfl rfl (.head _) zL rfl Tryz.underlying38 rfl (by kernel_rfl)) rfl ⟨rfl, HM.out.below⟩
  · by_cases hn2 : n > 9999
    · have hn3 : (9999 : Int) < n := hn2
      refine m_seq HM.out (fun hne => ?_); (repeat (first | (go_big_quiet_want; refine mq_loadS rfl rfl (by first | exact .head _ | exact .tail _ (.head _) | exact .tail _ (.tail _ (.head _)) | exact .tail _ (.tail _ (.tail _ (.head _))) | exact .tail _ (.tail _ (.tail _ (.tail _ (.head _)))) | exact .tail _ (.tail _ (.tail _ (.tail _ (.tail _ (.head _))))) | exact .tail _ (.tail _ (.tail _ (.tail _ (.tail _ (.tail _ (.head _)))))) | exact .tail _ (.tail _ (.tail _ (.tail _ (.tail _ (.tail _ (.tail _ (.head _)))))))) (scrL s m o t) rfl Tryz.underlying38 rfl (by kernel_rfl) ?_; simp only [Act.put, List.setIfInBounds_toArray, List.set_cons_zero, List.set_cons_succ]; go_big_quiet_on) | go_big_quiet_step ((first | (go_at_call 30; with_reducible exact m_call _ (HA.out _ (MemW.below _))) | (go_at_call 31; with_reducible exact m_still _ (HK.out _)))))); refine wpQuiet_nil ?_; intro wq hM; clear HM; have HM := hid hM; clear hM hne
      go_upto_region 2 with (fail); refine wp_region_lit ?_; refine m_build0 rfl rfl (build_zS _) ?_; simp only [Act.put, List.setIfInBounds_toArray, List.set_cons_zero, List.set_cons_succ]; refine m_storeA HM.out rfl rfl rfl 0 rfl rfl rfl (by kernel_rfl) rfl ?_; intro wz hM; simp only [Act.put, List.setIfInBounds_toArray, List.set_cons_zero, List.set_cons_succ]; clear HM; have HM := hid hM; clear hM; go_wp2
      exact bodyPost_ret (m_results2 HM.out Tryz.results20 _ rfl rfl (.head _) zL rfl Tryz.underlying38 rfl (by kernel_rfl)) rfl ⟨rfl, HM.out.below⟩
    · have hn3 : ¬ (9999 : Int) < n := hn2
      have hb4 : b4 = false := by
        have h := H.out
        rw [show numOk n = true by simp [numOk]; omega] at h
        simpa using h
      subst hb4
      refine m_seq HM.out (fun hne => ?_); (repeat (first | (go_big_quiet_want; refine mq_loadS rfl rfl (by first | exact .head _ | exact .tail _ (.head _) | exact .tail _ (.tail _ (.head _)) | exact .tail _ (.tail _ (.tail _ (.head _))) | exact .tail _ (.tail _ (.tail _ (.tail _ (.head _)))) | exact .tail _ (.tail _ (.tail _ (.tail _ (.tail _ (.head _))))) | exact .tail _ (.tail _ (.tail _ (.tail _ (.tail _ (.tail _ (.head _)))))) | exact .tail _ (.tail _ (.tail _ (.tail _ (.tail _ (.tail _ (.tail _ (.head _)))))))) (scrL s m o t) rfl Tryz.underlying38 rfl (by kernel_rfl) ?_; simp only [Act.put, List.setIfInBounds_toArray, List.set_cons_zero, List.set_cons_succ]; go_big_quiet_on) | go_big_quiet_step ((first | (go_at_call 30; with_reducible exact m_call _ (HA.out _ (MemW.below _))) | (go_at_call 31; with_reducible exact m_still _ (HK.out _)))))); refine wpQuiet_nil ?_; intro wq hM; clear HM; have HM := hid hM; clear hM hne
      go_upto_region 2 with (fail); refine wp_region_lit ?_; refine m_build0 rfl rfl (build_zS _) ?_; simp only [Act.put, List.setIfInBounds_toArray, List.set_cons_zero, List.set_cons_succ]; refine m_storeA HM.out rfl rfl rfl 0 rfl rfl rfl (by kernel_rfl) rfl ?_; intro wz hM; simp only [Act.put, List.setIfInBounds_toArray, List.set_cons_zero, List.set_cons_succ]; clear HM; have HM := hid hM; clear hM; go_wp2
      exact bodyPost_ret (m_results2 HM.out Tryz.results20 _ rfl rfl (.head _) zL rfl Tryz.underlying38 rfl (by kernel_rfl)) rfl ⟨rfl, HM.out.below⟩
set_option maxRecDepth 100000 in
set_option maxHeartbeats 4000000 in
theorem edo_good {s : Scr} {m o t : Value} {key n : Int} {w : World} (hr : RdScr w s m o t) (hT : U8 w) (hs : scrB s = true) (hn : numOk n = true) (hkey : editKey key = true) :
    Calls Tryz.prog 20 #[.agg (scrL s m o t).toArray, .int .i64 key, .int .i64 n] w fun e w' => ∃ m' o' t', e = .returned (.tuple #[.agg (scrL (edR s key n) m' o' t').toArray, .int .i64 0]) ∧ OwnScr w' w.heap.size (edR s key n) m' o' t' ∧ Below w.heap.size w w' := by
  have hnb : -1 ≤ n ∧ n ≤ 9999 := by simpa [numOk] using hn
  have HFA := hid (scrB_facts hs)
  have HS := hid hs
  have HA : Hid (∀ W, Below w.heap.size w W → Calls Tryz.prog 30 #[.agg (scrL s m o t).toArray] W fun e w' => e = .returned (.bool true) ∧ Below W.heap.size W w') := hid fun W hW => mayS_l hs (hr.below hW) (hT.below hW)
  have HK : Hid (∀ W, Calls Tryz.prog 31 #[.int .i64 key] W fun e w' => e = .returned (.bool true) ∧ W = w') := hid fun W => isE_is hkey W
  have HO := hid (fun W (hW : Below w.heap.size w W) => ownS_l (hr.below hW))
  have HKEY := hid hkey
  have HNN : Hid (((edN n : Nat) : Int) = max 1 n) := hid (by unfold edN; omega)
  have hn1 : ¬ n < -1 := by omega
  have hn2 : ¬ n > 9999 := by omega
  have hn3 : ¬ (9999 : Int) < n := by omega
  have HX := hid (Mem.start w)
  clear hs hn hr hT hkey
  go_enter Tryz.func20, Tryz.ntmps20
  go_upto_region 0 with (fail)
  refine wp_region_lit ?_
  refine m_box HX.out rfl rfl rfl ?_
  intro b w1 hM1
  simp only [Act.put, List.setIfInBounds_toArray, List.set_cons_zero, List.set_cons_succ]
  refine m_alloc hM1 rfl rfl info_zS ?_
  intro b' w2 hM
  simp only [Act.put, List.setIfInBounds_toArray, List.set_cons_zero, List.set_cons_succ]
  clear hM1
  have HM := hid (show Mem w w2 [(b', Row 38 zL), (b, Row 38 (scrL s m o t))] from hM)
  clear hM
  go_upto_region 1 with (fail)
  refine m_seq HM.out (fun hne => ?_); (repeat (first | (go_big_quiet_want; refine mq_loadS rfl rfl (by first | exact .head _ | exact .tail _ (.head _) | exact .tail _ (.tail _ (.head _)) | exact .tail _ (.tail _ (.tail _ (.head _))) | exact .tail _ (.tail _ (.tail _ (.tail _ (.head _)))) | exact .tail _ (.tail _ (.tail _ (.tail _ (.tail _ (.head _))))) | exact .tail _ (.tail _ (.tail _ (.tail _ (.tail _ (.tail _ (.head _)))))) | exact .tail _ (.tail _ (.tail _ (.tail _ (.tail _ (.tail _ (.tail _ (.head _)))))))) (scrL s m o t) rfl Tryz.underlying38 rfl (by kernel_rfl) ?_; simp only [Act.put, List.setIfInBounds_toArray, List.set_cons_zero, List.set_cons_succ]; go_big_quiet_on) | go_big_quiet_step ((first | (go_at_call 30; with_reducible exact m_call _ (HA.out _ (MemW.below _))) | (go_at_call 31; with_reducible exact m_still _ (HK.out _)))))); refine wpQuiet_nil ?_; intro wq hM; clear HM; have HM := hid hM; clear hM hne
  go_wp2_with (first | ((with_reducible refine wl_id ?_); refine m_loadS HM.out rfl rfl rfl (by first | exact .head _ | exact .tail _ (.head _) | exact .tail _ (.tail _ (.head _)) | exact .tail _ (.tail _ (.tail _ (.head _))) | exact .tail _ (.tail _ (.tail _ (.tail _ (.head _)))) | exact .tail _ (.tail _ (.tail _ (.tail _ (.tail _ (.head _))))) | exact .tail _ (.tail _ (.tail _ (.tail _ (.tail _ (.tail _ (.head _)))))) | exact .tail _ (.tail _ (.tail _ (.tail _ (.tail _ (.tail _ (.tail _ (.head _)))))))) (scrL s m o t) rfl Tryz.underlying38 rfl (by kernel_rfl) ?_; simp only [Act.put, List.setIfInBounds_toArray, List.set_cons_zero, List.set_cons_succ]) | (go_at_call 32; fail))
  refine (HO.out _ HM.out.below).mono ?_
  rintro e w3 ⟨m', o', t', rfl, hO, hB⟩
  obtain ⟨gm, cm, go, co, gt, ct, rfl, rfl, rfl, hM⟩ := HM.out.addScr hB hO HFA.out.2.1
  clear HM hO hB HA HK HO
  have HM := hid hM
  clear hM
  go_wp2_with (first | (refine m_storeA HM.out rfl rfl rfl 4 rfl rfl rfl (by kernel_rfl) rfl ?_; intro w4 hM; simp only [Act.put, List.setIfInBounds_toArray, List.set_cons_zero, List.set_cons_succ]; clear HM; have HM := hid hM; clear hM) | (go_at_call 33; fail))
  have hM4 : Mem w w4 [(gm, entC s.ms cm), (go, entC s.os co), (gt, entB s.tabs ct), (b', Row 38 zL), (b, Row 38 (scrL s (sl gm s.ms.length cm) (sl go s.os.length co) (sl gt s.tabs.length ct)))] := HM.out
  have hE := edH_of (gm := gm) (cm := cm) (go := go) (co := co) (t := sl gt s.tabs.length ct) HS.out
  have hKS := edS_keeps key s.cur.row.toNat s.top.toNat s.bot.toNat s
  obtain ⟨s1, hs1⟩ : ∃ s1, edS key s.cur.row.toNat s.top.toNat s.bot.toNat s = s1 := ⟨_, rfl⟩
  rw [hs1] at hKS
  cases hsw : s.sw with
  | false =>
    simp only [hsw, Bool.false_eq_true, if_false] at hE
    have hfin : edR s key n = { s1 with ms := edM key (max 0 n) (edN n) s.mr.toNat s.mc.toNat s.cur.row.toNat s.cur.col.toNat s.top.toNat s.bot.toNat s.cur.a s.ms } := by rw [edR, if_neg (by simp [hsw]), hs1]
    refine (ed_mt (k := 4) (j := 0) hE hM4 rfl rfl hnb HNN.out HKEY.out).mono ?_
    rintro e w5 ⟨rfl, hM⟩
    rw [hs1] at hM
    simp only [List.set_cons_succ, List.set_cons_zero] at hM
    obtain ⟨X, hX⟩ : ∃ X, edM key (max 0 n) (edN n) s.mr.toNat s.mc.toNat s.cur.row.toNat s.cur.col.toNat s.top.toNat s.bot.toNat s.cur.a s.ms = X := ⟨_, rfl⟩
    have hXl : X.length = s.ms.length := by rw [← hX, edM_length]
    rw [hX] at hM hfin
    have HFN := hid hfin
    have HXL := hid hXl
    have HKS := hid hKS
    clear HM hM4 hE hs1 hfin hX hXl hKS hsw
    have HM := hid hM
    clear hM
    go_upto_region 5 with (fail)
    refine wp_region_lit ?_
    ((with_reducible refine wl_id ?_); refine m_loadS HM.out rfl rfl rfl (by first | exact .head _ | exact .tail _ (.head _) | exact .tail _ (.tail _ (.head _)) | exact .tail _ (.tail _ (.tail _ (.head _))) | exact .tail _ (.tail _ (.tail _ (.tail _ (.head _)))) | exact .tail _ (.tail _ (.tail _ (.tail _ (.tail _ (.head _))))) | exact .tail _ (.tail _ (.tail _ (.tail _ (.tail _ (.tail _ (.head _)))))) | exact .tail _ (.tail _ (.tail _ (.tail _ (.tail _ (.tail _ (.tail _ (.head _)))))))) (scrL s1 (sl gm s.ms.length cm) (sl go s.os.length co) (sl gt s.tabs.length ct)) rfl Tryz.underlying38 rfl (by kernel_rfl) ?_; simp only [Act.put, List.setIfInBounds_toArray, List.set_cons_zero, List.set_cons_succ])
    refine m_storeA HM.out rfl rfl rfl 3 rfl rfl rfl (by kernel_rfl) rfl ?_
    intro w6 hM
    simp only [Act.put, List.setIfInBounds_toArray, List.set_cons_zero, List.set_cons_succ]
    simp only [List.set_cons_succ, List.set_cons_zero] at hM
    clear HM
    have HM := hid hM
    clear hM
    go_wp2
    have hO := HM.out.scr (s := { s1 with ms := X, os := s.os, tabs := s.tabs })
    have hO' : OwnScr w6 w.heap.size (edR s key n) (sl gm s.ms.length cm) (sl go s.os.length co) (sl gt s.tabs.length ct) := by
      rw [HFN.out, ← HXL.out]
      exact hO.as rfl HKS.out.2.1 HKS.out.2.2.1
    have hl : scrL s1 (sl gm s.ms.length cm) (sl go s.os.length co) (sl gt s.tabs.length ct) = scrL (edR s key n) (sl gm s.ms.length cm) (sl go s.os.length co) (sl gt s.tabs.length ct) := by rw [HFN.out]; rfl
    exact bodyPost_ret (m_results2 HM.out Tryz.results20 _ rfl (v := .int .i64 0) rfl (.tail _ (.tail _ (.tail _ (.head _)))) (scrL s1 (sl gm s.ms.length cm) (sl go s.os.length co) (sl gt s.tabs.length ct)) rfl Tryz.underlying38 rfl (by kernel_rfl)) rfl ⟨_, _, _, by rw [hl], hO', HM.out.below⟩
  | true =>
    simp only [hsw, if_true] at hE
    have hfin : edR s key n = { s1 with os := edM key (max 0 n) (edN n) s.mr.toNat s.mc.toNat s.cur.row.toNat s.cur.col.toNat s.top.toNat s.bot.toNat s.cur.a s.os } := by rw [edR, if_pos hsw, hs1]
    refine (ed_mt (k := 4) (j := 1) hE hM4 rfl rfl hnb HNN.out HKEY.out).mono ?_
    rintro e w5 ⟨rfl, hM⟩
    rw [hs1] at hM
    simp only [List.set_cons_succ, List.set_cons_zero] at hM
    obtain ⟨X, hX⟩ : ∃ X, edM key (max 0 n) (edN n) s.mr.toNat s.mc.toNat s.cur.row.toNat s.cur.col.toNat s.top.toNat s.bot.toNat s.cur.a s.os = X := ⟨_, rfl⟩
    have hXl : X.length = s.os.length := by rw [← hX, edM_length]
    rw [hX] at hM hfin
    have HFN := hid hfin
    have HXL := hid hXl
    have HKS := hid hKS
    clear HM hM4 hE hs1 hfin hX hXl hKS hsw
    have HM := hid hM
    clear hM
    go_upto_region 5 with (fail)
    refine wp_region_lit ?_
    ((with_reducible refine wl_id ?_); refine m_loadS HM.out rfl rfl rfl (by first | exact .head _ | exact .tail _ (.head _) | exact .tail _ (.tail _ (.head _)) | exact .tail _ (.tail _ (.tail _ (.head _))) | exact .tail _ (.tail _ (.tail _ (.tail _ (.head _)))) | exact .tail _ (.tail _ (.tail _ (.tail _ (.tail _ (.head _))))) | exact .tail _ (.tail _ (.tail _ (.tail _ (.tail _ (.tail _ (.head _)))))) | exact .tail _ (.tail _ (.tail _ (.tail _ (.tail _ (.tail _ (.tail _ (.head _)))))))) (scrL s1 (sl gm s.ms.length cm) (sl go s.os.length co) (sl gt s.tabs.length ct)) rfl Tryz.underlying38 rfl (by kernel_rfl) ?_; simp only [Act.put, List.setIfInBounds_toArray, List.set_cons_zero, List.set_cons_succ])
    refine m_storeA HM.out rfl rfl rfl 3 rfl rfl rfl (by kernel_rfl) rfl ?_
    intro w6 hM
    simp only [Act.put, List.setIfInBounds_toArray, List.set_cons_zero, List.set_cons_succ]
    simp only [List.set_cons_succ, List.set_cons_zero] at hM
    clear HM
    have HM := hid hM
    clear hM
    go_wp2
    have hO := HM.out.scr (s := { s1 with ms := s.ms, os := X, tabs := s.tabs })
    have hO' : OwnScr w6 w.heap.size (edR s key n) (sl gm s.ms.length cm) (sl go s.os.length co) (sl gt s.tabs.length ct) := by
      rw [HFN.out, ← HXL.out]
      exact hO.as HKS.out.1 rfl HKS.out.2.2.1
    have hl : scrL s1 (sl gm s.ms.length cm) (sl go s.os.length co) (sl gt s.tabs.length ct) = scrL (edR s key n) (sl gm s.ms.length cm) (sl go s.os.length co) (sl gt s.tabs.length ct) := by rw [HFN.out]; rfl
    exact bodyPost_ret (m_results2 HM.out Tryz.results20 _ rfl (v := .int .i64 0) rfl (.tail _ (.tail _ (.tail _ (.head _)))) (scrL s1 (sl gm s.ms.length cm) (sl go s.os.length co) (sl gt s.tabs.length ct)) rfl Tryz.underlying38 rfl (by kernel_rfl)) rfl ⟨_, _, _, by rw [hl], hO', HM.out.below⟩
end Go.Proofs.YtpmfjombfcnhmaaGreatDoor

/- Edits make no text of a cell greater. -/
namespace Go.Proofs.YtpmfjombfcnhmaaGreatDoor
open Go Go.RowKit

def tx (L : List Cell) : Prop := ∀ i, (at_ L i).cb.size ≤ 1048576
theorem tx_of {L : List Cell} (h : ∀ i, i < L.length → (at_ L i).cb.size ≤ 1048576) : tx L := fun i => by
  rcases Nat.lt_or_ge i L.length with h1 | h1
  · exact h i h1
  · rw [at_out h1]; exact Nat.zero_le _
theorem tx_bare (a : Attr) : (bare a).cb.size ≤ 1048576 := Nat.zero_le _
theorem tx_tab {n : Nat} {f : Nat → Cell} (h : ∀ i, (f i).cb.size ≤ 1048576) : tx (tab n f) := tx_of fun i hi => by
  rw [tab_length] at hi
  rw [at_tab hi]
  exact h i
theorem tx_sub {o n : Nat} {M : List Cell} (h : tx M) : tx (sub o n M) := tx_tab fun i => h _
theorem tx_onSub {o n : Nat} {f : List Cell → List Cell} {M : List Cell} (h : tx M) (hf : tx (f (sub o n M))) : tx (onSub o n f M) := tx_tab fun i => by
  split
  · exact hf _
  · exact h _
theorem tx_fill {a : Attr} {L : List Cell} : tx (fillL a L) := tx_tab fun _ => tx_bare a
theorem tx_cut {p : Int} {L : List Cell} (h : tx L) : tx (cutL p L) := by
  unfold cutL
  split
  · refine tx_tab fun j => ?_
    split
    · exact tx_bare _
    · exact h _
  · exact h
theorem tx_copy {d s : Nat} {L : List Cell} (h : tx L) : tx (copyL d s L) := tx_tab fun j => by
  split
  · exact h _
  · exact h _
theorem tx_wipe {l q : Nat} {a : Attr} {L : List Cell} (h : tx L) : tx (wipeL l q a L) := by
  unfold wipeL
  split
  · exact tx_onSub (tx_cut (tx_cut h)) tx_fill
  · exact h
theorem tx_shut {p k : Nat} {a : Attr} {L : List Cell} (h : tx L) : tx (shutL p k a L) := tx_onSub (tx_copy (tx_cut (tx_cut h))) tx_fill
theorem tx_open {p k : Nat} {a : Attr} {L : List Cell} (h : tx L) : tx (openL p k a L) := tx_onSub (tx_copy (tx_cut (tx_cut h))) tx_fill
theorem tx_up {k : Nat} {a : Attr} {L : List Cell} (h : tx L) : tx (upL k a L) := tx_onSub (tx_copy h) tx_fill
theorem tx_down {k : Nat} {a : Attr} {L : List Cell} (h : tx L) : tx (downL k a L) := tx_onSub (tx_copy h) tx_fill
theorem tx_line {n : Int} {col c : Nat} {a : Attr} {L : List Cell} (h : tx L) : tx (lineL n col c a L) := by
  unfold lineL
  split
  · exact tx_wipe h
  · split
    · exact tx_wipe h
    · split
      · exact tx_wipe h
      · exact h
theorem tx_jT {n : Int} {row col c i k : Nat} {a : Attr} {L : List Cell} (h : tx L) : tx (jT n row col c a i k L) := by
  unfold jT
  split
  · exact tx_wipe h
  · split
    · exact tx_line h
    · exact h
theorem tx_rows {c : Nat} {f : Nat → List Cell → List Cell} {M : List Cell} (h : tx M) (hf : ∀ k L, tx L → tx (f k L)) : tx (rowsL c f M) := tx_tab fun j => hf _ _ (tx_sub h) _
theorem tx_edM {key n0 : Int} {n r c row col top bot : Nat} {a : Attr} {M : List Cell} (h : tx M) : tx (edM key n0 n r c row col top bot a M) := by
  unfold edM
  repeat' split
  · exact tx_rows h fun k L hL => tx_jT hL
  · exact tx_onSub h (tx_line (tx_sub h))
  · exact tx_onSub h (tx_wipe (tx_sub h))
  · exact tx_onSub h (tx_shut (tx_sub h))
  · exact tx_onSub h (tx_open (tx_sub h))
  · exact tx_onSub h (tx_down (tx_sub h))
  · exact h
  · exact tx_onSub h (tx_up (tx_sub h))
  · exact h
  · exact tx_onSub h (tx_up (tx_sub h))
  · exact tx_onSub h (tx_down (tx_sub h))
theorem small_edR {s : Scr} (h : s.small) (key told : Int) : (edR s key told).small := by
  obtain ⟨h1, h2, h3, h4, h5, h6⟩ := h
  have e := edS_keeps key s.cur.row.toNat s.top.toNat s.bot.toNat s
  unfold edR
  split
  · exact ⟨by show (edS _ _ _ _ _).ms.length ≤ _; rw [e.1]; exact h1, by show (edM _ _ _ _ _ _ _ _ _ _ _).length ≤ _; rw [edM_length]; exact h2, by show (edS _ _ _ _ _).tabs.length ≤ _; rw [e.2.2.1]; exact h3, by show (edS _ _ _ _ _).title.size ≤ _; rw [e.2.2.2]; exact h4, fun i hi => by show (at_ (edS _ _ _ _ _).ms i).cb.size ≤ _; rw [e.1]; exact h5 i (by have hi2 : i < (edS key s.cur.row.toNat s.top.toNat s.bot.toNat s).ms.length := hi; rwa [e.1] at hi2), fun i _ => tx_edM (tx_of h6) i⟩
  · exact ⟨by show (edM _ _ _ _ _ _ _ _ _ _ _).length ≤ _; rw [edM_length]; exact h1, by show (edS _ _ _ _ _).os.length ≤ _; rw [e.2.1]; exact h2, by show (edS _ _ _ _ _).tabs.length ≤ _; rw [e.2.2.1]; exact h3, by show (edS _ _ _ _ _).title.size ≤ _; rw [e.2.2.2]; exact h4, fun i _ => tx_edM (tx_of h5) i, fun i hi => by show (at_ (edS _ _ _ _ _).os i).cb.size ≤ _; rw [e.2.1]; exact h6 i (by have hi2 : i < (edS key s.cur.row.toNat s.top.toNat s.bot.toNat s).os.length := hi; rwa [e.2.1] at hi2)⟩
end Go.Proofs.YtpmfjombfcnhmaaGreatDoor
