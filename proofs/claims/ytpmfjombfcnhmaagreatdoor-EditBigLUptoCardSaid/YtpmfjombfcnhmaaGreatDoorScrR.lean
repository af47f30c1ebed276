/- Screens, by the reference: may one be? -/
import Derived.Test.YtpmfjombfcnhmaaGreatDoorScrM
set_option linter.unusedVariables false
set_option linter.unusedSimpArgs false
namespace Go.Proofs.YtpmfjombfcnhmaaGreatDoor
open Go Go.RowKit

noncomputable def rreg (n : Nat) : Code := ((Tryz.f21.body.bind (findRegion n)).getD .skip)
set_option maxHeartbeats 4000000 in
set_option maxRecDepth 100000 in
theorem rreg6_is {s : Scr} {g : Nat} {wr : World} {x : Bool} {Q : Exit → Act → World → Prop} (h : marginsOk s = x) (hr : 1 ≤ s.mr)
    (h37 : wr.cell? ⟨g, 37, none⟩ = some (.int .i64 s.top)) (h38 : wr.cell? ⟨g, 38, none⟩ = some (.int .i64 s.bot)) (u0 u2 u4 u5 u6 u7 u8 u9 u10 u11 u12 u13 u14 u15 u16 u17 u18 u19 u20 u21 u22 u23 u24 u25 u26 u27 u28 u29 u30 u31 u32 u33 u34 u35 u36 u37 u38 u39 u40 u41 u42 u43 u44 u45 u46 u47 u48 u49 u50 u51 u52 u53 u54 u55 u56 u57 u58 u59 u60 u61 u62 u63 u64 u65 u66 u67 u68 u69 u70 u71 u72 u73 u74 u75 u76 u77 u78 u79 u80 u81 u82 u83 u84 u85 u86 u87 u88 u89 u90 u91 u92 u93 u94 u95 u96 u97 u98 u99 u100 u101 u102 u103 u104 u105 u106 u107 u108 u109 u110 u111 u112 u113 u114 u115 u116 u117 u118 u119 u120 u121 u122 : Value)
    (hQ : ∀ (z : Bool) (v63 v64 v65 v66 v67 v68 v69 v70 v71 v72 v73 v74 v75 v76 v77 v78 v79 v80 v81 v82 v83 v84 v85 v86 v87 v88 v89 v90 v91 v92 : Value), z = x → Q .normal ⟨#[u0, .pointer (some ⟨g, 0, none⟩), u2, .int .i64 s.mr, u4, .bool z, u6, u7, u8, u9, u10, u11, u12, u13, u14, u15, u16, u17, u18, u19, u20, u21, u22, u23, u24, u25, u26, u27, u28, u29, u30, u31, u32, u33, u34, u35, u36, u37, u38, u39, u40, u41, u42, u43, u44, u45, u46, u47, u48, u49, u50, u51, u52, u53, u54, u55, u56, u57, u58, u59, u60, u61, u62, v63, v64, v65, v66, v67, v68, v69, v70, v71, v72, v73, v74, v75, v76, v77, v78, v79, v80, v81, v82, v83, v84, v85, v86, v87, v88, v89, v90, v91, v92, u93, u94, u95, u96, u97, u98, u99, u100, u101, u102, u103, u104, u105, u106, u107, u108, u109, u110, u111, u112, u113, u114, u115, u116, u117, u118, u119, u120, u121, u122], []⟩ wr) :
    Code.wp Tryz.prog (rreg 6) Q ⟨#[u0, .pointer (some ⟨g, 0, none⟩), u2, .int .i64 s.mr, u4, u5, u6, u7, u8, u9, u10, u11, u12, u13, u14, u15, u16, u17, u18, u19, u20, u21, u22, u23, u24, u25, u26, u27, u28, u29, u30, u31, u32, u33, u34, u35, u36, u37, u38, u39, u40, u41, u42, u43, u44, u45, u46, u47, u48, u49, u50, u51, u52, u53, u54, u55, u56, u57, u58, u59, u60, u61, u62, u63, u64, u65, u66, u67, u68, u69, u70, u71, u72, u73, u74, u75, u76, u77, u78, u79, u80, u81, u82, u83, u84, u85, u86, u87, u88, u89, u90, u91, u92, u93, u94, u95, u96, u97, u98, u99, u100, u101, u102, u103, u104, u105, u106, u107, u108, u109, u110, u111, u112, u113, u114, u115, u116, u117, u118, u119, u120, u121, u122], []⟩ wr := by
  have H := hid h
  have HQ := hid hQ
  clear h hQ
  conv => arg 2; whnf
  conv => arg 4; zeta
  by_cases h1 : s.mr = 1
  · have hb := wd_eq h1
    have H1 := hid h1
    clear h1
    go_wp2
    all_goals (refine HQ.out _ _ _ _ _ _ _ _ _ _ _ _ _ _ _ _ _ _ _ _ _ _ _ _ _ _ _ _ _ _ _ ?_; have h1 := H1.out; rw [← H.out, marginsOk, if_pos h1]; clear H HQ H1 hb; rw [Bool.eq_iff_iff]; simp_all <;> omega)
  · have hb := wd_ne h1
    have H1 := hid h1
    clear h1
    go_wp2
    all_goals (refine HQ.out _ _ _ _ _ _ _ _ _ _ _ _ _ _ _ _ _ _ _ _ _ _ _ _ _ _ _ _ _ _ _ ?_; have h1 := H1.out; rw [← H.out, marginsOk, if_neg h1]; clear H HQ H1 hb; rw [Bool.eq_iff_iff]; simp_all <;> omega)

set_option maxHeartbeats 4000000 in
set_option maxRecDepth 100000 in
theorem rreg7_is {s : Scr} {g : Nat} {wr : World} {b6 : Bool} {y7 : Int} {Q : Exit → Act → World → Prop} (hb6 : (s.last == 0) = b6)
    (hWI : Calls Tryz.prog 36 #[.int .i64 s.last] wr fun e w' => e = .returned (.int .i64 y7) ∧ Below wr.heap.size wr w')
    (h42 : wr.cell? ⟨g, 42, none⟩ = some (.int .i64 s.last)) (u0 u2 u3 u4 u5 u6 u7 u8 u9 u10 u11 u12 u13 u14 u15 u16 u17 u18 u19 u20 u21 u22 u23 u24 u25 u26 u27 u28 u29 u30 u31 u32 u33 u34 u35 u36 u37 u38 u39 u40 u41 u42 u43 u44 u45 u46 u47 u48 u49 u50 u51 u52 u53 u54 u55 u56 u57 u58 u59 u60 u61 u62 u63 u64 u65 u66 u67 u68 u69 u70 u71 u72 u73 u74 u75 u76 u77 u78 u79 u80 u81 u82 u83 u84 u85 u86 u87 u88 u89 u90 u91 u92 u93 u94 u95 u96 u97 u98 u99 u100 u101 u102 u103 u104 u105 u106 u107 u108 u109 u110 u111 u112 u113 u114 u115 u116 u117 u118 u119 u120 u121 u122 : Value)
    (hQ : ∀ (wz : World) (z : Bool) (v93 v94 v95 v96 v97 v98 v99 v100 v101 : Value), Below wr.heap.size wr wz → z = (b6 || decide (0 < y7)) → Q .normal ⟨#[u0, .pointer (some ⟨g, 0, none⟩), u2, u3, u4, u5, .bool z, u7, u8, u9, u10, u11, u12, u13, u14, u15, u16, u17, u18, u19, u20, u21, u22, u23, u24, u25, u26, u27, u28, u29, u30, u31, u32, u33, u34, u35, u36, u37, u38, u39, u40, u41, u42, u43, u44, u45, u46, u47, u48, u49, u50, u51, u52, u53, u54, u55, u56, u57, u58, u59, u60, u61, u62, u63, u64, u65, u66, u67, u68, u69, u70, u71, u72, u73, u74, u75, u76, u77, u78, u79, u80, u81, u82, u83, u84, u85, u86, u87, u88, u89, u90, u91, u92, v93, v94, v95, v96, v97, v98, v99, v100, v101, u102, u103, u104, u105, u106, u107, u108, u109, u110, u111, u112, u113, u114, u115, u116, u117, u118, u119, u120, u121, u122], []⟩ wz) :
    Code.wp Tryz.prog (rreg 7) Q ⟨#[u0, .pointer (some ⟨g, 0, none⟩), u2, u3, u4, u5, u6, u7, u8, u9, u10, u11, u12, u13, u14, u15, u16, u17, u18, u19, u20, u21, u22, u23, u24, u25, u26, u27, u28, u29, u30, u31, u32, u33, u34, u35, u36, u37, u38, u39, u40, u41, u42, u43, u44, u45, u46, u47, u48, u49, u50, u51, u52, u53, u54, u55, u56, u57, u58, u59, u60, u61, u62, u63, u64, u65, u66, u67, u68, u69, u70, u71, u72, u73, u74, u75, u76, u77, u78, u79, u80, u81, u82, u83, u84, u85, u86, u87, u88, u89, u90, u91, u92, u93, u94, u95, u96, u97, u98, u99, u100, u101, u102, u103, u104, u105, u106, u107, u108, u109, u110, u111, u112, u113, u114, u115, u116, u117, u118, u119, u120, u121, u122], []⟩ wr := by
  have HQ := hid hQ
  clear hQ
  conv => arg 2; whnf
  conv => arg 4; zeta
  cases b6 with
  | true =>
    go_wp2
    exact HQ.out wr _ _ _ _ _ _ _ _ _ _ (Below.refl _ _) rfl
  | false =>
    go_wp2_with (go_at_call 36; (with_reducible refine hWI.mono ?_); rintro e w5 ⟨rfl, hB⟩; have HB5 := hid hB; clear hB)
    exact HQ.out _ _ _ _ _ _ _ _ _ _ _ HB5.out rfl
set_option maxHeartbeats 4000000 in
set_option maxRecDepth 100000 in
theorem rreg8_is {s : Scr} {A : Option Addr} {ct g : Nat} {wr : World} {x b1 b3 b4 b5 b7 : Bool} {Q : Exit → Act → World → Prop} (hx : (b1 && b3 && b4 && b5 && b7) = x) (hb3 : ((s.tabs.length : Int) == s.mc) = b3)
    (hNU : Calls Tryz.prog 37 #[.int .i64 s.modes, .int .i64 1023] wr fun e w' => e = .returned (.bool b4) ∧ wr = w')
    (hTI : Calls Tryz.prog 38 #[.string s.title] wr fun e w' => e = .returned (.bool b5) ∧ Below wr.heap.size wr w')
    (h39 : wr.cell? ⟨g, 39, none⟩ = some (.slice A s.tabs.length ct)) (h40 : wr.cell? ⟨g, 40, none⟩ = some (.int .i64 s.modes)) (h41 : wr.cell? ⟨g, 41, none⟩ = some (.string s.title))
    (u0 u2 u3 u7 u8 u9 u10 u11 u12 u13 u14 u15 u16 u17 u18 u19 u20 u21 u22 u23 u24 u25 u26 u27 u28 u29 u30 u31 u32 u33 u34 u35 u36 u37 u38 u39 u40 u41 u42 u43 u44 u45 u46 u47 u48 u49 u50 u51 u52 u53 u54 u55 u56 u57 u58 u59 u60 u61 u62 u63 u64 u65 u66 u67 u68 u69 u70 u71 u72 u73 u74 u75 u76 u77 u78 u79 u80 u81 u82 u83 u84 u85 u86 u87 u88 u89 u90 u91 u92 u93 u94 u95 u96 u97 u98 u99 u100 u101 u102 u103 u104 u105 u106 u107 u108 u109 u110 u111 u112 u113 u114 u115 u116 u117 u118 u119 u120 u121 u122 : Value)
    (hQ : ∀ (wz : World) (z : Bool) (v102 v103 v104 v105 v106 v107 v108 v109 v110 v111 v112 v113 v114 v115 v116 v117 v118 v119 v120 v121 v122 : Value), Below wr.heap.size wr wz → z = x → Q .normal ⟨#[u0, .pointer (some ⟨g, 0, none⟩), .bool z, u3, .int .i64 s.mc, .bool b1, .bool b7, u7, u8, u9, u10, u11, u12, u13, u14, u15, u16, u17, u18, u19, u20, u21, u22, u23, u24, u25, u26, u27, u28, u29, u30, u31, u32, u33, u34, u35, u36, u37, u38, u39, u40, u41, u42, u43, u44, u45, u46, u47, u48, u49, u50, u51, u52, u53, u54, u55, u56, u57, u58, u59, u60, u61, u62, u63, u64, u65, u66, u67, u68, u69, u70, u71, u72, u73, u74, u75, u76, u77, u78, u79, u80, u81, u82, u83, u84, u85, u86, u87, u88, u89, u90, u91, u92, u93, u94, u95, u96, u97, u98, u99, u100, u101, v102, v103, v104, v105, v106, v107, v108, v109, v110, v111, v112, v113, v114, v115, v116, v117, v118, v119, v120, v121, v122], []⟩ wz) :
    Code.wp Tryz.prog (rreg 8) Q ⟨#[u0, .pointer (some ⟨g, 0, none⟩), u2, u3, .int .i64 s.mc, .bool b1, .bool b7, u7, u8, u9, u10, u11, u12, u13, u14, u15, u16, u17, u18, u19, u20, u21, u22, u23, u24, u25, u26, u27, u28, u29, u30, u31, u32, u33, u34, u35, u36, u37, u38, u39, u40, u41, u42, u43, u44, u45, u46, u47, u48, u49, u50, u51, u52, u53, u54, u55, u56, u57, u58, u59, u60, u61, u62, u63, u64, u65, u66, u67, u68, u69, u70, u71, u72, u73, u74, u75, u76, u77, u78, u79, u80, u81, u82, u83, u84, u85, u86, u87, u88, u89, u90, u91, u92, u93, u94, u95, u96, u97, u98, u99, u100, u101, u102, u103, u104, u105, u106, u107, u108, u109, u110, u111, u112, u113, u114, u115, u116, u117, u118, u119, u120, u121, u122], []⟩ wr := by
  have HQ := hid hQ
  have HX := hid hx
  clear hQ hx
  conv => arg 2; whnf
  conv => arg 4; zeta
  cases b1 with
  | false =>
    go_wp2
    exact HQ.out wr _ _ _ _ _ _ _ _ _ _ _ _ _ _ _ _ _ _ _ _ _ _ (Below.refl _ _) (by rw [← HX.out]; rfl)
  | true =>
  cases b3 with
  | false =>
    go_wp2
    exact HQ.out wr _ _ _ _ _ _ _ _ _ _ _ _ _ _ _ _ _ _ _ _ _ _ (Below.refl _ _) (by rw [← HX.out]; rfl)
  | true =>
  cases b4 with
  | false =>
    go_wp2_with (go_at_call 37; (with_reducible refine hNU.mono ?_); rintro e w5 ⟨rfl, rfl⟩)
    exact HQ.out wr _ _ _ _ _ _ _ _ _ _ _ _ _ _ _ _ _ _ _ _ _ _ (Below.refl _ _) (by rw [← HX.out]; rfl)
  | true =>
  cases b5 with
  | false =>
    go_wp2_with (first | (go_at_call 37; (with_reducible refine hNU.mono ?_); rintro e w5 ⟨rfl, rfl⟩) | (go_at_call 38; (with_reducible refine hTI.mono ?_); rintro e w5 ⟨rfl, hB⟩; have HB5 := hid hB; clear hB))
    exact HQ.out _ _ _ _ _ _ _ _ _ _ _ _ _ _ _ _ _ _ _ _ _ _ _ HB5.out (by rw [← HX.out]; rfl)
  | true =>
    go_wp2_with (first | (go_at_call 37; (with_reducible refine hNU.mono ?_); rintro e w5 ⟨rfl, rfl⟩) | (go_at_call 38; (with_reducible refine hTI.mono ?_); rintro e w5 ⟨rfl, hB⟩; have HB5 := hid hB; clear hB))
    exact HQ.out _ _ _ _ _ _ _ _ _ _ _ _ _ _ _ _ _ _ _ _ _ _ _ HB5.out (by rw [← HX.out]; rfl)
set_option maxHeartbeats 4000000 in
set_option maxRecDepth 100000 in
theorem rreg4_is {s : Scr} {g : Nat} {wr : World} {q1 q2 q3 : Bool} {Q : Exit → Act → World → Prop}
    (h1 : ∀ W, Calls Tryz.prog 35 #[.agg #[.int .i64 s.cur.row, .int .i64 s.cur.col, .bool s.cur.wrap, .int .i64 s.cur.a.fg, .int .i64 s.cur.a.bg, .int .i64 s.cur.a.fl, .int .i64 s.cur.g0, .int .i64 s.cur.g1, .int .i64 s.cur.sh, .bool s.cur.org], .int .i64 s.mr, .int .i64 s.mc] W fun e w' => e = .returned (.bool q1) ∧ Below W.heap.size W w')
    (h2 : ∀ W, Calls Tryz.prog 35 #[.agg #[.int .i64 s.sav.row, .int .i64 s.sav.col, .bool s.sav.wrap, .int .i64 s.sav.a.fg, .int .i64 s.sav.a.bg, .int .i64 s.sav.a.fl, .int .i64 s.sav.g0, .int .i64 s.sav.g1, .int .i64 s.sav.sh, .bool s.sav.org], .int .i64 s.mr, .int .i64 s.mc] W fun e w' => e = .returned (.bool q2) ∧ Below W.heap.size W w')
    (h3 : ∀ W, Calls Tryz.prog 35 #[.agg #[.int .i64 s.too.row, .int .i64 s.too.col, .bool s.too.wrap, .int .i64 s.too.a.fg, .int .i64 s.too.a.bg, .int .i64 s.too.a.fl, .int .i64 s.too.g0, .int .i64 s.too.g1, .int .i64 s.too.sh, .bool s.too.org], .int .i64 s.mr, .int .i64 s.mc] W fun e w' => e = .returned (.bool q3) ∧ Below W.heap.size W w')
    (l1 : ∀ y : After wr, (Instr.loadAt 35 (.pointer (some ⟨g, 7, none⟩))).run Tryz.prog y.W = .ok (.agg #[.int .i64 s.cur.row, .int .i64 s.cur.col, .bool s.cur.wrap, .int .i64 s.cur.a.fg, .int .i64 s.cur.a.bg, .int .i64 s.cur.a.fl, .int .i64 s.cur.g0, .int .i64 s.cur.g1, .int .i64 s.cur.sh, .bool s.cur.org]) y.W)
    (l2 : ∀ y : After wr, (Instr.loadAt 35 (.pointer (some ⟨g, 17, none⟩))).run Tryz.prog y.W = .ok (.agg #[.int .i64 s.sav.row, .int .i64 s.sav.col, .bool s.sav.wrap, .int .i64 s.sav.a.fg, .int .i64 s.sav.a.bg, .int .i64 s.sav.a.fl, .int .i64 s.sav.g0, .int .i64 s.sav.g1, .int .i64 s.sav.sh, .bool s.sav.org]) y.W)
    (l3 : ∀ y : After wr, (Instr.loadAt 35 (.pointer (some ⟨g, 27, none⟩))).run Tryz.prog y.W = .ok (.agg #[.int .i64 s.too.row, .int .i64 s.too.col, .bool s.too.wrap, .int .i64 s.too.a.fg, .int .i64 s.too.a.bg, .int .i64 s.too.a.fl, .int .i64 s.too.g0, .int .i64 s.too.g1, .int .i64 s.too.sh, .bool s.too.org]) y.W)
    (u0 u2 u5 u6 u7 u8 u9 u10 u11 u12 u13 u14 u15 u16 u17 u18 u19 u20 u21 u22 u23 u24 u25 u26 u27 u28 u29 u30 u31 u32 u33 u34 u35 u36 u37 u38 u39 u40 u41 u42 u43 u44 u45 u46 u47 u48 u49 u50 u51 u52 u53 u54 u55 u56 u57 u58 u59 u60 u61 u62 u63 u64 u65 u66 u67 u68 u69 u70 u71 u72 u73 u74 u75 u76 u77 u78 u79 u80 u81 u82 u83 u84 u85 u86 u87 u88 u89 u90 u91 u92 u93 u94 u95 u96 u97 u98 u99 u100 u101 u102 u103 u104 u105 u106 u107 u108 u109 u110 u111 u112 u113 u114 u115 u116 u117 u118 u119 u120 u121 u122 : Value)
    (hQ : ∀ (wz : World) (v41 v42 v43 v44 v45 v46 v47 v48 v49 v50 v51 v52 v53 v54 v55 v56 v57 v58 v59 v60 v61 : Value), Below wr.heap.size wr wz → Q .normal ⟨#[u0, .pointer (some ⟨g, 0, none⟩), u2, .int .i64 s.mr, .int .i64 s.mc, u5, u6, u7, u8, u9, u10, u11, u12, u13, u14, u15, u16, u17, u18, u19, u20, u21, u22, u23, u24, u25, u26, u27, u28, u29, u30, u31, u32, u33, u34, u35, u36, u37, u38, u39, u40, v41, v42, v43, v44, v45, v46, v47, v48, v49, v50, v51, v52, v53, v54, v55, v56, v57, v58, v59, v60, v61, .bool (!(q1 && q2 && q3)), u63, u64, u65, u66, u67, u68, u69, u70, u71, u72, u73, u74, u75, u76, u77, u78, u79, u80, u81, u82, u83, u84, u85, u86, u87, u88, u89, u90, u91, u92, u93, u94, u95, u96, u97, u98, u99, u100, u101, u102, u103, u104, u105, u106, u107, u108, u109, u110, u111, u112, u113, u114, u115, u116, u117, u118, u119, u120, u121, u122], []⟩ wz) :
    Code.wp Tryz.prog (rreg 4) Q ⟨#[u0, .pointer (some ⟨g, 0, none⟩), u2, .int .i64 s.mr, .int .i64 s.mc, u5, u6, u7, u8, u9, u10, u11, u12, u13, u14, u15, u16, u17, u18, u19, u20, u21, u22, u23, u24, u25, u26, u27, u28, u29, u30, u31, u32, u33, u34, u35, u36, u37, u38, u39, u40, u41, u42, u43, u44, u45, u46, u47, u48, u49, u50, u51, u52, u53, u54, u55, u56, u57, u58, u59, u60, u61, u62, u63, u64, u65, u66, u67, u68, u69, u70, u71, u72, u73, u74, u75, u76, u77, u78, u79, u80, u81, u82, u83, u84, u85, u86, u87, u88, u89, u90, u91, u92, u93, u94, u95, u96, u97, u98, u99, u100, u101, u102, u103, u104, u105, u106, u107, u108, u109, u110, u111, u112, u113, u114, u115, u116, u117, u118, u119, u120, u121, u122], []⟩ wr := by
  have HQ := hid hQ
  have H1 := hid h1
  have H2 := hid h2
  have H3 := hid h3
  have L1 := hid l1
  have L2 := hid l2
  have L3 := hid l3
  clear hQ h1 h2 h3 l1 l2 l3
  conv => arg 2; whnf
  conv => arg 4; zeta
  cases q1
  all_goals cases q2
  all_goals cases q3
  all_goals
    refine wp_region_seq (w0 := wr) (Below.refl _ _) ?_
    repeat (first | (go_big_quiet_want; refine quiet_load (w0 := wr) rfl rfl L1.out ?_; go_simp; go_big_quiet_on) | (go_big_quiet_want; refine quiet_load (w0 := wr) rfl rfl L2.out ?_; go_simp; go_big_quiet_on) | (go_big_quiet_want; refine quiet_load (w0 := wr) rfl rfl L3.out ?_; go_simp; go_big_quiet_on) | (go_big_quiet_step ((first | (go_at_call 35; with_reducible exact after_call _ (H1.out _)) | (go_at_call 35; with_reducible exact after_call _ (H2.out _)) | (go_at_call 35; with_reducible exact after_call _ (H3.out _))))))
    refine wpQuiet_nil ?_
    rintro wz ⟨⟨_, hB⟩, rfl⟩
    exact HQ.out wz _ _ _ _ _ _ _ _ _ _ _ _ _ _ _ _ _ _ _ _ _ hB
end Go.Proofs.YtpmfjombfcnhmaaGreatDoor
