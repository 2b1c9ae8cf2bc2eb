/-
  Layer 23: WeaveTurns: a round in which a job is picked.
-/
import Derived.Test.YtagcbihjejjmnaaWvT4
namespace Go.Proofs.Ytagcbihjejjmnaa
open Go.RowKit
set_option linter.unusedVariables false
set_option linter.unusedSimpArgs false

/-- A job was picked. -/
theorem wt_yes {W0 W w1 w2 : World} {p gl g11 g12 i s m : Nat} {xs : List Int} {vj : Value} {b : Nat → Nat} {J : List Jb} {la : Nat → Int} {op : Nat → Bool} {r r2 : Nat → Value} {j : Jb} (hT : TuI xs (hadJ J m) (fun s' => if s' = s then (m : Int) else la s') (fun s' => if s' = s then !decide (j.t ≤ j.h + 1) else op s')) (hj : J[m]? = some j) (hln : J.length = xs.length) (hra : ∀ s g, s < 5 → (r s).ownBlock = some g → g ≠ g11) (hgx : Blk W g11 3 (fiveZ la)) (hgy : Blk W g12 4 (fiveB op)) (hbel : Below W0.heap.size W0 W) (hge : W0.heap.size ≤ g11 ∧ W0.heap.size ≤ g12)
    (hb1 : Below W.heap.size W w1) (hw2 : WvAt w2 W0.heap.size p gl 5 (hadJ J m) (((i : Nat) : Int) + 1) vj b r2) (hk2 : WKeep PickT W0.heap.size w1 w2) (hr2 : ∀ s', (r2 s').ownBlock = (r s').ownBlock) :
    WtP W0 p gl g11 g12 w2.heap.size xs vj b i m s j J la op r2 (w2.alloc (.cells #[.int .i64 (m : Nat), .int .i64 (s : Nat), .bool (!begJ J s), .bool (decide (j.t ≤ j.h + 1))] 37)) := by
  have hb2 := below_box w2 (.cells #[.int .i64 (m : Nat), .int .i64 (s : Nat), .bool (!begJ J s), .bool (decide (j.t ≤ j.h + 1))] 37)
  have e1 : (((i : Nat) : Int) + 1) = ((i + 1 : Nat) : Int) := by omega
  rw [e1] at hw2
  have x1 := hk2.same _ _ _ (hgx.below hb1 hgx.lt) (by unfold PickT; decide)
  have y1 := hk2.same _ _ _ (hgy.below hb1 hgy.lt) (by unfold PickT; decide)
  have c1 := hw2.c m _ (had_get hj)
  exact ⟨hw2.below hb2, hT, hln, fun s' g hs' hg => hra s' g hs' (by rw [← hr2]; exact hg), x1.below hb2 x1.lt, y1.below hb2 y1.lt, Blk.new _ _ _, c1.below hb2 c1.lt, below_trans ((below_trans hbel hb1).trans hk2.below) hb2, hge⟩
theorem wt_h {W : World} {B p gl S s m : Nat} {J : List Jb} {k : Int} {vj : Value} {b : Nat → Nat} {r : Nat → Value} {l : List Nat} {j : Jb} (hp : pendJ J s = m :: l) (hj : J[m]? = some j) (h : WvAt W B p gl S J k vj b r) : j.h < j.t ∧ j.t ≤ 9223372036854775807 := by
  obtain ⟨j', q1, _, q3⟩ := pend_mem.1 (show m ∈ pendJ J s by rw [hp]; simp)
  rw [hj] at q1
  obtain rfl := Option.some.inj q1
  exact ⟨q3, h.tl j (List.mem_of_getElem? hj)⟩
theorem wt_s {s m : Nat} {J : List Jb} {l : List Nat} {j : Jb} (hp : pendJ J s = m :: l) (hj : J[m]? = some j) : j.s = s := by
  obtain ⟨j', q1, q2, _⟩ := pend_mem.1 (show m ∈ pendJ J s by rw [hp]; simp)
  rw [hj] at q1
  obtain rfl := Option.some.inj q1
  exact q2
theorem wt_b1 {s m : Nat} {J : List Jb} {l : List Nat} {j : Jb} {x : Int} (hp : pendJ J s = m :: l) (hj : J[m]? = some j) (hb : begJ J s = true) (hx : x = m) : 0 < j.h ∧ x = m := by
  rw [beg_cons hp hj] at hb
  exact ⟨of_decide_eq_true hb, hx⟩
theorem wt_b0 {s m : Nat} {J : List Jb} {l : List Nat} {j : Jb} {x : Int} (hp : pendJ J s = m :: l) (hj : J[m]? = some j) (hb : begJ J s = false) (hx : x < m) : j.h = 0 ∧ x < m := by
  rw [beg_cons hp hj] at hb
  have := of_decide_eq_false hb
  exact ⟨by omega, hx⟩
set_option maxHeartbeats 6400000 in
set_option maxRecDepth 100000 in
theorem wt_ry00 {W : World} {u1 u3 u4 u5 u6 u8 u9 u10 u14 u15 u16 u17 u18 u19 u20 u21 u22 u23 u24 u25 u26 u27 u28 u29 u30 u31 u32 u33 u34 u35 u36 u37 u38 u39 u40 u41 u42 u43 u44 u45 u46 u47 u48 u49 u50 u51 u52 u53 u54 u55 u56 u57 u58 u59 u60 u61 u62 u63 u64 u65 u66 u67 u68 u69 u70 u71 u72 u73 u74 u75 u76 u77 u78 u79 u80 u81 u82 u83 u84 u85 u86 u87 u88 u89 u90 u91 u92 u93 u94 u95 u96 u97 u98 u99 u100 u101 u102 u103 u104 u105 u106 u107 u108 u109 u110 u111 u112 u113 u114 u115 u116 u117 u118 u119 u120 u121 u122 u123 u124 u125 u126 u127 u128 u129 u130 u131 u132 u133 u134 u135 u136 u137 u138 u139 u140 u141 u142 u143 u144 u145 u146 u147 u148 u149 u150 u151 u152 u153 u154 u155 u156 u157 u158 u159 u160 u161 u162 u163 u164 u165 u166 u167 u168 u169 u170 u171 u172 u173 u174 u175 u176 u177 u178 u179 u180 u181 u182 u183 u184 u185 u186 u187 : Value} {Q : Exit → Act → World → Prop} {W0 : World} {p gl g11 g12 i c1 c3 : Nat} {A1 A3 : Option Addr} {xs ps : List Int} {vj : Value} {b : Nat → Nat} {J : List Jb} {la : Nat → Int} {op : Nat → Bool} {r : Nat → Value} (hw : WvAt W W0.heap.size p gl 5 J ((i : Nat) : Int) vj b r) (hT : TuI xs J la op) (hln : J.length = xs.length) (hra : ∀ s g, s < 5 → (r s).ownBlock = some g → g ≠ g11) (hgx : Blk W g11 3 (fiveZ la)) (hgy : Blk W g12 4 (fiveB op)) (hbel : Below W0.heap.size W0 W) (hge : W0.heap.size ≤ g11 ∧ W0.heap.size ≤ g12) (hx : Reads W0 W0.heap.size 1 A1 xs.length (xs.map intZ)) (hps : Reads W0 W0.heap.size 1 A3 ps.length (ps.map intZ)) (hi : i < ps.length) (hpl : ps.length ≤ 400) (hxl : xs.length ≤ 400) {s m : Nat} {l : List Nat} {j : Jb} (hsel : (canJ 5 J)[(ps.getD i 0 % ((canJ 5 J).length : Int)).toNat]? = some s) (hp : pendJ J s = m :: l) (hj : J[m]? = some j) (hbeg : begJ J s = false) (hend : decide (j.t ≤ j.h + 1) = false)
    (hX2 : ∀ (s6 s14 s15 s16 s17 s18 s69 s70 s71 s72 s73 s74 s75 s76 s77 s78 s79 s80 s81 s82 s83 s84 s85 s86 s87 s88 s89 s90 s91 s92 s93 s94 s95 s96 s97 s98 s99 s100 s101 s102 s103 s104 s105 s106 s107 s108 s109 s110 s111 s112 s113 s114 s115 s116 s117 s118 s119 s120 s121 s122 s123 s124 s125 s126 s127 s128 s129 s130 s131 s132 s133 s134 s135 s136 s137 s138 s139 s140 s141 s142 s143 s144 s145 s146 s147 s148 s149 s150 s151 s152 s153 s154 s155 s156 s157 s158 s159 s160 s161 s162 s163 s164 s165 s166 s167 s168 s169 s170 s171 s172 s173 s174 s175 s176 s177 s178 s179 s180 s181 s182 : Value) (W' : World), WtI W0 p gl g11 g12 xs vj b (i + 1) W' → Q (.normal) ⟨#[.slice A1 xs.length c1, u1, .slice A3 ps.length c3, u3, u4, u5, s6, .pointer (some ⟨p, 0, none⟩), u8, u9, u10, .slice (some ⟨g11, 0, none⟩) 5 5, .slice (some ⟨g12, 0, none⟩) 5 5, .int .i64 (i : Nat), s14, s15, s16, s17, s18, u19, u20, u21, u22, u23, u24, u25, u26, u27, u28, u29, u30, u31, u32, u33, u34, u35, u36, u37, u38, u39, u40, u41, u42, u43, u44, u45, u46, u47, u48, u49, u50, u51, u52, u53, u54, u55, u56, u57, u58, u59, u60, u61, u62, u63, u64, u65, u66, u67, u68, s69, s70, s71, s72, s73, s74, s75, s76, s77, s78, s79, s80, s81, s82, s83, s84, s85, s86, s87, s88, s89, s90, s91, s92, s93, s94, s95, s96, s97, s98, s99, s100, s101, s102, s103, s104, s105, s106, s107, s108, s109, s110, s111, s112, s113, s114, s115, s116, s117, s118, s119, s120, s121, s122, s123, s124, s125, s126, s127, s128, s129, s130, s131, s132, s133, s134, s135, s136, s137, s138, s139, s140, s141, s142, s143, s144, s145, s146, s147, s148, s149, s150, s151, s152, s153, s154, s155, s156, s157, s158, s159, s160, s161, s162, s163, s164, s165, s166, s167, s168, s169, s170, s171, s172, s173, s174, s175, s176, s177, s178, s179, s180, s181, s182, u183, u184, u185, u186, u187], []⟩ W') :
    Code.wp Try.prog (part Try.f3 [1, 1, 1, 1, 1, 1, 1, 1, 0, 1, 2, 2, 1, 0, 2]) Q ⟨#[.slice A1 xs.length c1, u1, .slice A3 ps.length c3, u3, u4, u5, u6, .pointer (some ⟨p, 0, none⟩), u8, u9, u10, .slice (some ⟨g11, 0, none⟩) 5 5, .slice (some ⟨g12, 0, none⟩) 5 5, .int .i64 (i : Nat), u14, u15, u16, u17, u18, u19, u20, u21, u22, u23, u24, u25, u26, u27, u28, u29, u30, u31, u32, u33, u34, u35, u36, u37, u38, u39, u40, u41, u42, u43, u44, u45, u46, u47, u48, u49, u50, u51, u52, u53, u54, u55, u56, u57, u58, u59, u60, u61, u62, u63, u64, u65, u66, u67, u68, u69, u70, u71, u72, u73, u74, u75, u76, u77, u78, u79, u80, u81, u82, u83, u84, u85, u86, u87, u88, u89, u90, u91, u92, u93, u94, u95, u96, u97, u98, u99, u100, u101, u102, u103, u104, u105, u106, u107, u108, u109, u110, u111, u112, u113, u114, u115, u116, u117, u118, u119, u120, u121, u122, u123, u124, u125, u126, u127, u128, u129, u130, u131, u132, u133, u134, u135, u136, u137, u138, u139, u140, u141, u142, u143, u144, u145, u146, u147, u148, u149, u150, u151, u152, u153, u154, u155, u156, u157, u158, u159, u160, u161, u162, u163, u164, u165, u166, u167, u168, u169, u170, u171, u172, u173, u174, u175, u176, u177, u178, u179, u180, u181, u182, u183, u184, u185, u186, u187], []⟩ W := by
  conv => arg 2; whnf
  have HX2 := Lib.hid hX2
  clear hX2
  have hmJ := pend_lt (show m ∈ pendJ J s by rw [hp]; simp)
  have hsS := (can_mem.1 (List.mem_of_getElem? hsel)).1
  have HTS := Lib.hid (And.intro (hT.step hp hj) (And.intro (fun h => hT.l1 s m l hp h) (And.intro (fun h => hT.l2 s h m (by rw [hp]; simp)) (And.intro (hT.ss m j hj) (hT.o s)))))
  have hN0 : 0 < (canJ 5 J).length := by have := (List.getElem?_eq_some_iff.1 hsel).1; omega
  obtain ⟨ad3, rfl, hab3, hc3⟩ := int_at (hps.below hbel) rfl hi
  have i1 : (0 : Int) ≤ (i : Int) := by omega
  have i2 : (i : Int) < (ps.length : Int) := by omega
  have HW := Lib.hid hw
  have HS := Lib.hid (And.intro hT (And.intro hln (And.intro hra (And.intro hgx (And.intro hgy (And.intro hbel hge))))))
  have HX := Lib.hid hx
  clear hw hT hln hra hgx hgy hbel hge hx hps
  generalize ps.getD i 0 = x at hc3 hsel
  refine wp_seq_k fun K0 hK => ?_
  have HK0 := Lib.hid hK
  clear hK
  go_wp2_with fail
  refine (Can_w HW.out).mono ?_
  rintro e w1 ⟨AC, cC, rfl, hoC, hb1⟩
  have c31 : w1.cell? (ad3.add i) = some (.int .i64 x) := (hb1.cell (p := ad3.add i) (by rw [block_of_add]; have := HS.out.2.2.2.2.2.1.size; omega)).trans hc3
  have H1 := Lib.hid (And.intro (HW.out.below hb1) hb1)
  clear hoC hb1 hc3
  go_wp2_with fail
  refine HK0.out _ _ ?_
  clear HK0
  have HN := Lib.hid (And.intro hsel (And.intro hp (And.intro hj (And.intro hbeg hend))))
  have hB1 : W0.heap.size ≤ w1.heap.size := Nat.le_trans HS.out.2.2.2.2.2.1.size H1.out.2.size
  generalize (canJ 5 J).length = N at hN0 ⊢
  have hN1 : (N : Int) > 0 := by omega
  clear hsel hp hj hbeg hend
  refine wp_seq_k fun K0 hK => ?_
  have HK0 := Lib.hid hK
  clear hK
  go_wp2_with fail
  refine (Pick_yes H1.out.1 (by omega) (by omega) hB1 HN.out.1 HN.out.2.1 HN.out.2.2.1).mono ?_
  rintro e w2 ⟨rfl, r2, hw2, hk2, hr2⟩
  have H2 := Lib.hid (wt_yes HTS.out.1 HN.out.2.2.1 HS.out.2.1 HS.out.2.2.1 HS.out.2.2.2.1 HS.out.2.2.2.2.1 HS.out.2.2.2.2.2.1 HS.out.2.2.2.2.2.2 H1.out.2 hw2 hk2 hr2)
  clear hw2 hk2 hr2 c31
  rw [HN.out.2.2.2.1, HN.out.2.2.2.2, show (!false) = true from rfl] at H2 ⊢
  go_wp2_with fail
  refine HK0.out _ _ ?_
  clear HK0
  generalize w2.alloc (.cells #[.int .i64 (m : Nat), .int .i64 (s : Nat), .bool true, .bool false] 37) = w3 at H2 ⊢
  obtain ⟨g15, hg15⟩ : ∃ g, w2.heap.size = g := ⟨_, rfl⟩
  rw [hg15] at H2 ⊢
  clear hg15
  have d0 : w3.cell? ⟨g15, 0, none⟩ = some (.int .i64 (m : Nat)) := H2.out.d.cell 0
  refine wp_seq_k fun K0 hK => ?_
  have HK0 := Lib.hid hK
  clear hK
  go_wp2_with fail
  refine HK0.out _ _ ?_
  clear HK0
  refine wp_seq_k fun K0 hK => ?_
  have HK0 := Lib.hid hK
  clear hK
  go_wp2_with fail
  refine HK0.out _ _ ?_
  clear HK0
  refine wp_seq_k fun K0 hK => ?_
  have HK0 := Lib.hid hK
  clear hK
  go_wp2_with fail
  refine (Job_yes H2.out.w (i := m) (by rw [had_len]; exact hmJ)).mono ?_
  rintro e w4 ⟨rfl, rfl⟩
  go_wp2_with fail
  refine HK0.out _ _ ?_
  clear HK0
  clear d0
  refine wp_seq_k fun K0 hK => ?_
  have HK0 := Lib.hid hK
  clear hK
  refine wt_c00 (h := j.h) (t := j.t) (la := la s) (by have := H2.out.d; rw [HN.out.2.2.2.1, HN.out.2.2.2.2] at this; exact this) (by rw [H2.out.y.cell, fiveB_at op hsS, HTS.out.2.2.2.2, HN.out.2.2.2.1]) (by rw [H2.out.x.cell]; exact fiveZ_at la hsS) H2.out.c (by have := HS.out.2.1; omega) ((HX.out.below H2.out.bel).more H2.out.bel.size) hsS (by rw [← HTS.out.2.2.2.1]; exact wt_s HN.out.2.1 HN.out.2.2.1) (wt_b0 HN.out.2.1 HN.out.2.2.1 HN.out.2.2.2.1 (HTS.out.2.2.1 HN.out.2.2.2.1)) (by have := HN.out.2.2.2.2; have := wt_h HN.out.2.1 HN.out.2.2.1 H1.out.1; have := of_decide_eq_false HN.out.2.2.2.2; omega) (by have := H2.out.w.tl; have := wt_h HN.out.2.1 HN.out.2.2.1 H1.out.1; omega) hxl ?_
  intro _ _ _ _ _ _ _ _ _ _ _ _ _ _ _ _ _ _ _ _ _ _ _ _ _ _ _ _ _ _ _ _ _ _ _ _ _ _ _ _ _ _ _ _ _ _ _ _ _ _ _ _ _ _ _ _ _ _ _ _ _ _ _ _ _ _ _ _ _ _ _ _ _ _ _ _ _ n5
  have H5 := Lib.hid (H2.out.below (below_drewn w3 n5))
  generalize w3.drewN n5 = w5 at H5 ⊢
  refine HK0.out _ _ ?_
  clear HK0
  have d0 : w5.cell? ⟨g15, 0, none⟩ = some (.int .i64 (m : Nat)) := H5.out.d.cell 0
  have d1 : w5.cell? ⟨g15, 1, none⟩ = some (.int .i64 (s : Nat)) := H5.out.d.cell 1
  have d3 : w5.cell? ⟨g15, 3, none⟩ = some (.bool false) := by rw [← HN.out.2.2.2.2]; exact H5.out.d.cell 3
  have e11 : w5.cell? ⟨g11, s, none⟩ = some (.int .i64 (la s)) := by rw [H5.out.x.cell]; exact fiveZ_at la hsS
  have e12 : w5.cell? ⟨g12, s, none⟩ = some (.bool (op s)) := by rw [H5.out.y.cell]; exact fiveB_at op hsS
  have f11 := H5.out.x.frozen s
  have f12 := H5.out.y.frozen s
  have j1 : (0 : Int) ≤ (s : Int) := by omega
  have j2 : (s : Int) < 5 := by omega
  have x1 : g11 ≠ g12 := blk_apart H5.out.x H5.out.y (by decide)
  have x2 : g11 ≠ g15 := blk_apart H5.out.x H5.out.d (by decide)
  have hF := H5.out.fin hsS
  rw [HN.out.2.2.2.2, show (!false) = true from rfl] at hF
  have HF := Lib.hid hF
  clear hF
  go_wp2_with fail
  exact HX2.out _ _ _ _ _ _ _ _ _ _ _ _ _ _ _ _ _ _ _ _ _ _ _ _ _ _ _ _ _ _ _ _ _ _ _ _ _ _ _ _ _ _ _ _ _ _ _ _ _ _ _ _ _ _ _ _ _ _ _ _ _ _ _ _ _ _ _ _ _ _ _ _ _ _ _ _ _ _ _ _ _ _ _ _ _ _ _ _ _ _ _ _ _ _ _ _ _ _ _ _ _ _ _ _ _ _ _ _ _ _ _ _ _ _ _ _ _ _ _ _ _ HF.out
set_option maxHeartbeats 6400000 in
set_option maxRecDepth 100000 in
theorem wt_ry01 {W : World} {u1 u3 u4 u5 u6 u8 u9 u10 u14 u15 u16 u17 u18 u19 u20 u21 u22 u23 u24 u25 u26 u27 u28 u29 u30 u31 u32 u33 u34 u35 u36 u37 u38 u39 u40 u41 u42 u43 u44 u45 u46 u47 u48 u49 u50 u51 u52 u53 u54 u55 u56 u57 u58 u59 u60 u61 u62 u63 u64 u65 u66 u67 u68 u69 u70 u71 u72 u73 u74 u75 u76 u77 u78 u79 u80 u81 u82 u83 u84 u85 u86 u87 u88 u89 u90 u91 u92 u93 u94 u95 u96 u97 u98 u99 u100 u101 u102 u103 u104 u105 u106 u107 u108 u109 u110 u111 u112 u113 u114 u115 u116 u117 u118 u119 u120 u121 u122 u123 u124 u125 u126 u127 u128 u129 u130 u131 u132 u133 u134 u135 u136 u137 u138 u139 u140 u141 u142 u143 u144 u145 u146 u147 u148 u149 u150 u151 u152 u153 u154 u155 u156 u157 u158 u159 u160 u161 u162 u163 u164 u165 u166 u167 u168 u169 u170 u171 u172 u173 u174 u175 u176 u177 u178 u179 u180 u181 u182 u183 u184 u185 u186 u187 : Value} {Q : Exit → Act → World → Prop} {W0 : World} {p gl g11 g12 i c1 c3 : Nat} {A1 A3 : Option Addr} {xs ps : List Int} {vj : Value} {b : Nat → Nat} {J : List Jb} {la : Nat → Int} {op : Nat → Bool} {r : Nat → Value} (hw : WvAt W W0.heap.size p gl 5 J ((i : Nat) : Int) vj b r) (hT : TuI xs J la op) (hln : J.length = xs.length) (hra : ∀ s g, s < 5 → (r s).ownBlock = some g → g ≠ g11) (hgx : Blk W g11 3 (fiveZ la)) (hgy : Blk W g12 4 (fiveB op)) (hbel : Below W0.heap.size W0 W) (hge : W0.heap.size ≤ g11 ∧ W0.heap.size ≤ g12) (hx : Reads W0 W0.heap.size 1 A1 xs.length (xs.map intZ)) (hps : Reads W0 W0.heap.size 1 A3 ps.length (ps.map intZ)) (hi : i < ps.length) (hpl : ps.length ≤ 400) (hxl : xs.length ≤ 400) {s m : Nat} {l : List Nat} {j : Jb} (hsel : (canJ 5 J)[(ps.getD i 0 % ((canJ 5 J).length : Int)).toNat]? = some s) (hp : pendJ J s = m :: l) (hj : J[m]? = some j) (hbeg : begJ J s = false) (hend : decide (j.t ≤ j.h + 1) = true)
    (hX2 : ∀ (s6 s14 s15 s16 s17 s18 s69 s70 s71 s72 s73 s74 s75 s76 s77 s78 s79 s80 s81 s82 s83 s84 s85 s86 s87 s88 s89 s90 s91 s92 s93 s94 s95 s96 s97 s98 s99 s100 s101 s102 s103 s104 s105 s106 s107 s108 s109 s110 s111 s112 s113 s114 s115 s116 s117 s118 s119 s120 s121 s122 s123 s124 s125 s126 s127 s128 s129 s130 s131 s132 s133 s134 s135 s136 s137 s138 s139 s140 s141 s142 s143 s144 s145 s146 s147 s148 s149 s150 s151 s152 s153 s154 s155 s156 s157 s158 s159 s160 s161 s162 s163 s164 s165 s166 s167 s168 s169 s170 s171 s172 s173 s174 s175 s176 s177 s178 s179 s180 s181 s182 : Value) (W' : World), WtI W0 p gl g11 g12 xs vj b (i + 1) W' → Q (.normal) ⟨#[.slice A1 xs.length c1, u1, .slice A3 ps.length c3, u3, u4, u5, s6, .pointer (some ⟨p, 0, none⟩), u8, u9, u10, .slice (some ⟨g11, 0, none⟩) 5 5, .slice (some ⟨g12, 0, none⟩) 5 5, .int .i64 (i : Nat), s14, s15, s16, s17, s18, u19, u20, u21, u22, u23, u24, u25, u26, u27, u28, u29, u30, u31, u32, u33, u34, u35, u36, u37, u38, u39, u40, u41, u42, u43, u44, u45, u46, u47, u48, u49, u50, u51, u52, u53, u54, u55, u56, u57, u58, u59, u60, u61, u62, u63, u64, u65, u66, u67, u68, s69, s70, s71, s72, s73, s74, s75, s76, s77, s78, s79, s80, s81, s82, s83, s84, s85, s86, s87, s88, s89, s90, s91, s92, s93, s94, s95, s96, s97, s98, s99, s100, s101, s102, s103, s104, s105, s106, s107, s108, s109, s110, s111, s112, s113, s114, s115, s116, s117, s118, s119, s120, s121, s122, s123, s124, s125, s126, s127, s128, s129, s130, s131, s132, s133, s134, s135, s136, s137, s138, s139, s140, s141, s142, s143, s144, s145, s146, s147, s148, s149, s150, s151, s152, s153, s154, s155, s156, s157, s158, s159, s160, s161, s162, s163, s164, s165, s166, s167, s168, s169, s170, s171, s172, s173, s174, s175, s176, s177, s178, s179, s180, s181, s182, u183, u184, u185, u186, u187], []⟩ W') :
    Code.wp Try.prog (part Try.f3 [1, 1, 1, 1, 1, 1, 1, 1, 0, 1, 2, 2, 1, 0, 2]) Q ⟨#[.slice A1 xs.length c1, u1, .slice A3 ps.length c3, u3, u4, u5, u6, .pointer (some ⟨p, 0, none⟩), u8, u9, u10, .slice (some ⟨g11, 0, none⟩) 5 5, .slice (some ⟨g12, 0, none⟩) 5 5, .int .i64 (i : Nat), u14, u15, u16, u17, u18, u19, u20, u21, u22, u23, u24, u25, u26, u27, u28, u29, u30, u31, u32, u33, u34, u35, u36, u37, u38, u39, u40, u41, u42, u43, u44, u45, u46, u47, u48, u49, u50, u51, u52, u53, u54, u55, u56, u57, u58, u59, u60, u61, u62, u63, u64, u65, u66, u67, u68, u69, u70, u71, u72, u73, u74, u75, u76, u77, u78, u79, u80, u81, u82, u83, u84, u85, u86, u87, u88, u89, u90, u91, u92, u93, u94, u95, u96, u97, u98, u99, u100, u101, u102, u103, u104, u105, u106, u107, u108, u109, u110, u111, u112, u113, u114, u115, u116, u117, u118, u119, u120, u121, u122, u123, u124, u125, u126, u127, u128, u129, u130, u131, u132, u133, u134, u135, u136, u137, u138, u139, u140, u141, u142, u143, u144, u145, u146, u147, u148, u149, u150, u151, u152, u153, u154, u155, u156, u157, u158, u159, u160, u161, u162, u163, u164, u165, u166, u167, u168, u169, u170, u171, u172, u173, u174, u175, u176, u177, u178, u179, u180, u181, u182, u183, u184, u185, u186, u187], []⟩ W := by
  conv => arg 2; whnf
  have HX2 := Lib.hid hX2
  clear hX2
  have hmJ := pend_lt (show m ∈ pendJ J s by rw [hp]; simp)
  have hsS := (can_mem.1 (List.mem_of_getElem? hsel)).1
  have HTS := Lib.hid (And.intro (hT.step hp hj) (And.intro (fun h => hT.l1 s m l hp h) (And.intro (fun h => hT.l2 s h m (by rw [hp]; simp)) (And.intro (hT.ss m j hj) (hT.o s)))))
  have hN0 : 0 < (canJ 5 J).length := by have := (List.getElem?_eq_some_iff.1 hsel).1; omega
  obtain ⟨ad3, rfl, hab3, hc3⟩ := int_at (hps.below hbel) rfl hi
  have i1 : (0 : Int) ≤ (i : Int) := by omega
  have i2 : (i : Int) < (ps.length : Int) := by omega
  have HW := Lib.hid hw
  have HS := Lib.hid (And.intro hT (And.intro hln (And.intro hra (And.intro hgx (And.intro hgy (And.intro hbel hge))))))
  have HX := Lib.hid hx
  clear hw hT hln hra hgx hgy hbel hge hx hps
  generalize ps.getD i 0 = x at hc3 hsel
  refine wp_seq_k fun K0 hK => ?_
  have HK0 := Lib.hid hK
  clear hK
  go_wp2_with fail
  refine (Can_w HW.out).mono ?_
  rintro e w1 ⟨AC, cC, rfl, hoC, hb1⟩
  have c31 : w1.cell? (ad3.add i) = some (.int .i64 x) := (hb1.cell (p := ad3.add i) (by rw [block_of_add]; have := HS.out.2.2.2.2.2.1.size; omega)).trans hc3
  have H1 := Lib.hid (And.intro (HW.out.below hb1) hb1)
  clear hoC hb1 hc3
  go_wp2_with fail
  refine HK0.out _ _ ?_
  clear HK0
  have HN := Lib.hid (And.intro hsel (And.intro hp (And.intro hj (And.intro hbeg hend))))
  have hB1 : W0.heap.size ≤ w1.heap.size := Nat.le_trans HS.out.2.2.2.2.2.1.size H1.out.2.size
  generalize (canJ 5 J).length = N at hN0 ⊢
  have hN1 : (N : Int) > 0 := by omega
  clear hsel hp hj hbeg hend
  refine wp_seq_k fun K0 hK => ?_
  have HK0 := Lib.hid hK
  clear hK
  go_wp2_with fail
  refine (Pick_yes H1.out.1 (by omega) (by omega) hB1 HN.out.1 HN.out.2.1 HN.out.2.2.1).mono ?_
  rintro e w2 ⟨rfl, r2, hw2, hk2, hr2⟩
  have H2 := Lib.hid (wt_yes HTS.out.1 HN.out.2.2.1 HS.out.2.1 HS.out.2.2.1 HS.out.2.2.2.1 HS.out.2.2.2.2.1 HS.out.2.2.2.2.2.1 HS.out.2.2.2.2.2.2 H1.out.2 hw2 hk2 hr2)
  clear hw2 hk2 hr2 c31
  rw [HN.out.2.2.2.1, HN.out.2.2.2.2, show (!false) = true from rfl] at H2 ⊢
  go_wp2_with fail
  refine HK0.out _ _ ?_
  clear HK0
  generalize w2.alloc (.cells #[.int .i64 (m : Nat), .int .i64 (s : Nat), .bool true, .bool true] 37) = w3 at H2 ⊢
  obtain ⟨g15, hg15⟩ : ∃ g, w2.heap.size = g := ⟨_, rfl⟩
  rw [hg15] at H2 ⊢
  clear hg15
  have d0 : w3.cell? ⟨g15, 0, none⟩ = some (.int .i64 (m : Nat)) := H2.out.d.cell 0
  refine wp_seq_k fun K0 hK => ?_
  have HK0 := Lib.hid hK
  clear hK
  go_wp2_with fail
  refine HK0.out _ _ ?_
  clear HK0
  refine wp_seq_k fun K0 hK => ?_
  have HK0 := Lib.hid hK
  clear hK
  go_wp2_with fail
  refine HK0.out _ _ ?_
  clear HK0
  refine wp_seq_k fun K0 hK => ?_
  have HK0 := Lib.hid hK
  clear hK
  go_wp2_with fail
  refine (Job_yes H2.out.w (i := m) (by rw [had_len]; exact hmJ)).mono ?_
  rintro e w4 ⟨rfl, rfl⟩
  go_wp2_with fail
  refine HK0.out _ _ ?_
  clear HK0
  clear d0
  refine wp_seq_k fun K0 hK => ?_
  have HK0 := Lib.hid hK
  clear hK
  refine wt_c01 (h := j.h) (t := j.t) (la := la s) (by have := H2.out.d; rw [HN.out.2.2.2.1, HN.out.2.2.2.2] at this; exact this) (by rw [H2.out.y.cell, fiveB_at op hsS, HTS.out.2.2.2.2, HN.out.2.2.2.1]) (by rw [H2.out.x.cell]; exact fiveZ_at la hsS) H2.out.c (by have := HS.out.2.1; omega) ((HX.out.below H2.out.bel).more H2.out.bel.size) hsS (by rw [← HTS.out.2.2.2.1]; exact wt_s HN.out.2.1 HN.out.2.2.1) (wt_b0 HN.out.2.1 HN.out.2.2.1 HN.out.2.2.2.1 (HTS.out.2.2.1 HN.out.2.2.2.1)) (by have := HN.out.2.2.2.2; have := wt_h HN.out.2.1 HN.out.2.2.1 H1.out.1; have := of_decide_eq_true HN.out.2.2.2.2; omega) (by have := H2.out.w.tl; have := wt_h HN.out.2.1 HN.out.2.2.1 H1.out.1; omega) hxl ?_
  intro _ _ _ _ _ _ _ _ _ _ _ _ _ _ _ _ _ _ _ _ _ _ _ _ _ _ _ _ _ _ _ _ _ _ _ _ _ _ _ _ _ _ _ _ _ _ _ _ _ _ _ _ _ _ _ _ _ _ _ _ _ _ _ _ _ _ _ _ _ _ _ _ _ _ _ _ _ n5
  have H5 := Lib.hid (H2.out.below (below_drewn w3 n5))
  generalize w3.drewN n5 = w5 at H5 ⊢
  refine HK0.out _ _ ?_
  clear HK0
  have d0 : w5.cell? ⟨g15, 0, none⟩ = some (.int .i64 (m : Nat)) := H5.out.d.cell 0
  have d1 : w5.cell? ⟨g15, 1, none⟩ = some (.int .i64 (s : Nat)) := H5.out.d.cell 1
  have d3 : w5.cell? ⟨g15, 3, none⟩ = some (.bool true) := by rw [← HN.out.2.2.2.2]; exact H5.out.d.cell 3
  have e11 : w5.cell? ⟨g11, s, none⟩ = some (.int .i64 (la s)) := by rw [H5.out.x.cell]; exact fiveZ_at la hsS
  have e12 : w5.cell? ⟨g12, s, none⟩ = some (.bool (op s)) := by rw [H5.out.y.cell]; exact fiveB_at op hsS
  have f11 := H5.out.x.frozen s
  have f12 := H5.out.y.frozen s
  have j1 : (0 : Int) ≤ (s : Int) := by omega
  have j2 : (s : Int) < 5 := by omega
  have x1 : g11 ≠ g12 := blk_apart H5.out.x H5.out.y (by decide)
  have x2 : g11 ≠ g15 := blk_apart H5.out.x H5.out.d (by decide)
  have hF := H5.out.fin hsS
  rw [HN.out.2.2.2.2, show (!true) = false from rfl] at hF
  have HF := Lib.hid hF
  clear hF
  go_wp2_with fail
  exact HX2.out _ _ _ _ _ _ _ _ _ _ _ _ _ _ _ _ _ _ _ _ _ _ _ _ _ _ _ _ _ _ _ _ _ _ _ _ _ _ _ _ _ _ _ _ _ _ _ _ _ _ _ _ _ _ _ _ _ _ _ _ _ _ _ _ _ _ _ _ _ _ _ _ _ _ _ _ _ _ _ _ _ _ _ _ _ _ _ _ _ _ _ _ _ _ _ _ _ _ _ _ _ _ _ _ _ _ _ _ _ _ _ _ _ _ _ _ _ _ _ _ _ HF.out
set_option maxHeartbeats 6400000 in
set_option maxRecDepth 100000 in
theorem wt_ry10 {W : World} {u1 u3 u4 u5 u6 u8 u9 u10 u14 u15 u16 u17 u18 u19 u20 u21 u22 u23 u24 u25 u26 u27 u28 u29 u30 u31 u32 u33 u34 u35 u36 u37 u38 u39 u40 u41 u42 u43 u44 u45 u46 u47 u48 u49 u50 u51 u52 u53 u54 u55 u56 u57 u58 u59 u60 u61 u62 u63 u64 u65 u66 u67 u68 u69 u70 u71 u72 u73 u74 u75 u76 u77 u78 u79 u80 u81 u82 u83 u84 u85 u86 u87 u88 u89 u90 u91 u92 u93 u94 u95 u96 u97 u98 u99 u100 u101 u102 u103 u104 u105 u106 u107 u108 u109 u110 u111 u112 u113 u114 u115 u116 u117 u118 u119 u120 u121 u122 u123 u124 u125 u126 u127 u128 u129 u130 u131 u132 u133 u134 u135 u136 u137 u138 u139 u140 u141 u142 u143 u144 u145 u146 u147 u148 u149 u150 u151 u152 u153 u154 u155 u156 u157 u158 u159 u160 u161 u162 u163 u164 u165 u166 u167 u168 u169 u170 u171 u172 u173 u174 u175 u176 u177 u178 u179 u180 u181 u182 u183 u184 u185 u186 u187 : Value} {Q : Exit → Act → World → Prop} {W0 : World} {p gl g11 g12 i c1 c3 : Nat} {A1 A3 : Option Addr} {xs ps : List Int} {vj : Value} {b : Nat → Nat} {J : List Jb} {la : Nat → Int} {op : Nat → Bool} {r : Nat → Value} (hw : WvAt W W0.heap.size p gl 5 J ((i : Nat) : Int) vj b r) (hT : TuI xs J la op) (hln : J.length = xs.length) (hra : ∀ s g, s < 5 → (r s).ownBlock = some g → g ≠ g11) (hgx : Blk W g11 3 (fiveZ la)) (hgy : Blk W g12 4 (fiveB op)) (hbel : Below W0.heap.size W0 W) (hge : W0.heap.size ≤ g11 ∧ W0.heap.size ≤ g12) (hx : Reads W0 W0.heap.size 1 A1 xs.length (xs.map intZ)) (hps : Reads W0 W0.heap.size 1 A3 ps.length (ps.map intZ)) (hi : i < ps.length) (hpl : ps.length ≤ 400) (hxl : xs.length ≤ 400) {s m : Nat} {l : List Nat} {j : Jb} (hsel : (canJ 5 J)[(ps.getD i 0 % ((canJ 5 J).length : Int)).toNat]? = some s) (hp : pendJ J s = m :: l) (hj : J[m]? = some j) (hbeg : begJ J s = true) (hend : decide (j.t ≤ j.h + 1) = false)
    (hX2 : ∀ (s6 s14 s15 s16 s17 s18 s69 s70 s71 s72 s73 s74 s75 s76 s77 s78 s79 s80 s81 s82 s83 s84 s85 s86 s87 s88 s89 s90 s91 s92 s93 s94 s95 s96 s97 s98 s99 s100 s101 s102 s103 s104 s105 s106 s107 s108 s109 s110 s111 s112 s113 s114 s115 s116 s117 s118 s119 s120 s121 s122 s123 s124 s125 s126 s127 s128 s129 s130 s131 s132 s133 s134 s135 s136 s137 s138 s139 s140 s141 s142 s143 s144 s145 s146 s147 s148 s149 s150 s151 s152 s153 s154 s155 s156 s157 s158 s159 s160 s161 s162 s163 s164 s165 s166 s167 s168 s169 s170 s171 s172 s173 s174 s175 s176 s177 s178 s179 s180 s181 s182 : Value) (W' : World), WtI W0 p gl g11 g12 xs vj b (i + 1) W' → Q (.normal) ⟨#[.slice A1 xs.length c1, u1, .slice A3 ps.length c3, u3, u4, u5, s6, .pointer (some ⟨p, 0, none⟩), u8, u9, u10, .slice (some ⟨g11, 0, none⟩) 5 5, .slice (some ⟨g12, 0, none⟩) 5 5, .int .i64 (i : Nat), s14, s15, s16, s17, s18, u19, u20, u21, u22, u23, u24, u25, u26, u27, u28, u29, u30, u31, u32, u33, u34, u35, u36, u37, u38, u39, u40, u41, u42, u43, u44, u45, u46, u47, u48, u49, u50, u51, u52, u53, u54, u55, u56, u57, u58, u59, u60, u61, u62, u63, u64, u65, u66, u67, u68, s69, s70, s71, s72, s73, s74, s75, s76, s77, s78, s79, s80, s81, s82, s83, s84, s85, s86, s87, s88, s89, s90, s91, s92, s93, s94, s95, s96, s97, s98, s99, s100, s101, s102, s103, s104, s105, s106, s107, s108, s109, s110, s111, s112, s113, s114, s115, s116, s117, s118, s119, s120, s121, s122, s123, s124, s125, s126, s127, s128, s129, s130, s131, s132, s133, s134, s135, s136, s137, s138, s139, s140, s141, s142, s143, s144, s145, s146, s147, s148, s149, s150, s151, s152, s153, s154, s155, s156, s157, s158, s159, s160, s161, s162, s163, s164, s165, s166, s167, s168, s169, s170, s171, s172, s173, s174, s175, s176, s177, s178, s179, s180, s181, s182, u183, u184, u185, u186, u187], []⟩ W') :
    Code.wp Try.prog (part Try.f3 [1, 1, 1, 1, 1, 1, 1, 1, 0, 1, 2, 2, 1, 0, 2]) Q ⟨#[.slice A1 xs.length c1, u1, .slice A3 ps.length c3, u3, u4, u5, u6, .pointer (some ⟨p, 0, none⟩), u8, u9, u10, .slice (some ⟨g11, 0, none⟩) 5 5, .slice (some ⟨g12, 0, none⟩) 5 5, .int .i64 (i : Nat), u14, u15, u16, u17, u18, u19, u20, u21, u22, u23, u24, u25, u26, u27, u28, u29, u30, u31, u32, u33, u34, u35, u36, u37, u38, u39, u40, u41, u42, u43, u44, u45, u46, u47, u48, u49, u50, u51, u52, u53, u54, u55, u56, u57, u58, u59, u60, u61, u62, u63, u64, u65, u66, u67, u68, u69, u70, u71, u72, u73, u74, u75, u76, u77, u78, u79, u80, u81, u82, u83, u84, u85, u86, u87, u88, u89, u90, u91, u92, u93, u94, u95, u96, u97, u98, u99, u100, u101, u102, u103, u104, u105, u106, u107, u108, u109, u110, u111, u112, u113, u114, u115, u116, u117, u118, u119, u120, u121, u122, u123, u124, u125, u126, u127, u128, u129, u130, u131, u132, u133, u134, u135, u136, u137, u138, u139, u140, u141, u142, u143, u144, u145, u146, u147, u148, u149, u150, u151, u152, u153, u154, u155, u156, u157, u158, u159, u160, u161, u162, u163, u164, u165, u166, u167, u168, u169, u170, u171, u172, u173, u174, u175, u176, u177, u178, u179, u180, u181, u182, u183, u184, u185, u186, u187], []⟩ W := by
  conv => arg 2; whnf
  have HX2 := Lib.hid hX2
  clear hX2
  have hmJ := pend_lt (show m ∈ pendJ J s by rw [hp]; simp)
  have hsS := (can_mem.1 (List.mem_of_getElem? hsel)).1
  have HTS := Lib.hid (And.intro (hT.step hp hj) (And.intro (fun h => hT.l1 s m l hp h) (And.intro (fun h => hT.l2 s h m (by rw [hp]; simp)) (And.intro (hT.ss m j hj) (hT.o s)))))
  have hN0 : 0 < (canJ 5 J).length := by have := (List.getElem?_eq_some_iff.1 hsel).1; omega
  obtain ⟨ad3, rfl, hab3, hc3⟩ := int_at (hps.below hbel) rfl hi
  have i1 : (0 : Int) ≤ (i : Int) := by omega
  have i2 : (i : Int) < (ps.length : Int) := by omega
  have HW := Lib.hid hw
  have HS := Lib.hid (And.intro hT (And.intro hln (And.intro hra (And.intro hgx (And.intro hgy (And.intro hbel hge))))))
  have HX := Lib.hid hx
  clear hw hT hln hra hgx hgy hbel hge hx hps
  generalize ps.getD i 0 = x at hc3 hsel
  refine wp_seq_k fun K0 hK => ?_
  have HK0 := Lib.hid hK
  clear hK
  go_wp2_with fail
  refine (Can_w HW.out).mono ?_
  rintro e w1 ⟨AC, cC, rfl, hoC, hb1⟩
  have c31 : w1.cell? (ad3.add i) = some (.int .i64 x) := (hb1.cell (p := ad3.add i) (by rw [block_of_add]; have := HS.out.2.2.2.2.2.1.size; omega)).trans hc3
  have H1 := Lib.hid (And.intro (HW.out.below hb1) hb1)
  clear hoC hb1 hc3
  go_wp2_with fail
  refine HK0.out _ _ ?_
  clear HK0
  have HN := Lib.hid (And.intro hsel (And.intro hp (And.intro hj (And.intro hbeg hend))))
  have hB1 : W0.heap.size ≤ w1.heap.size := Nat.le_trans HS.out.2.2.2.2.2.1.size H1.out.2.size
  generalize (canJ 5 J).length = N at hN0 ⊢
  have hN1 : (N : Int) > 0 := by omega
  clear hsel hp hj hbeg hend
  refine wp_seq_k fun K0 hK => ?_
  have HK0 := Lib.hid hK
  clear hK
  go_wp2_with fail
  refine (Pick_yes H1.out.1 (by omega) (by omega) hB1 HN.out.1 HN.out.2.1 HN.out.2.2.1).mono ?_
  rintro e w2 ⟨rfl, r2, hw2, hk2, hr2⟩
  have H2 := Lib.hid (wt_yes HTS.out.1 HN.out.2.2.1 HS.out.2.1 HS.out.2.2.1 HS.out.2.2.2.1 HS.out.2.2.2.2.1 HS.out.2.2.2.2.2.1 HS.out.2.2.2.2.2.2 H1.out.2 hw2 hk2 hr2)
  clear hw2 hk2 hr2 c31
  rw [HN.out.2.2.2.1, HN.out.2.2.2.2, show (!true) = false from rfl] at H2 ⊢
  go_wp2_with fail
  refine HK0.out _ _ ?_
  clear HK0
  generalize w2.alloc (.cells #[.int .i64 (m : Nat), .int .i64 (s : Nat), .bool false, .bool false] 37) = w3 at H2 ⊢
  obtain ⟨g15, hg15⟩ : ∃ g, w2.heap.size = g := ⟨_, rfl⟩
  rw [hg15] at H2 ⊢
  clear hg15
  have d0 : w3.cell? ⟨g15, 0, none⟩ = some (.int .i64 (m : Nat)) := H2.out.d.cell 0
  refine wp_seq_k fun K0 hK => ?_
  have HK0 := Lib.hid hK
  clear hK
  go_wp2_with fail
  refine HK0.out _ _ ?_
  clear HK0
  refine wp_seq_k fun K0 hK => ?_
  have HK0 := Lib.hid hK
  clear hK
  go_wp2_with fail
  refine HK0.out _ _ ?_
  clear HK0
  refine wp_seq_k fun K0 hK => ?_
  have HK0 := Lib.hid hK
  clear hK
  go_wp2_with fail
  refine (Job_yes H2.out.w (i := m) (by rw [had_len]; exact hmJ)).mono ?_
  rintro e w4 ⟨rfl, rfl⟩
  go_wp2_with fail
  refine HK0.out _ _ ?_
  clear HK0
  clear d0
  refine wp_seq_k fun K0 hK => ?_
  have HK0 := Lib.hid hK
  clear hK
  refine wt_c10 (h := j.h) (t := j.t) (la := la s) (by have := H2.out.d; rw [HN.out.2.2.2.1, HN.out.2.2.2.2] at this; exact this) (by rw [H2.out.y.cell, fiveB_at op hsS, HTS.out.2.2.2.2, HN.out.2.2.2.1]) (by rw [H2.out.x.cell]; exact fiveZ_at la hsS) H2.out.c (by have := HS.out.2.1; omega) ((HX.out.below H2.out.bel).more H2.out.bel.size) hsS (by rw [← HTS.out.2.2.2.1]; exact wt_s HN.out.2.1 HN.out.2.2.1) (wt_b1 HN.out.2.1 HN.out.2.2.1 HN.out.2.2.2.1 (HTS.out.2.1 HN.out.2.2.2.1)) (by have := HN.out.2.2.2.2; have := wt_h HN.out.2.1 HN.out.2.2.1 H1.out.1; have := of_decide_eq_false HN.out.2.2.2.2; omega) (by have := H2.out.w.tl; have := wt_h HN.out.2.1 HN.out.2.2.1 H1.out.1; omega) hxl ?_
  intro _ _ _ _ _ _ _ _ _ _ _ _ _ _ _ _ _ _ _ _ _ _ _ _ _ _ _ _ _ _ _ _ _ _ _ _ _ _ _ _ _ _ _ _ _ _ _ _ _ _ _ _ _ _ _ _ _ _ _ _ _ _ _ _ _ _ _ _ _ _ _ _ _ _ _ _ _ n5
  have H5 := Lib.hid (H2.out.below (below_drewn w3 n5))
  generalize w3.drewN n5 = w5 at H5 ⊢
  refine HK0.out _ _ ?_
  clear HK0
  have d0 : w5.cell? ⟨g15, 0, none⟩ = some (.int .i64 (m : Nat)) := H5.out.d.cell 0
  have d1 : w5.cell? ⟨g15, 1, none⟩ = some (.int .i64 (s : Nat)) := H5.out.d.cell 1
  have d3 : w5.cell? ⟨g15, 3, none⟩ = some (.bool false) := by rw [← HN.out.2.2.2.2]; exact H5.out.d.cell 3
  have e11 : w5.cell? ⟨g11, s, none⟩ = some (.int .i64 (la s)) := by rw [H5.out.x.cell]; exact fiveZ_at la hsS
  have e12 : w5.cell? ⟨g12, s, none⟩ = some (.bool (op s)) := by rw [H5.out.y.cell]; exact fiveB_at op hsS
  have f11 := H5.out.x.frozen s
  have f12 := H5.out.y.frozen s
  have j1 : (0 : Int) ≤ (s : Int) := by omega
  have j2 : (s : Int) < 5 := by omega
  have x1 : g11 ≠ g12 := blk_apart H5.out.x H5.out.y (by decide)
  have x2 : g11 ≠ g15 := blk_apart H5.out.x H5.out.d (by decide)
  have hF := H5.out.fin hsS
  rw [HN.out.2.2.2.2, show (!false) = true from rfl] at hF
  have HF := Lib.hid hF
  clear hF
  go_wp2_with fail
  exact HX2.out _ _ _ _ _ _ _ _ _ _ _ _ _ _ _ _ _ _ _ _ _ _ _ _ _ _ _ _ _ _ _ _ _ _ _ _ _ _ _ _ _ _ _ _ _ _ _ _ _ _ _ _ _ _ _ _ _ _ _ _ _ _ _ _ _ _ _ _ _ _ _ _ _ _ _ _ _ _ _ _ _ _ _ _ _ _ _ _ _ _ _ _ _ _ _ _ _ _ _ _ _ _ _ _ _ _ _ _ _ _ _ _ _ _ _ _ _ _ _ _ _ HF.out
set_option maxHeartbeats 6400000 in
set_option maxRecDepth 100000 in
theorem wt_ry11 {W : World} {u1 u3 u4 u5 u6 u8 u9 u10 u14 u15 u16 u17 u18 u19 u20 u21 u22 u23 u24 u25 u26 u27 u28 u29 u30 u31 u32 u33 u34 u35 u36 u37 u38 u39 u40 u41 u42 u43 u44 u45 u46 u47 u48 u49 u50 u51 u52 u53 u54 u55 u56 u57 u58 u59 u60 u61 u62 u63 u64 u65 u66 u67 u68 u69 u70 u71 u72 u73 u74 u75 u76 u77 u78 u79 u80 u81 u82 u83 u84 u85 u86 u87 u88 u89 u90 u91 u92 u93 u94 u95 u96 u97 u98 u99 u100 u101 u102 u103 u104 u105 u106 u107 u108 u109 u110 u111 u112 u113 u114 u115 u116 u117 u118 u119 u120 u121 u122 u123 u124 u125 u126 u127 u128 u129 u130 u131 u132 u133 u134 u135 u136 u137 u138 u139 u140 u141 u142 u143 u144 u145 u146 u147 u148 u149 u150 u151 u152 u153 u154 u155 u156 u157 u158 u159 u160 u161 u162 u163 u164 u165 u166 u167 u168 u169 u170 u171 u172 u173 u174 u175 u176 u177 u178 u179 u180 u181 u182 u183 u184 u185 u186 u187 : Value} {Q : Exit → Act → World → Prop} {W0 : World} {p gl g11 g12 i c1 c3 : Nat} {A1 A3 : Option Addr} {xs ps : List Int} {vj : Value} {b : Nat → Nat} {J : List Jb} {la : Nat → Int} {op : Nat → Bool} {r : Nat → Value} (hw : WvAt W W0.heap.size p gl 5 J ((i : Nat) : Int) vj b r) (hT : TuI xs J la op) (hln : J.length = xs.length) (hra : ∀ s g, s < 5 → (r s).ownBlock = some g → g ≠ g11) (hgx : Blk W g11 3 (fiveZ la)) (hgy : Blk W g12 4 (fiveB op)) (hbel : Below W0.heap.size W0 W) (hge : W0.heap.size ≤ g11 ∧ W0.heap.size ≤ g12) (hx : Reads W0 W0.heap.size 1 A1 xs.length (xs.map intZ)) (hps : Reads W0 W0.heap.size 1 A3 ps.length (ps.map intZ)) (hi : i < ps.length) (hpl : ps.length ≤ 400) (hxl : xs.length ≤ 400) {s m : Nat} {l : List Nat} {j : Jb} (hsel : (canJ 5 J)[(ps.getD i 0 % ((canJ 5 J).length : Int)).toNat]? = some s) (hp : pendJ J s = m :: l) (hj : J[m]? = some j) (hbeg : begJ J s = true) (hend : decide (j.t ≤ j.h + 1) = true)
    (hX2 : ∀ (s6 s14 s15 s16 s17 s18 s69 s70 s71 s72 s73 s74 s75 s76 s77 s78 s79 s80 s81 s82 s83 s84 s85 s86 s87 s88 s89 s90 s91 s92 s93 s94 s95 s96 s97 s98 s99 s100 s101 s102 s103 s104 s105 s106 s107 s108 s109 s110 s111 s112 s113 s114 s115 s116 s117 s118 s119 s120 s121 s122 s123 s124 s125 s126 s127 s128 s129 s130 s131 s132 s133 s134 s135 s136 s137 s138 s139 s140 s141 s142 s143 s144 s145 s146 s147 s148 s149 s150 s151 s152 s153 s154 s155 s156 s157 s158 s159 s160 s161 s162 s163 s164 s165 s166 s167 s168 s169 s170 s171 s172 s173 s174 s175 s176 s177 s178 s179 s180 s181 s182 : Value) (W' : World), WtI W0 p gl g11 g12 xs vj b (i + 1) W' → Q (.normal) ⟨#[.slice A1 xs.length c1, u1, .slice A3 ps.length c3, u3, u4, u5, s6, .pointer (some ⟨p, 0, none⟩), u8, u9, u10, .slice (some ⟨g11, 0, none⟩) 5 5, .slice (some ⟨g12, 0, none⟩) 5 5, .int .i64 (i : Nat), s14, s15, s16, s17, s18, u19, u20, u21, u22, u23, u24, u25, u26, u27, u28, u29, u30, u31, u32, u33, u34, u35, u36, u37, u38, u39, u40, u41, u42, u43, u44, u45, u46, u47, u48, u49, u50, u51, u52, u53, u54, u55, u56, u57, u58, u59, u60, u61, u62, u63, u64, u65, u66, u67, u68, s69, s70, s71, s72, s73, s74, s75, s76, s77, s78, s79, s80, s81, s82, s83, s84, s85, s86, s87, s88, s89, s90, s91, s92, s93, s94, s95, s96, s97, s98, s99, s100, s101, s102, s103, s104, s105, s106, s107, s108, s109, s110, s111, s112, s113, s114, s115, s116, s117, s118, s119, s120, s121, s122, s123, s124, s125, s126, s127, s128, s129, s130, s131, s132, s133, s134, s135, s136, s137, s138, s139, s140, s141, s142, s143, s144, s145, s146, s147, s148, s149, s150, s151, s152, s153, s154, s155, s156, s157, s158, s159, s160, s161, s162, s163, s164, s165, s166, s167, s168, s169, s170, s171, s172, s173, s174, s175, s176, s177, s178, s179, s180, s181, s182, u183, u184, u185, u186, u187], []⟩ W') :
    Code.wp Try.prog (part Try.f3 [1, 1, 1, 1, 1, 1, 1, 1, 0, 1, 2, 2, 1, 0, 2]) Q ⟨#[.slice A1 xs.length c1, u1, .slice A3 ps.length c3, u3, u4, u5, u6, .pointer (some ⟨p, 0, none⟩), u8, u9, u10, .slice (some ⟨g11, 0, none⟩) 5 5, .slice (some ⟨g12, 0, none⟩) 5 5, .int .i64 (i : Nat), u14, u15, u16, u17, u18, u19, u20, u21, u22, u23, u24, u25, u26, u27, u28, u29, u30, u31, u32, u33, u34, u35, u36, u37, u38, u39, u40, u41, u42, u43, u44, u45, u46, u47, u48, u49, u50, u51, u52, u53, u54, u55, u56, u57, u58, u59, u60, u61, u62, u63, u64, u65, u66, u67, u68, u69, u70, u71, u72, u73, u74, u75, u76, u77, u78, u79, u80, u81, u82, u83, u84, u85, u86, u87, u88, u89, u90, u91, u92, u93, u94, u95, u96, u97, u98, u99, u100, u101, u102, u103, u104, u105, u106, u107, u108, u109, u110, u111, u112, u113, u114, u115, u116, u117, u118, u119, u120, u121, u122, u123, u124, u125, u126, u127, u128, u129, u130, u131, u132, u133, u134, u135, u136, u137, u138, u139, u140, u141, u142, u143, u144, u145, u146, u147, u148, u149, u150, u151, u152, u153, u154, u155, u156, u157, u158, u159, u160, u161, u162, u163, u164, u165, u166, u167, u168, u169, u170, u171, u172, u173, u174, u175, u176, u177, u178, u179, u180, u181, u182, u183, u184, u185, u186, u187], []⟩ W := by
  conv => arg 2; whnf
  have HX2 := Lib.hid hX2
  clear hX2
  have hmJ := pend_lt (show m ∈ pendJ J s by rw [hp]; simp)
  have hsS := (can_mem.1 (List.mem_of_getElem? hsel)).1
  have HTS := Lib.hid (And.intro (hT.step hp hj) (And.intro (fun h => hT.l1 s m l hp h) (And.intro (fun h => hT.l2 s h m (by rw [hp]; simp)) (And.intro (hT.ss m j hj) (hT.o s)))))
  have hN0 : 0 < (canJ 5 J).length := by have := (List.getElem?_eq_some_iff.1 hsel).1; omega
  obtain ⟨ad3, rfl, hab3, hc3⟩ := int_at (hps.below hbel) rfl hi
  have i1 : (0 : Int) ≤ (i : Int) := by omega
  have i2 : (i : Int) < (ps.length : Int) := by omega
  have HW := Lib.hid hw
  have HS := Lib.hid (And.intro hT (And.intro hln (And.intro hra (And.intro hgx (And.intro hgy (And.intro hbel hge))))))
  have HX := Lib.hid hx
  clear hw hT hln hra hgx hgy hbel hge hx hps
  generalize ps.getD i 0 = x at hc3 hsel
  refine wp_seq_k fun K0 hK => ?_
  have HK0 := Lib.hid hK
  clear hK
  go_wp2_with fail
  refine (Can_w HW.out).mono ?_
  rintro e w1 ⟨AC, cC, rfl, hoC, hb1⟩
  have c31 : w1.cell? (ad3.add i) = some (.int .i64 x) := (hb1.cell (p := ad3.add i) (by rw [block_of_add]; have := HS.out.2.2.2.2.2.1.size; omega)).trans hc3
  have H1 := Lib.hid (And.intro (HW.out.below hb1) hb1)
  clear hoC hb1 hc3
  go_wp2_with fail
  refine HK0.out _ _ ?_
  clear HK0
  have HN := Lib.hid (And.intro hsel (And.intro hp (And.intro hj (And.intro hbeg hend))))
  have hB1 : W0.heap.size ≤ w1.heap.size := Nat.le_trans HS.out.2.2.2.2.2.1.size H1.out.2.size
  generalize (canJ 5 J).length = N at hN0 ⊢
  have hN1 : (N : Int) > 0 := by omega
  clear hsel hp hj hbeg hend
  refine wp_seq_k fun K0 hK => ?_
  have HK0 := Lib.hid hK
  clear hK
  go_wp2_with fail
  refine (Pick_yes H1.out.1 (by omega) (by omega) hB1 HN.out.1 HN.out.2.1 HN.out.2.2.1).mono ?_
  rintro e w2 ⟨rfl, r2, hw2, hk2, hr2⟩
  have H2 := Lib.hid (wt_yes HTS.out.1 HN.out.2.2.1 HS.out.2.1 HS.out.2.2.1 HS.out.2.2.2.1 HS.out.2.2.2.2.1 HS.out.2.2.2.2.2.1 HS.out.2.2.2.2.2.2 H1.out.2 hw2 hk2 hr2)
  clear hw2 hk2 hr2 c31
  rw [HN.out.2.2.2.1, HN.out.2.2.2.2, show (!true) = false from rfl] at H2 ⊢
  go_wp2_with fail
  refine HK0.out _ _ ?_
  clear HK0
  generalize w2.alloc (.cells #[.int .i64 (m : Nat), .int .i64 (s : Nat), .bool false, .bool true] 37) = w3 at H2 ⊢
  obtain ⟨g15, hg15⟩ : ∃ g, w2.heap.size = g := ⟨_, rfl⟩
  rw [hg15] at H2 ⊢
  clear hg15
  have d0 : w3.cell? ⟨g15, 0, none⟩ = some (.int .i64 (m : Nat)) := H2.out.d.cell 0
  refine wp_seq_k fun K0 hK => ?_
  have HK0 := Lib.hid hK
  clear hK
  go_wp2_with fail
  refine HK0.out _ _ ?_
  clear HK0
  refine wp_seq_k fun K0 hK => ?_
  have HK0 := Lib.hid hK
  clear hK
  go_wp2_with fail
  refine HK0.out _ _ ?_
  clear HK0
  refine wp_seq_k fun K0 hK => ?_
  have HK0 := Lib.hid hK
  clear hK
  go_wp2_with fail
  refine (Job_yes H2.out.w (i := m) (by rw [had_len]; exact hmJ)).mono ?_
  rintro e w4 ⟨rfl, rfl⟩
  go_wp2_with fail
  refine HK0.out _ _ ?_
  clear HK0
  clear d0
  refine wp_seq_k fun K0 hK => ?_
  have HK0 := Lib.hid hK
  clear hK
  refine wt_c11 (h := j.h) (t := j.t) (la := la s) (by have := H2.out.d; rw [HN.out.2.2.2.1, HN.out.2.2.2.2] at this; exact this) (by rw [H2.out.y.cell, fiveB_at op hsS, HTS.out.2.2.2.2, HN.out.2.2.2.1]) (by rw [H2.out.x.cell]; exact fiveZ_at la hsS) H2.out.c (by have := HS.out.2.1; omega) ((HX.out.below H2.out.bel).more H2.out.bel.size) hsS (by rw [← HTS.out.2.2.2.1]; exact wt_s HN.out.2.1 HN.out.2.2.1) (wt_b1 HN.out.2.1 HN.out.2.2.1 HN.out.2.2.2.1 (HTS.out.2.1 HN.out.2.2.2.1)) (by have := HN.out.2.2.2.2; have := wt_h HN.out.2.1 HN.out.2.2.1 H1.out.1; have := of_decide_eq_true HN.out.2.2.2.2; omega) (by have := H2.out.w.tl; have := wt_h HN.out.2.1 HN.out.2.2.1 H1.out.1; omega) hxl ?_
  intro _ _ _ _ _ _ _ _ _ _ _ _ _ _ _ _ _ _ _ _ _ _ _ _ _ _ _ _ _ _ _ _ _ _ _ _ _ _ _ _ _ _ _ _ _ _ _ _ _ _ _ _ _ _ _ _ _ _ _ _ _ _ _ _ _ _ _ _ _ _ _ _ _ _ _ _ _ n5
  have H5 := Lib.hid (H2.out.below (below_drewn w3 n5))
  generalize w3.drewN n5 = w5 at H5 ⊢
  refine HK0.out _ _ ?_
  clear HK0
  have d0 : w5.cell? ⟨g15, 0, none⟩ = some (.int .i64 (m : Nat)) := H5.out.d.cell 0
  have d1 : w5.cell? ⟨g15, 1, none⟩ = some (.int .i64 (s : Nat)) := H5.out.d.cell 1
  have d3 : w5.cell? ⟨g15, 3, none⟩ = some (.bool true) := by rw [← HN.out.2.2.2.2]; exact H5.out.d.cell 3
  have e11 : w5.cell? ⟨g11, s, none⟩ = some (.int .i64 (la s)) := by rw [H5.out.x.cell]; exact fiveZ_at la hsS
  have e12 : w5.cell? ⟨g12, s, none⟩ = some (.bool (op s)) := by rw [H5.out.y.cell]; exact fiveB_at op hsS
  have f11 := H5.out.x.frozen s
  have f12 := H5.out.y.frozen s
  have j1 : (0 : Int) ≤ (s : Int) := by omega
  have j2 : (s : Int) < 5 := by omega
  have x1 : g11 ≠ g12 := blk_apart H5.out.x H5.out.y (by decide)
  have x2 : g11 ≠ g15 := blk_apart H5.out.x H5.out.d (by decide)
  have hF := H5.out.fin hsS
  rw [HN.out.2.2.2.2, show (!true) = false from rfl] at hF
  have HF := Lib.hid hF
  clear hF
  go_wp2_with fail
  exact HX2.out _ _ _ _ _ _ _ _ _ _ _ _ _ _ _ _ _ _ _ _ _ _ _ _ _ _ _ _ _ _ _ _ _ _ _ _ _ _ _ _ _ _ _ _ _ _ _ _ _ _ _ _ _ _ _ _ _ _ _ _ _ _ _ _ _ _ _ _ _ _ _ _ _ _ _ _ _ _ _ _ _ _ _ _ _ _ _ _ _ _ _ _ _ _ _ _ _ _ _ _ _ _ _ _ _ _ _ _ _ _ _ _ _ _ _ _ _ _ _ _ _ HF.out
end Go.Proofs.Ytagcbihjejjmnaa
