/-
  Layer 23: WeaveTurns: a round of the second loop.
-/
import Derived.Test.YtagcbihjejjmnaaWvT30
import Derived.Test.YtagcbihjejjmnaaWvT31
import Derived.Test.YtagcbihjejjmnaaWvT32
import Derived.Test.YtagcbihjejjmnaaWvT33
namespace Go.Proofs.Ytagcbihjejjmnaa
open Go.RowKit
set_option linter.unusedVariables false
set_option linter.unusedSimpArgs false

def fiveZ (la : Nat → Int) : Array Value := #[intZ (la 0), intZ (la 1), intZ (la 2), intZ (la 3), intZ (la 4)]
def fiveB (op : Nat → Bool) : Array Value := #[.bool (op 0), .bool (op 1), .bool (op 2), .bool (op 3), .bool (op 4)]
theorem fiveZ_at (la : Nat → Int) {s : Nat} (hs : s < 5) : (fiveZ la)[s]? = some (.int .i64 (la s)) := by
  have h : s = 0 ∨ s = 1 ∨ s = 2 ∨ s = 3 ∨ s = 4 := by omega
  rcases h with rfl | rfl | rfl | rfl | rfl <;> rfl
theorem fiveB_at (op : Nat → Bool) {s : Nat} (hs : s < 5) : (fiveB op)[s]? = some (.bool (op s)) := by
  have h : s = 0 ∨ s = 1 ∨ s = 2 ∨ s = 3 ∨ s = 4 := by omega
  rcases h with rfl | rfl | rfl | rfl | rfl <;> rfl
theorem fiveZ_set (la : Nat → Int) {s : Nat} (hs : s < 5) (m : Int) : (fiveZ la).setIfInBounds s (.int .i64 m) = fiveZ (fun s' => if s' = s then m else la s') := by
  have h : s = 0 ∨ s = 1 ∨ s = 2 ∨ s = 3 ∨ s = 4 := by omega
  rcases h with rfl | rfl | rfl | rfl | rfl <;> rfl
theorem fiveB_set (op : Nat → Bool) {s : Nat} (hs : s < 5) (m : Bool) : (fiveB op).setIfInBounds s (.bool m) = fiveB (fun s' => if s' = s then m else op s') := by
  have h : s = 0 ∨ s = 1 ∨ s = 2 ∨ s = 3 ∨ s = 4 := by omega
  rcases h with rfl | rfl | rfl | rfl | rfl <;> rfl
/-- The world between two picks. -/
structure WtI (W0 : World) (p gl g11 g12 : Nat) (xs : List Int) (vj : Value) (b : Nat → Nat) (i : Nat) (wr : World) : Prop where
  ex : ∃ J la op r, WvAt wr W0.heap.size p gl 5 J ((i : Nat) : Int) vj b r ∧ TuI xs J la op ∧ J.length = xs.length ∧ (∀ s g, s < 5 → (r s).ownBlock = some g → g ≠ g11) ∧ Blk wr g11 3 (fiveZ la) ∧ Blk wr g12 4 (fiveB op)
  bel : Below W0.heap.size W0 wr
  ge : W0.heap.size ≤ g11 ∧ W0.heap.size ≤ g12
/-- Behind a pick: the turn lies in block g15. -/
structure WtP (W0 : World) (p gl g11 g12 g15 : Nat) (xs : List Int) (vj : Value) (b : Nat → Nat) (i : Nat) (m s : Nat) (j : Jb) (J : List Jb) (la : Nat → Int) (op : Nat → Bool) (r : Nat → Value) (wr : World) : Prop where
  w : WvAt wr W0.heap.size p gl 5 (hadJ J m) ((i + 1 : Nat) : Int) vj b r
  t : TuI xs (hadJ J m) (fun s' => if s' = s then (m : Int) else la s') (fun s' => if s' = s then !decide (j.t ≤ j.h + 1) else op s')
  ln : J.length = xs.length
  ra : ∀ s g, s < 5 → (r s).ownBlock = some g → g ≠ g11
  x : Blk wr g11 3 (fiveZ la)
  y : Blk wr g12 4 (fiveB op)
  d : Blk wr g15 37 #[.int .i64 (m : Nat), .int .i64 (s : Nat), .bool (!begJ J s), .bool (decide (j.t ≤ j.h + 1))]
  c : Blk wr (b m) 33 #[.int .i64 (j.t : Nat), .int .i64 ((j.h : Int) + 1)]
  bel : Below W0.heap.size W0 wr
  ge : W0.heap.size ≤ g11 ∧ W0.heap.size ≤ g12
section
variable {W0 W W' : World} {p gl g11 g12 g15 : Nat} {xs : List Int} {vj : Value} {b : Nat → Nat} {i m s : Nat} {j : Jb} {J : List Jb} {la : Nat → Int} {op : Nat → Bool} {r : Nat → Value}
theorem WtP.below (h : WtP W0 p gl g11 g12 g15 xs vj b i m s j J la op r W) (hb : Below W.heap.size W W') : WtP W0 p gl g11 g12 g15 xs vj b i m s j J la op r W' :=
  ⟨h.w.below hb, h.t, h.ln, h.ra, h.x.below hb h.x.lt, h.y.below hb h.y.lt, h.d.below hb h.d.lt, h.c.below hb h.c.lt, below_trans h.bel hb, h.ge⟩
/-- The two lists are written. -/
theorem WtP.fin (h : WtP W0 p gl g11 g12 g15 xs vj b i m s j J la op r W) (hs : s < 5) : WtI W0 p gl g11 g12 xs vj b (i + 1) ((W.setCell ⟨g11, s, none⟩ (.int .i64 (m : Nat))).setCell ⟨g12, s, none⟩ (.bool (!decide (j.t ≤ j.h + 1)))) := by
  have hx := h.x.set_ s (.int .i64 (m : Nat))
  rw [fiveZ_set la hs] at hx
  have hy := (h.y.far (p := ⟨g11, s, none⟩) (blk_apart h.y h.x (by decide)) (.int .i64 (m : Nat))).set_ s (.bool (!decide (j.t ≤ j.h + 1)))
  rw [fiveB_set op hs] at hy
  have hx2 := hx.far (p := ⟨g12, s, none⟩) (blk_apart h.x h.y (by decide)) (.bool (!decide (j.t ≤ j.h + 1)))
  refine ⟨⟨_, _, _, r, ?_, h.t, by rw [had_len]; exact h.ln, h.ra, hx2, hy⟩, (h.bel.setCell (p := ⟨g11, s, none⟩) h.ge.1 _).setCell (p := ⟨g12, s, none⟩) h.ge.2 _, h.ge⟩
  have hA : WvAt (W.setCell ⟨g11, s, none⟩ (.int .i64 (m : Nat))) W0.heap.size p gl 5 (hadJ J m) ((i + 1 : Nat) : Int) vj b r := by
    have hk : ∀ i' t cs, Blk W i' t cs → t ≠ 3 → Blk (W.setCell ⟨g11, s, none⟩ (.int .i64 (m : Nat))) i' t cs := fun i' t cs hb ht => hb.far (p := ⟨g11, s, none⟩) (blk_apart hb h.x ht) _
    obtain ⟨cs, hl, hl2⟩ := h.w.l
    refine ⟨hk _ _ _ h.w.pb (by decide), ⟨cs, hk _ _ _ hl (by decide), hl2⟩, own_same2 h.w.j fun g hg => ?_, fun i' x hx => hk _ _ _ (h.w.c i' x hx) (by decide), fun s' hs' => (h.w.q s' hs').same fun g hg => Below.heap_setCell W _ _ g (h.ra s' g hs' hg), h.w.ra, h.w.ba, h.w.ge, h.w.ok, h.w.S1, h.w.Jl, h.w.tl, h.w.sl⟩
    obtain ⟨cs, hb⟩ := own_blkT h.w.j hg
    exact (hk _ _ _ hb (by decide)).trans hb.symm
  exact hA.keepT fun i' t cs hb ht => hb.far (p := ⟨g12, s, none⟩) (blk_apart hb (h.y.far (p := ⟨g11, s, none⟩) (blk_apart h.y h.x (by decide)) (.int .i64 (m : Nat))) (by rcases ht with rfl | rfl | rfl | rfl | rfl <;> decide)) _
end
/-- Nobody could go on. -/
theorem wt_no {W0 W w1 w2 : World} {p gl g11 g12 i : Nat} {xs : List Int} {vj : Value} {b : Nat → Nat} {J : List Jb} {la : Nat → Int} {op : Nat → Bool} {r : Nat → Value} (hT : TuI xs J la op) (hln : J.length = xs.length) (hra : ∀ s g, s < 5 → (r s).ownBlock = some g → g ≠ g11) (hgx : Blk W g11 3 (fiveZ la)) (hgy : Blk W g12 4 (fiveB op)) (hbel : Below W0.heap.size W0 W) (hge : W0.heap.size ≤ g11 ∧ W0.heap.size ≤ g12)
    (hb1 : Below W.heap.size W w1) (hw2 : WvAt w2 W0.heap.size p gl 5 J (((i : Nat) : Int) + 1) vj b r) (hk2 : WKeep PickT W0.heap.size w1 w2) : WtI W0 p gl g11 g12 xs vj b (i + 1) (w2.alloc (.cells #[.int .i64 0, .int .i64 0, .bool false, .bool false] 37)) := by
  have hb2 := below_box w2 (.cells #[.int .i64 0, .int .i64 0, .bool false, .bool false] 37)
  have e1 : (((i : Nat) : Int) + 1) = ((i + 1 : Nat) : Int) := by omega
  rw [e1] at hw2
  have x1 := hk2.same _ _ _ (hgx.below hb1 hgx.lt) (by unfold PickT; decide)
  have y1 := hk2.same _ _ _ (hgy.below hb1 hgy.lt) (by unfold PickT; decide)
  exact ⟨⟨J, la, op, r, hw2.below hb2, hT, hln, hra, x1.below hb2 x1.lt, y1.below hb2 y1.lt⟩, below_trans ((below_trans hbel hb1).trans hk2.below) hb2, hge⟩
set_option maxHeartbeats 6400000 in
set_option maxRecDepth 100000 in
theorem wt_rno {W : World} {u1 u3 u4 u5 u6 u8 u9 u10 u14 u15 u16 u17 u18 u19 u20 u21 u22 u23 u24 u25 u26 u27 u28 u29 u30 u31 u32 u33 u34 u35 u36 u37 u38 u39 u40 u41 u42 u43 u44 u45 u46 u47 u48 u49 u50 u51 u52 u53 u54 u55 u56 u57 u58 u59 u60 u61 u62 u63 u64 u65 u66 u67 u68 u69 u70 u71 u72 u73 u74 u75 u76 u77 u78 u79 u80 u81 u82 u83 u84 u85 u86 u87 u88 u89 u90 u91 u92 u93 u94 u95 u96 u97 u98 u99 u100 u101 u102 u103 u104 u105 u106 u107 u108 u109 u110 u111 u112 u113 u114 u115 u116 u117 u118 u119 u120 u121 u122 u123 u124 u125 u126 u127 u128 u129 u130 u131 u132 u133 u134 u135 u136 u137 u138 u139 u140 u141 u142 u143 u144 u145 u146 u147 u148 u149 u150 u151 u152 u153 u154 u155 u156 u157 u158 u159 u160 u161 u162 u163 u164 u165 u166 u167 u168 u169 u170 u171 u172 u173 u174 u175 u176 u177 u178 u179 u180 u181 u182 u183 u184 u185 u186 u187 : Value} {Q : Exit → Act → World → Prop} {W0 : World} {p gl g11 g12 i c1 c3 : Nat} {A1 A3 : Option Addr} {xs ps : List Int} {vj : Value} {b : Nat → Nat} {J : List Jb} {la : Nat → Int} {op : Nat → Bool} {r : Nat → Value} (hw : WvAt W W0.heap.size p gl 5 J ((i : Nat) : Int) vj b r) (hT : TuI xs J la op) (hln : J.length = xs.length) (hra : ∀ s g, s < 5 → (r s).ownBlock = some g → g ≠ g11) (hgx : Blk W g11 3 (fiveZ la)) (hgy : Blk W g12 4 (fiveB op)) (hbel : Below W0.heap.size W0 W) (hge : W0.heap.size ≤ g11 ∧ W0.heap.size ≤ g12) (hx : Reads W0 W0.heap.size 1 A1 xs.length (xs.map intZ)) (hps : Reads W0 W0.heap.size 1 A3 ps.length (ps.map intZ)) (hi : i < ps.length) (hpl : ps.length ≤ 400) (hxl : xs.length ≤ 400) (hno : canJ 5 J = [])
    (hX2 : ∀ (s6 s14 s15 s16 s17 s18 s69 s70 s71 s72 s73 s74 s75 s76 s77 s78 s79 s80 s81 s82 s83 s84 s85 s86 s87 s88 s89 s90 s91 s92 s93 s94 s95 s96 s97 s98 s99 s100 s101 s102 s103 s104 s105 s106 s107 s108 s109 s110 s111 s112 s113 s114 s115 s116 s117 s118 s119 s120 s121 s122 s123 s124 s125 s126 s127 s128 s129 s130 s131 s132 s133 s134 s135 s136 s137 s138 s139 s140 s141 s142 s143 s144 s145 s146 s147 s148 s149 s150 s151 s152 s153 s154 s155 s156 s157 s158 s159 s160 s161 s162 s163 s164 s165 s166 s167 s168 s169 s170 s171 s172 s173 s174 s175 s176 s177 s178 s179 s180 s181 s182 : Value) (W' : World), WtI W0 p gl g11 g12 xs vj b (i + 1) W' → Q (.exit 3) ⟨#[.slice A1 xs.length c1, u1, .slice A3 ps.length c3, u3, u4, u5, s6, .pointer (some ⟨p, 0, none⟩), u8, u9, u10, .slice (some ⟨g11, 0, none⟩) 5 5, .slice (some ⟨g12, 0, none⟩) 5 5, .int .i64 (i : Nat), s14, s15, s16, s17, s18, u19, u20, u21, u22, u23, u24, u25, u26, u27, u28, u29, u30, u31, u32, u33, u34, u35, u36, u37, u38, u39, u40, u41, u42, u43, u44, u45, u46, u47, u48, u49, u50, u51, u52, u53, u54, u55, u56, u57, u58, u59, u60, u61, u62, u63, u64, u65, u66, u67, u68, s69, s70, s71, s72, s73, s74, s75, s76, s77, s78, s79, s80, s81, s82, s83, s84, s85, s86, s87, s88, s89, s90, s91, s92, s93, s94, s95, s96, s97, s98, s99, s100, s101, s102, s103, s104, s105, s106, s107, s108, s109, s110, s111, s112, s113, s114, s115, s116, s117, s118, s119, s120, s121, s122, s123, s124, s125, s126, s127, s128, s129, s130, s131, s132, s133, s134, s135, s136, s137, s138, s139, s140, s141, s142, s143, s144, s145, s146, s147, s148, s149, s150, s151, s152, s153, s154, s155, s156, s157, s158, s159, s160, s161, s162, s163, s164, s165, s166, s167, s168, s169, s170, s171, s172, s173, s174, s175, s176, s177, s178, s179, s180, s181, s182, u183, u184, u185, u186, u187], []⟩ W') :
    Code.wp Try.prog (part Try.f3 [1, 1, 1, 1, 1, 1, 1, 1, 0, 1, 2, 2, 1, 0, 2]) Q ⟨#[.slice A1 xs.length c1, u1, .slice A3 ps.length c3, u3, u4, u5, u6, .pointer (some ⟨p, 0, none⟩), u8, u9, u10, .slice (some ⟨g11, 0, none⟩) 5 5, .slice (some ⟨g12, 0, none⟩) 5 5, .int .i64 (i : Nat), u14, u15, u16, u17, u18, u19, u20, u21, u22, u23, u24, u25, u26, u27, u28, u29, u30, u31, u32, u33, u34, u35, u36, u37, u38, u39, u40, u41, u42, u43, u44, u45, u46, u47, u48, u49, u50, u51, u52, u53, u54, u55, u56, u57, u58, u59, u60, u61, u62, u63, u64, u65, u66, u67, u68, u69, u70, u71, u72, u73, u74, u75, u76, u77, u78, u79, u80, u81, u82, u83, u84, u85, u86, u87, u88, u89, u90, u91, u92, u93, u94, u95, u96, u97, u98, u99, u100, u101, u102, u103, u104, u105, u106, u107, u108, u109, u110, u111, u112, u113, u114, u115, u116, u117, u118, u119, u120, u121, u122, u123, u124, u125, u126, u127, u128, u129, u130, u131, u132, u133, u134, u135, u136, u137, u138, u139, u140, u141, u142, u143, u144, u145, u146, u147, u148, u149, u150, u151, u152, u153, u154, u155, u156, u157, u158, u159, u160, u161, u162, u163, u164, u165, u166, u167, u168, u169, u170, u171, u172, u173, u174, u175, u176, u177, u178, u179, u180, u181, u182, u183, u184, u185, u186, u187], []⟩ W := by
  conv => arg 2; whnf
  have HX2 := Lib.hid hX2
  clear hX2
  obtain ⟨ad3, rfl, hab3, hc3⟩ := int_at (hps.below hbel) rfl hi
  have i1 : (0 : Int) ≤ (i : Int) := by omega
  have i2 : (i : Int) < (ps.length : Int) := by omega
  have HW := Lib.hid hw
  have HS := Lib.hid (And.intro hT (And.intro hln (And.intro hra (And.intro hgx (And.intro hgy (And.intro hbel hge))))))
  have HX := Lib.hid hx
  clear hw hT hln hra hgx hgy hbel hge hx hps
  generalize ps.getD i 0 = x at hc3
  refine wp_seq_k fun K0 hK => ?_
  have HK0 := Lib.hid hK
  clear hK
  have HNO := Lib.hid hno
  have hl0 : (canJ 5 J).length = 0 := by rw [hno]; rfl
  clear hno
  go_wp2_with fail
  refine (Can_w HW.out).mono ?_
  rintro e w1 ⟨AC, cC, rfl, hoC, hb1⟩
  have c31 : w1.cell? (ad3.add i) = some (.int .i64 x) := (hb1.cell (p := ad3.add i) (by rw [block_of_add]; have := HS.out.2.2.2.2.2.1.size; omega)).trans hc3
  have H1 := Lib.hid (And.intro (HW.out.below hb1) hb1)
  clear hoC hb1 hc3
  rw [hl0]
  clear hl0
  go_wp2_with fail
  refine HK0.out _ _ ?_
  clear HK0
  have hB1 : W0.heap.size ≤ w1.heap.size := Nat.le_trans HS.out.2.2.2.2.2.1.size H1.out.2.size
  refine wp_seq_k fun K0 hK => ?_
  have HK0 := Lib.hid hK
  clear hK
  go_wp2_with fail
  refine (Pick_no H1.out.1 (by omega) (by omega) hB1 HNO.out).mono ?_
  rintro e w2 ⟨rfl, hw2, hk2⟩
  have H2 := Lib.hid (wt_no HS.out.1 HS.out.2.1 HS.out.2.2.1 HS.out.2.2.2.1 HS.out.2.2.2.2.1 HS.out.2.2.2.2.2.1 HS.out.2.2.2.2.2.2 H1.out.2 hw2 hk2)
  clear hw2 hk2 c31
  go_wp2_with fail
  refine HK0.out _ _ ?_
  clear HK0
  refine wp_seq_k fun K0 hK => ?_
  have HK0 := Lib.hid hK
  clear hK
  go_wp2_with fail
  refine HK0.out _ _ ?_
  clear HK0
  go_wp2_with fail
  exact HX2.out _ _ _ _ _ _ _ _ _ _ _ _ _ _ _ _ _ _ _ _ _ _ _ _ _ _ _ _ _ _ _ _ _ _ _ _ _ _ _ _ _ _ _ _ _ _ _ _ _ _ _ _ _ _ _ _ _ _ _ _ _ _ _ _ _ _ _ _ _ _ _ _ _ _ _ _ _ _ _ _ _ _ _ _ _ _ _ _ _ _ _ _ _ _ _ _ _ _ _ _ _ _ _ _ _ _ _ _ _ _ _ _ _ _ _ _ _ _ _ _ _ H2.out
end Go.Proofs.Ytagcbihjejjmnaa
