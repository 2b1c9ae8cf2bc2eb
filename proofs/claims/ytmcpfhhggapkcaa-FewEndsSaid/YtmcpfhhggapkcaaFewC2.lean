/-
  Layer 7: the range of 'same'.
-/
import Derived.Test.YtmcpfhhggapkcaaFewOA
import Derived.Test.YtmcpfhhggapkcaaFewR1
import Derived.Test.YtmcpfhhggapkcaaFewC1
import Derived.Test.YtmcpfhhggapkcaaQuietRound
namespace Go.Proofs.Ytmcpfhhggapkcaa
open Go.RowKit Go.Shelf
set_option linter.unusedVariables false
set_option linter.unusedSimpArgs false
attribute [local go_sem] Oper.semAt_some

/-- The world of 'same', where the counter stands at a. -/
def SameI (w : World) (lo g3 g4 g5 gr : Nat) (room : Int) (f : Kids) (a : Nat) (W : World) : Prop :=
  Blk W g5 3 #[.int .i64 (a : Int)] ∧ Blk W g4 4 #[.bool false] ∧ Blk W g3 51 #[.pointer (some ⟨gr, 0, none⟩)] ∧ RefAt W gr room f ∧ Below w.heap.size w W ∧ lo ≤ W.heap.size
theorem keepsFrom_drew (B : Nat) (W : World) : KeepsFrom B W W.drew := ⟨Nat.le_refl _, fun _ _ _ h _ => h⟩
theorem keepsB_drew (B : Nat) (W : World) : KeepsB B W W.drew := ⟨Nat.le_refl _, fun _ _ _ h => h⟩
def EndsAt (A : Act) (V : World) (e : Exit) (a : Act) (w : World) : Prop := e = .normal ∧ a = A ∧ w = V
theorem wpIn_to {F : Fence} {n : Nat} {P : Program} {c : Code} {Q : Exit → Act → World → Prop} {a : Act} {w : World} (A : Act) (V : World) (h : c.wpIn F n P (EndsAt A V) a w) (hq : Q .normal A V) : c.wpIn F n P Q a w :=
  wpIn_mono h (by rintro e a w ⟨rfl, rfl, rfl⟩; exact hq)
theorem RefAt.own_ {W W' : World} {row : Option Nat} {g : Nat} {room : Int} {f : Kids} (h : RefAt W g room f) (hg : W.grownBy W' row) (hr : ∀ r, row = some r → ∃ o : Obj, W.heap[r]? = some o ∧ o.isCells = false) : RefAt W' g room f := by
  obtain ⟨o, h1, h2⟩ := h
  exact ⟨o, h1.own_ hg hr, h2⟩
theorem sameI_alloc {w : World} {lo g3 g4 g5 gr : Nat} {room : Int} {f : Kids} {a : Nat} {W : World} (h : SameI w lo g3 g4 g5 gr room f a W) (o : Obj) : SameI w lo g3 g4 g5 gr room f a (W.alloc o) := by
  obtain ⟨h1, h2, h3, h4, h5, h6⟩ := h
  exact ⟨h1.alloc o, h2.alloc o, h3.alloc o, h4.alloc o, below_alloc h5 o, Nat.le_trans h6 (by simp)⟩
theorem sameI_drew {w : World} {lo g3 g4 g5 gr : Nat} {room : Int} {f : Kids} {a : Nat} {W : World} (h : SameI w lo g3 g4 g5 gr room f a W) : SameI w lo g3 g4 g5 gr room f a W.drew := by
  obtain ⟨h1, h2, h3, ⟨o, h4, h4'⟩, h5, h6⟩ := h
  exact ⟨h1.drew, h2.drew, h3.drew, ⟨o, h4.drew, h4'⟩, h5.drew, h6⟩
theorem sameI_step {w : World} {lo g3 g4 g5 gr : Nat} {room : Int} {f : Kids} {a : Nat} {W : World} (h : SameI w lo g3 g4 g5 gr room f a W) (hge : w.heap.size ≤ g5) (b : Nat) : SameI w lo g3 g4 g5 gr room f b (W.setCell ⟨g5, 0, none⟩ (.int .i64 (b : Int))) := by
  obtain ⟨h1, h2, h3, ⟨o, h4, h4'⟩, h5, h6⟩ := h
  refine ⟨by simpa using h1.set_ 0 (.int .i64 (b : Int)), h2.far (p := ⟨g5, 0, none⟩) (blk_neF h2 h1 (by decide)) _, h3.far (p := ⟨g5, 0, none⟩) (blk_neF h3 h1 (by decide)) _, ⟨o, h4.far (p := ⟨g5, 0, none⟩) (blk_neF h4 h1 (by decide)) _, h4'⟩, h5.setCell (p := ⟨g5, 0, none⟩) hge _, by simpa [World.setCell] using h6⟩
def SameR (w : World) (lo g3 g4 g5 gr : Nat) (room : Int) (f : Kids) (pre : List Kid) (W : World) : Prop := ∃ a, a ≤ 256 ∧ (pre <+: kidsF f → a = fromOf pre) ∧ SameI w lo g3 g4 g5 gr room f a W
theorem sameR_own {w wx : World} {g3 g4 g5 gr : Nat} {room : Int} {f : Kids} {lo : Nat} (hw : w.heap.size ≤ wx.heap.size) : OwnFrom wx.heap.size (SameR w lo g3 g4 g5 gr room f) := by
  intro s W W' row hs hg hr
  obtain ⟨a, h1, h2, h3, h4, h5, h6, h7⟩ := hs
  have hr' := fun r e => (hr r e).2
  exact ⟨a, h1, h2, h3.own_ hg hr', h4.own_ hg hr', h5.own_ hg hr', h6.own_ hg hr', ownFrom_below (β := Unit) (Nat.le_refl _) hw () W W' row h7.1 hg hr, Nat.le_trans h7.2 hg.size⟩
theorem ref_cells {W : World} {g : Nat} {room : Int} {f : Kids} (h : RefAt W g room f) {b : Nat} (hb : b < 256) : ∃ q : Int × Int, W.cell? ⟨g, 1 + b, none⟩ = some (.bool (f b).isSome) ∧ W.cell? ⟨g, 257 + b * 2, none⟩ = some (.int .i64 q.1) ∧ W.cell? ⟨g, 257 + b * 2 + 1, none⟩ = some (.int .u32 q.2) ∧ (∀ r, f b = some r → q = r) := by
  obtain ⟨rs, h1, h2⟩ := h
  exact ⟨rs b, (h1.cell _).trans (by rw [List.getElem?_toArray]; exact refCells_is room f rs hb), (h1.cell _).trans (by rw [List.getElem?_toArray]; exact (refCells_rs room f rs hb).1), (h1.cell _).trans (by rw [List.getElem?_toArray]; exact (refCells_rs room f rs hb).2), fun r hr => h2 b r hb hr⟩

def SameW (w : World) (lo g3 g4 g5 gr : Nat) (room : Int) (f : Kids) (B9 : Nat) (x : Kid) (W0 : World) (b : Nat) (V : World) : Prop :=
  SameI w lo g3 g4 g5 gr room f b V ∧ Blk V B9 31 #[.int .i64 x.2.1, .int .u32 x.2.2] ∧ KeepsFrom lo W0 V ∧ KeepsB lo W0 V
theorem sameW_drewN {w W0 V : World} {lo g3 g4 g5 gr : Nat} {room : Int} {f : Kids} {B9 b : Nat} {x : Kid} (h : SameW w lo g3 g4 g5 gr room f B9 x W0 b V) (k : Nat) : SameW w lo g3 g4 g5 gr room f B9 x W0 b (V.drewN k) := by
  obtain ⟨⟨h1, h2, h3, ⟨o, h4, h4'⟩, h5, h6⟩, h7, h8, h9⟩ := h
  exact ⟨⟨h1.drewN k, h2.drewN k, h3.drewN k, ⟨o, h4.drewN k, h4'⟩, below_drewN h5 k, h6⟩, h7.drewN k, ⟨h8.size, h8.same⟩, ⟨h9.size, h9.same⟩⟩
theorem sameW_step {w W0 V : World} {lo g3 g4 g5 gr : Nat} {room : Int} {f : Kids} {B9 b : Nat} {x : Kid} (h : SameW w lo g3 g4 g5 gr room f B9 x W0 b V) (hge : w.heap.size ≤ g5) (hlt : g5 < lo) (b' : Nat) : SameW w lo g3 g4 g5 gr room f B9 x W0 b' (V.setCell ⟨g5, 0, none⟩ (.int .i64 (b' : Int))) :=
  ⟨sameI_step h.1 hge b', h.2.1.far (p := ⟨g5, 0, none⟩) (blk_neF h.2.1 h.1.1 (by decide)) _, h.2.2.1.trans ((KeepsOthers.setCell _ _ _).from _), h.2.2.2.trans (KeepsB.setCell _ _ _ hlt)⟩
theorem sameW_ret {w W0 V : World} {lo g3 g4 g5 gr : Nat} {room : Int} {f : Kids} {B9 b : Nat} {x : Kid} (h : SameW w lo g3 g4 g5 gr room f B9 x W0 b V) : KeepsFrom lo W0 (V.setCell ⟨g4, 0, none⟩ (.bool false)) := h.2.2.1.trans ((KeepsOthers.setCell _ _ _).from _)

set_option maxHeartbeats 6400000 in
set_option maxRecDepth 100000 in
theorem same_loop (g g3 g4 g5 gr gb : Nat) (room : Int) (f : Kids) {u0 u1 u2 u6 u7 u8 u9 u10 u11 u12 u13 u14 u15 u16 u17 u18 u19 u20 u21 u22 u24 u25 u26 u27 u28 u29 u30 u31 u32 u33 u34 u35 u36 u37 u38 u39 u40 u41 u42 u43 u44 u45 u46 u47 u48 u49 u50 u51 u52 u53 u54 u55 u56 u57 u58 u59 u60 u61 u62 u63 u64 u65 u66 u67 u68 u69 u70 u71 u72 u73 : Value} (w wx : World) {Q : Exit → Act → World → Prop} (hgb : wx.cell? ⟨gb, 0, none⟩ = some (.pointer (some ⟨g, 0, none⟩))) (hf : FewAt wx g room f) (hw : w.heap.size ≤ wx.heap.size) (hI : SameI w wx.heap.size g3 g4 g5 gr room f 0 wx)
    (hlt : g3 < wx.heap.size ∧ g4 < wx.heap.size ∧ g5 < wx.heap.size) (hge : w.heap.size ≤ g3 ∧ w.heap.size ≤ g4 ∧ w.heap.size ≤ g5)
    (hQ : ∀ (D : Nat) (W : World), wx.heap.size ≤ D → SameI w wx.heap.size g3 g4 g5 gr room f (fromOf (kidsF f)) W → W.heap[D]? = some (.deferred (some [])) → Q .normal ⟨#[u0, u1, u2, .pointer (some ⟨g3, 0, none⟩), .pointer (some ⟨g4, 0, none⟩), .pointer (some ⟨g5, 0, none⟩), u6, u7, u8, u9, u10, u11, u12, u13, u14, u15, u16, u17, u18, u19, u20, u21, u22, .func (.func 35) #[] #[.pointer (some ⟨gb, 0, none⟩)], u24, u25, u26, u27, u28, u29, u30, u31, u32, u33, u34, u35, u36, u37, u38, u39, u40, u41, u42, u43, u44, u45, u46, u47, u48, u49, u50, u51, u52, u53, u54, u55, u56, u57, u58, u59, u60, u61, u62, u63, u64, u65, u66, u67, u68, u69, u70, u71, u72, u73], [{ target := .collected D, args := #[] }]⟩ W) :
    Code.wp Try.prog (part Try.f27 [1, 1, 1, 0, 1]) Q ⟨#[u0, u1, u2, .pointer (some ⟨g3, 0, none⟩), .pointer (some ⟨g4, 0, none⟩), .pointer (some ⟨g5, 0, none⟩), u6, u7, u8, u9, u10, u11, u12, u13, u14, u15, u16, u17, u18, u19, u20, u21, u22, .func (.func 35) #[] #[.pointer (some ⟨gb, 0, none⟩)], u24, u25, u26, u27, u28, u29, u30, u31, u32, u33, u34, u35, u36, u37, u38, u39, u40, u41, u42, u43, u44, u45, u46, u47, u48, u49, u50, u51, u52, u53, u54, u55, u56, u57, u58, u59, u60, u61, u62, u63, u64, u65, u66, u67, u68, u69, u70, u71, u72, u73], []⟩ wx := by
  conv => arg 2; whnf
  have HQ := Lib.hid hQ
  clear hQ
  refine wp_block ?_
  refine (wpIn_wide (n := 10)).1 ?_
  obtain ⟨h3lt, h4lt, h5lt⟩ := hlt
  refine wpIn_rangeFunc_ownH rfl (by decide) (gf := 35) (lb := #[.pointer (some ⟨gb, 0, none⟩)]) rfl trivial (enters_of Try.func35 (by kernel_rfl) rfl)
    (all_stops gb g 9 wx.heap.size room f wx (Nat.le_refl _) (by decide) hgb hf) (fun h k => h.trans k) (fun W l o o' hl h1 h2 h3 => KeepsB.book W l o o' h1 h2) (Below.refl _ _) (fun _ => rfl)
    (SameR w wx.heap.size g3 g4 g5 gr room f) (fun _ pre W => ¬ (pre <+: kidsF f)) (sameR_own hw) (fun c s W W' row hs hg hr => hs) ⟨0, by omega, fun _ => rfl, hI⟩
    (fun x a' W => NextA x wx.heap.size (fun B9 => ⟨#[u0, u1, u2, .pointer (some ⟨g3, 0, none⟩), .pointer (some ⟨g4, 0, none⟩), .pointer (some ⟨g5, 0, none⟩), .int .u8 (x.1.val : Int), .pointer (some ⟨B9, 0, none⟩), u8, u9, u10, u11, u12, u13, u14, u15, u16, u17, u18, u19, u20, u21, u22, .func (.func 35) #[] #[.pointer (some ⟨gb, 0, none⟩)], .int .u8 (x.1.val : Int), refV x.2, u26, u27, u28, u29, u30, u31, u32, u33, u34, u35, u36, u37, u38, u39, u40, u41, u42, u43, u44, u45, u46, u47, u48, u49, u50, u51, u52, u53, u54, u55, u56, u57, u58, u59, u60, u61, u62, u63, u64, u65, u66, u67, u68, u69, u70, u71, u72, u73], []⟩) a' W) (fun x a' s W W' row hs hg hr => (show NextA x wx.heap.size _ a' W' from by obtain ⟨B9, hb, he, hk⟩ := hs; exact ⟨B9, hb, he, hk.own_ hg (fun r e => (hr r e).2)⟩)) ?assign ?body ?done ?stop
  case assign =>
    rintro l pre x W K ⟨a, ha, hap, hi⟩ hK
    have hfin : K ⟨#[u0, u1, u2, .pointer (some ⟨g3, 0, none⟩), .pointer (some ⟨g4, 0, none⟩), .pointer (some ⟨g5, 0, none⟩), .int .u8 (x.1.val : Int), .pointer (some ⟨W.heap.size, 0, none⟩), u8, u9, u10, u11, u12, u13, u14, u15, u16, u17, u18, u19, u20, u21, u22, .func (.func 35) #[] #[.pointer (some ⟨gb, 0, none⟩)], .int .u8 (x.1.val : Int), refV x.2, u26, u27, u28, u29, u30, u31, u32, u33, u34, u35, u36, u37, u38, u39, u40, u41, u42, u43, u44, u45, u46, u47, u48, u49, u50, u51, u52, u53, u54, u55, u56, u57, u58, u59, u60, u61, u62, u63, u64, u65, u66, u67, u68, u69, u70, u71, u72, u73], []⟩ (W.alloc (.cells #[.int .i64 x.2.1, .int .u32 x.2.2] 31)) :=
      hK _ _ ((KeepsOthers.alloc W _).from _) (KeepsB.of_below (below_box W _)) ⟨a, ha, hap, sameI_alloc hi _⟩ ⟨W.heap.size, hi.2.2.2.2.2, rfl, Blk.new _ _ _⟩
    have HF := Lib.hid hfin
    clear hfin hK
    gi_wp2
    exact HF.out
  case body =>
    rintro l pre x a' W hl ⟨rec, hrec⟩ ⟨a, ha, hap, hi⟩ ⟨B9, hB9, rfl, hk9⟩ hlen
    have HH := Lib.hid (And.intro hi hk9)
    have HAP := Lib.hid hap
    have hx0 : (0 : Int) ≤ (x.1.val : Int) := by omega
    have hx1 : (x.1.val : Int) ≤ 255 := by have := x.1.isLt; omega
    have n1 : 1 ≤ 8 := by decide
    have hmix : Try.prog.follows .mixedOrders = true := by kernel_rfl
    clear hi hk9 hap
    gi_wp2_with (fail)
    gi_loopw [] (fun wr => ∃ b : Nat, a ≤ b ∧ b ≤ 256 ∧ (∀ j, a ≤ j → j < b → f j = none) ∧ Hid (SameW w wx.heap.size g3 g4 g5 gr room f B9 x W b wr)) (fun wr => 256 - (intOf ((wr.cell? ⟨g5, 0, none⟩).getD undef)).toNat)
    case atStart => exact ⟨a, Nat.le_refl _, ha, fun j h1 h2 => by omega, Lib.hid ⟨HH.out.1, HH.out.2, KeepsFrom.refl _ _, KeepsB.refl _ _⟩⟩
    case round =>
      obtain ⟨b, hab, hb, hno, HW⟩ := hrel
      have e5 := HW.out.1.1.cell 0
      have g50 := HW.out.1.1.frozen 0
      have l5 := HW.out.1.1.lt
      have e3 := HW.out.1.2.2.1.cell 0
      have e4 := HW.out.1.2.1.cell 0
      have g40 := HW.out.1.2.1.frozen 0
      have l4 := HW.out.1.2.1.lt
      have e90 := HW.out.2.1.cell 0
      have e91 := HW.out.2.1.cell 1
      simp at e5 e3 e4 e90 e91
      have i1 : (0 : Int) ≤ (b : Int) := by omega
      have i9 : (b : Int) ≤ 256 := by omega
      by_cases hlt : b < 256
      · obtain ⟨q, c1, c2, c3, hq⟩ := ref_cells HW.out.1.2.2.2.1 hlt
        have i2 : (b : Int) < 256 := by omega
        cases hfb : f b with
        | none =>
          rw [hfb] at c1
          simp only [Option.isSome_none] at c1
          have hno2 : ∀ j, a ≤ j → j < b + 1 → f j = none := fun j h1 h2 => by
            by_cases hjb : j = b
            · rw [hjb]; exact hfb
            · exact hno j h1 (by omega)
          have HNO := Lib.hid hno2
          have HE5 := Lib.hid e5
          clear hno2 hno hfb hq
          gi_wp2_with (fail)
          refine wpIn_region_quiet_round l rfl (by kernel_rfl) (by kernel_rfl) (by kernel_rfl) ?_
          repeat (gi_big_quiet_step (fail))
          refine wpQuietIn_nil ?_
          intro _ hw'
          obtain ⟨nq, hw''⟩ := hw'
          subst hw''
          have HV := Lib.hid (sameW_drewN HW.out nq)
          clear e5 g50 l5 e3 e4 g40 l4 e90 e91 c1 c2 c3
          generalize wr.drewN nq = V at HV ⊢
          have e5 := HV.out.1.1.cell 0
          have g50 := HV.out.1.1.frozen 0
          have l5 := HV.out.1.1.lt
          have e3 := HV.out.1.2.2.1.cell 0
          have e4 := HV.out.1.2.1.cell 0
          have g40 := HV.out.1.2.1.frozen 0
          have l4 := HV.out.1.2.1.lt
          have e90 := HV.out.2.1.cell 0
          have e91 := HV.out.2.1.cell 1
          simp at e5 e3 e4 e90 e91
          have HN := Lib.hid (sameW_step HV.out hge.2.2 h5lt (b + 1))
          gi_wp2
          go_roundw
          case rel => exact ⟨b + 1, by omega, by omega, HNO.out, HN⟩
          case measure =>
            have e5n : (V.setCell ⟨g5, 0, none⟩ (.int .i64 ((b : Int) + 1))).cell? ⟨g5, 0, none⟩ = some (.int .i64 ((b : Int) + 1)) := HN.out.1.1.cell 0
            rw [e5n, HE5.out]
            simp [intOf]
            omega
        | some r =>
          rw [hfb] at c1
          simp only [Option.isSome_some] at c1
          obtain rfl := hq r hfb
          have HF : Hid ((pre ++ [x]) <+: kidsF f → x.1.val = b ∧ x.2 = q) := Lib.hid (fun hp => by
            obtain ⟨t1, t2, t3⟩ := at_next hp
            have hpa := HAP.out ((List.prefix_append _ _).trans hp)
            rw [← hpa] at t2 t3
            by_cases h1 : x.1.val < b
            · rw [hno _ t2 h1] at t1; cases t1
            · by_cases h2 : b < x.1.val
              · rw [t3 b hab h2] at hfb; cases hfb
              · have h3 : x.1.val = b := by omega
                rw [h3, hfb] at t1
                injection t1 with t1
                exact ⟨h3, t1.symm⟩)
          have HFB := Lib.hid hfb
          clear hno hq hfb
          gi_wp2_with (fail)
          refine wpIn_region_quiet_round l rfl (by kernel_rfl) (by kernel_rfl) (by kernel_rfl) ?_
          repeat (gi_big_quiet_step (fail))
          refine wpQuietIn_nil ?_
          intro _ hw'
          obtain ⟨nq, hw''⟩ := hw'
          subst hw''
          have HV := Lib.hid (sameW_drewN HW.out nq)
          clear e5 g50 l5 e3 e4 g40 l4 e90 e91 c1 c2 c3
          generalize wr.drewN nq = V at HV ⊢
          have e5 := HV.out.1.1.cell 0
          have g50 := HV.out.1.1.frozen 0
          have l5 := HV.out.1.1.lt
          have e3 := HV.out.1.2.2.1.cell 0
          have e4 := HV.out.1.2.1.cell 0
          have g40 := HV.out.1.2.1.frozen 0
          have l4 := HV.out.1.2.1.lt
          have e90 := HV.out.2.1.cell 0
          have e91 := HV.out.2.1.cell 1
          simp at e5 e3 e4 e90 e91
          obtain ⟨q', c1, c2, c3, hq⟩ := ref_cells HV.out.1.2.2.2.1 hlt
          obtain rfl := hq q HFB.out
          clear hq
          have gr0 := guardRef
          have sw : IntKind.i64.wrap (x.1.val : Int) = (x.1.val : Int) := IntWalk.i64_in _ (by omega)
          have i3 : ¬ (255 < (b : Int)) := by omega
          have hd3 : decide ((b : Int) > 255) = false := decide_eq_false (by omega)
          by_cases hxb : x.1.val = b
          · subst hxb
            have hxbb : ((x.1.val : Int) != (x.1.val : Int)) = false := by simp
            by_cases hxq : x.2 = q'
            · subst hxq
              have nr : ∀ V : World, (binOp .neq 31 (.agg #[.int .i64 x.2.1, .int .u32 x.2.2]) (.agg #[.int .i64 x.2.1, .int .u32 x.2.2])).run Try.prog V = .ok (.bool false) V := fun V => (neqRef x.2 x.2 V).trans (by simp)
              have hsn := fromOf_snoc pre x
              gi_wp2_with (fail)
              refine wpIn_region_quiet_round l rfl (by kernel_rfl) (by kernel_rfl) (by kernel_rfl) ?_
              repeat (gi_big_quiet_step (fail))
              refine wpQuietIn_nil ?_
              intro _ hw'
              obtain ⟨nq, hw''⟩ := hw'
              subst hw''
              have HU := Lib.hid (sameW_drewN HV.out nq)
              clear e5 g50 l5 e3 e4 g40 l4 e90 e91 c1 c2 c3 nr
              generalize V.drewN nq = U at HU ⊢
              have e5 := HU.out.1.1.cell 0
              have g50 := HU.out.1.1.frozen 0
              have l5 := HU.out.1.1.lt
              have e3 := HU.out.1.2.2.1.cell 0
              have e4 := HU.out.1.2.1.cell 0
              have g40 := HU.out.1.2.1.frozen 0
              have l4 := HU.out.1.2.1.lt
              have e90 := HU.out.2.1.cell 0
              have e91 := HU.out.2.1.cell 1
              simp at e5 e3 e4 e90 e91
              have HN := Lib.hid (sameW_step HU.out hge.2.2 h5lt (x.1.val + 1))
              gi_wp2
              exact ⟨HN.out.2.2.1, HN.out.2.2.2, x.1.val + 1, by omega, fun _ => hsn.symm, HN.out.1⟩
            · have nr : ∀ V : World, (binOp .neq 31 (.agg #[.int .i64 x.2.1, .int .u32 x.2.2]) (.agg #[.int .i64 q'.1, .int .u32 q'.2])).run Try.prog V = .ok (.bool true) V := fun V => (neqRef x.2 q' V).trans (by simp [hxq])
              have hnp : ¬ (pre ++ [x]) <+: kidsF f := fun hp => hxq (HF.out hp).2
              gi_wp2_with (fail)
              refine wpIn_region_quiet_round l rfl (by kernel_rfl) (by kernel_rfl) (by kernel_rfl) ?_
              repeat (gi_big_quiet_step (fail))
              refine wpQuietIn_nil ?_
              intro _ hw'
              obtain ⟨nq, hw''⟩ := hw'
              subst hw''
              have HU := Lib.hid (sameW_drewN HV.out nq)
              clear e5 g50 l5 e3 e4 g40 l4 e90 e91 c1 c2 c3 nr
              generalize V.drewN nq = U at HU ⊢
              have e5 := HU.out.1.1.cell 0
              have g50 := HU.out.1.1.frozen 0
              have l5 := HU.out.1.1.lt
              have e3 := HU.out.1.2.2.1.cell 0
              have e4 := HU.out.1.2.1.cell 0
              have g40 := HU.out.1.2.1.frozen 0
              have l4 := HU.out.1.2.1.lt
              have e90 := HU.out.2.1.cell 0
              have e91 := HU.out.2.1.cell 1
              simp at e5 e3 e4 e90 e91
              have HN := Lib.hid (sameW_ret HU.out)
              gi_wp2
              exact ⟨HN.out, hnp⟩
          · have hxbb : ((x.1.val : Int) != (b : Int)) = true := by rw [bne_iff_ne]; omega
            have hnp : ¬ (pre ++ [x]) <+: kidsF f := fun hp => hxb (HF.out hp).1
            gi_wp2_with (fail)
            refine wpIn_region_quiet_round l rfl (by kernel_rfl) (by kernel_rfl) (by kernel_rfl) ?_
            repeat (gi_big_quiet_step (fail))
            refine wpQuietIn_nil ?_
            intro _ hw'
            obtain ⟨nq, hw''⟩ := hw'
            subst hw''
            have HU := Lib.hid (sameW_drewN HV.out nq)
            clear e5 g50 l5 e3 e4 g40 l4 e90 e91 c1 c2 c3
            generalize V.drewN nq = U at HU ⊢
            have e5 := HU.out.1.1.cell 0
            have g50 := HU.out.1.1.frozen 0
            have l5 := HU.out.1.1.lt
            have e3 := HU.out.1.2.2.1.cell 0
            have e4 := HU.out.1.2.1.cell 0
            have g40 := HU.out.1.2.1.frozen 0
            have l4 := HU.out.1.2.1.lt
            have e90 := HU.out.2.1.cell 0
            have e91 := HU.out.2.1.cell 1
            simp at e5 e3 e4 e90 e91
            have HN := Lib.hid (sameW_ret HU.out)
            gi_wp2
            exact ⟨HN.out, hnp⟩
      · obtain rfl : b = 256 := by omega
        have i2 : ¬ ((256 : Int) < 256) := by omega
        have hnp : ¬ (pre ++ [x]) <+: kidsF f := fun hp => by
          obtain ⟨t1, t2, t3⟩ := at_next hp
          have hpa := HAP.out ((List.prefix_append _ _).trans hp)
          rw [← hpa] at t2
          rw [hno _ t2 x.1.isLt] at t1
          cases t1
        clear hno
        gi_wp2_with (fail)
        refine wpIn_region_quiet_round l rfl (by kernel_rfl) (by kernel_rfl) (by kernel_rfl) ?_
        repeat (gi_big_quiet_step (fail))
        refine wpQuietIn_nil ?_
        intro _ hw'
        obtain ⟨nq, hw''⟩ := hw'
        subst hw''
        have HV := Lib.hid (sameW_drewN HW.out nq)
        clear e5 g50 l5 e3 e4 g40 l4 e90 e91
        generalize wr.drewN nq = V at HV ⊢
        have e5 := HV.out.1.1.cell 0
        have g50 := HV.out.1.1.frozen 0
        have l5 := HV.out.1.1.lt
        have e3 := HV.out.1.2.2.1.cell 0
        have e4 := HV.out.1.2.1.cell 0
        have g40 := HV.out.1.2.1.frozen 0
        have l4 := HV.out.1.2.1.lt
        have e90 := HV.out.2.1.cell 0
        have e91 := HV.out.2.1.cell 1
        simp at e5 e3 e4 e90 e91
        gi_wp2_with (fail)
        refine wpIn_region_quiet_round l rfl (by kernel_rfl) (by kernel_rfl) (by kernel_rfl) ?_
        repeat (gi_big_quiet_step (fail))
        refine wpQuietIn_nil ?_
        intro _ hw'
        obtain ⟨nq, hw''⟩ := hw'
        subst hw''
        have HU := Lib.hid (sameW_drewN HV.out nq)
        clear e5 g50 l5 e3 e4 g40 l4 e90 e91
        generalize V.drewN nq = U at HU ⊢
        have e5 := HU.out.1.1.cell 0
        have g50 := HU.out.1.1.frozen 0
        have l5 := HU.out.1.1.lt
        have e3 := HU.out.1.2.2.1.cell 0
        have e4 := HU.out.1.2.1.cell 0
        have g40 := HU.out.1.2.1.frozen 0
        have l4 := HU.out.1.2.1.lt
        have e90 := HU.out.2.1.cell 0
        have e91 := HU.out.2.1.cell 1
        simp at e5 e3 e4 e90 e91
        have HN := Lib.hid (sameW_ret HU.out)
        gi_wp2
        exact ⟨HN.out, hnp⟩
  case done =>
    rintro D xs W hD rfl ⟨a, ha, hap, hi⟩ hk
    rw [hap (List.prefix_refl _)] at hi
    exact HQ.out D W hD hi hk
  case stop =>
    rintro D c pre W hD hsp hx hk
    exact absurd hsp hx
end Go.Proofs.Ytmcpfhhggapkcaa
