/-
  Walks: HideEqual, the region that makes two blurred scripts.
-/
import Derived.Test.YtlmehmmdbdembaaChangedW
import Derived.Test.YtlmehmmdbdembaaAlikesR
namespace Go.Proofs.Ytlmehmmdbdembaa
open Go.RowKit
set_option linter.unusedVariables false
set_option linter.unusedSimpArgs false

/-- A script, its rows owned. -/
def LB (base : Nat) (W : World) (p1 : Option Addr) (c1 : Nat) (p2 : Option Addr) (c2 : Nat) (a : List Ent) (pa : List Int) : Prop :=
  W.ownsRow base 46 13 (.slice p1 a.length c1) a.length (a.flatMap Ent.row) ∧ W.ownsRow base 3 1 (.slice p2 pa.length c2) pa.length (pa.flatMap irow)
theorem LB.below {base : Nat} {W W' : World} {p1 p2 : Option Addr} {c1 c2 : Nat} {a : List Ent} {pa : List Int} (h : LB base W p1 c1 p2 c2 a pa) (hb : Below W.heap.size W W') : LB base W' p1 c1 p2 c2 a pa :=
  ⟨ownsRow_below h.1 hb (Nat.le_refl _), ownsRow_below h.2 hb (Nat.le_refl _)⟩
theorem LB.store {base : Nat} {W : World} {p1 p2 : Option Addr} {c1 c2 g : Nat} {a : List Ent} {pa : List Int} {cs : Array Value} (h : LB base W p1 c1 p2 c2 a pa) (hg : Blk W g 41 cs) (p : Nat) (u : Value) : LB base (W.setCell ⟨g, p, none⟩ u) p1 c1 p2 c2 a pa :=
  ⟨own_far h.1 (own_blk_ne h.1 hg (by decide)) p u, own_far h.2 (own_blk_ne h.2 hg (by decide)) p u⟩
/-- What holds throughout the region. -/
def Bs (w W : World) : Prop := Below w.heap.size w W
theorem Bs.store {w W : World} (h : Bs w W) {g p : Nat} (hg : w.heap.size ≤ g) (u : Value) : Bs w (W.setCell ⟨g, p, none⟩ u) := Below.setCell (p := ⟨g, p, none⟩) h hg u
/-- Two blurred scripts in two variables. -/
def TwoB (w : World) (xa xb : List Ent) (pa pb : List Int) (s7 s8 : Value) (W : World) : Prop :=
  ∃ (g6 g7 : Nat) (P1 P2 Q1 Q2 : Option Addr) (c1 c2 d1 d2 : Nat), s7 = .pointer (some ⟨g6, 0, none⟩) ∧ s8 = .pointer (some ⟨g7, 0, none⟩) ∧ Bs w W ∧ Blk W g6 41 #[.slice P1 xa.length c1, .slice P2 pa.length c2] ∧ Blk W g7 41 #[.slice Q1 xb.length d1, .slice Q2 pb.length d2] ∧
    LB w.heap.size W P1 c1 P2 c2 xa pa ∧ LB w.heap.size W Q1 d1 Q2 d2 xb pb

set_option maxHeartbeats 3200000 in
set_option maxRecDepth 100000 in
theorem eq_01234567 (Ba Bp Bb Bq : Option Addr) (na ca np cp nb cb nq cq g12 g13 : Nat) (xa xb : List Ent) (pa pb : List Int) (t : Int) {u0 u1 u2 u3 u4 u5 u6 u7 u8 u9 u10 u14 u17 u18 u19 u20 u21 u22 u23 u24 u25 u26 u27 u28 u29 u36 u37 u38 u39 u40 u41 u42 u43 u44 u45 u46 u47 u48 u49 u50 u51 u52 u53 u54 u55 u56 u57 u58 u59 u60 u61 u62 u63 u64 u65 u66 u67 u68 u69 u70 u71 u72 u73 u74 u75 u76 u77 u78 u79 u80 u81 u82 u83 u84 u85 u86 u87 u88 u89 u90 u91 u92 u93 u94 u95 u96 u97 u98 u99 : Value} (w W : World) {Q : Exit → Act → World → Prop} (HC : Hid ((∀ V, Below w.heap.size w V → Calls Try.prog 19 #[.agg #[.slice Ba na ca, .slice Bp np cp], .int .i64 t] V (CopyScriptEnd xa pa V)) ∧ ∀ V, Below w.heap.size w V → Calls Try.prog 19 #[.agg #[.slice Bb nb cb, .slice Bq nq cq], .int .i64 t] V (CopyScriptEnd xb pb V)))  {P1 P2 : Option Addr} {c1 c2 : Nat} {Q1 Q2 : Option Addr} {d1 d2 : Nat} {g6 : Nat} {g7 : Nat} (hQ : ∀ s15 s16 s30 s31 s32 s33 s34 s35 W', TwoB w xa xb pa pb s15 s16 W' → Q .normal ⟨#[u0, u1, u2, u3, u4, u5, u6, u7, u8, u9, u10, .int .i64 t, .pointer (some ⟨g12, 0, none⟩), .pointer (some ⟨g13, 0, none⟩), u14, s15, s16, u17, u18, u19, u20, u21, u22, u23, u24, u25, u26, u27, u28, u29, s30, s31, s32, s33, s34, s35, u36, u37, u38, u39, u40, u41, u42, u43, u44, u45, u46, u47, u48, u49, u50, u51, u52, u53, u54, u55, u56, u57, u58, u59, u60, u61, u62, u63, u64, u65, u66, u67, u68, u69, u70, u71, u72, u73, u74, u75, u76, u77, u78, u79, u80, u81, u82, u83, u84, u85, u86, u87, u88, u89, u90, u91, u92, u93, u94, u95, u96, u97, u98, u99], []⟩ W')
    (hB : Bs w W) (hl2 : LB w.heap.size W P1 c1 P2 c2 xa pa) (hl5 : LB w.heap.size W Q1 d1 Q2 d2 xb pb) (hk6 : Blk W g6 41 #[.slice none 0 0, .slice none 0 0]) (hg6 : w.heap.size ≤ g6) (hk7 : Blk W g7 41 #[.slice none 0 0, .slice none 0 0]) (hg7 : w.heap.size ≤ g7) (hne : g6 ≠ g7) :
    wpAnyH Try.prog .any (regOps (codeHead (bodyTail Try.f7 5))) Q (Bs w) 2 #[true, true, true, true, true, true, true, true, false, false] ⟨#[u0, u1, u2, u3, u4, u5, u6, u7, u8, u9, u10, .int .i64 t, .pointer (some ⟨g12, 0, none⟩), .pointer (some ⟨g13, 0, none⟩), u14, .pointer (some ⟨g6, 0, none⟩), .pointer (some ⟨g7, 0, none⟩), u17, u18, u19, u20, u21, u22, u23, u24, u25, u26, u27, u28, u29, .agg #[.slice Ba na ca, .slice Bp np cp], .int .i64 t, .agg #[.slice P1 xa.length c1, .slice P2 pa.length c2], .agg #[.slice Bb nb cb, .slice Bq nq cq], .int .i64 t, .agg #[.slice Q1 xb.length d1, .slice Q2 pb.length d2], u36, u37, u38, u39, u40, u41, u42, u43, u44, u45, u46, u47, u48, u49, u50, u51, u52, u53, u54, u55, u56, u57, u58, u59, u60, u61, u62, u63, u64, u65, u66, u67, u68, u69, u70, u71, u72, u73, u74, u75, u76, u77, u78, u79, u80, u81, u82, u83, u84, u85, u86, u87, u88, u89, u90, u91, u92, u93, u94, u95, u96, u97, u98, u99], []⟩ W := by
  conv => arg 3; whnf
  have HQ := Lib.hid hQ
  clear hQ
  have c0 := hk6.cell 0
  have c1_ := hk6.cell 1
  have f0 := hk6.frozen 0
  have f1 := hk6.frozen 1
  simp at c0 c1_
  refine wpAnyH_ready (rs := [8]) (by kernel_rfl) (by simp) ?_
  refine AllReadyH.cons rfl (fun K hK => ?_) ?_
  · have hB := (hB.store (p := 0) hg6 (.slice P1 xa.length c1)).store (p := 1) hg6 (.slice P2 pa.length c2)
    have hl2 := (hl2.store hk6 0 (.slice P1 xa.length c1)).store (hk6.set_ 0 (.slice P1 xa.length c1)) 1 (.slice P2 pa.length c2)
    have hl5 := (hl5.store hk6 0 (.slice P1 xa.length c1)).store (hk6.set_ 0 (.slice P1 xa.length c1)) 1 (.slice P2 pa.length c2)
    have hk7 := (hk7.far (p := ⟨g6, 0, none⟩) (by simp; omega) (.slice P1 xa.length c1)).far (p := ⟨g6, 1, none⟩) (by simp; omega) (.slice P2 pa.length c2)
    have hk6 := (hk6.set_ 0 (.slice P1 xa.length c1)).set_ 1 (.slice P2 pa.length c2)
    go_wp2_with fail
    refine hK.out _ _ ?_ (fun hH => ?_)
    · exact hB
    clear hK K c0 c1_ f0 f1
    try simp only [Act.put, List.setIfInBounds_toArray, List.set_cons_zero, List.set_cons_succ]
    generalize (W.setCell ⟨g6, 0, none⟩ (.slice P1 xa.length c1)).setCell ⟨g6, 1, none⟩ (.slice P2 pa.length c2) = W2 at hB hl2 hl5 hk6 hk7 hH ⊢
    have c0 := hk7.cell 0
    have c1_ := hk7.cell 1
    have f0 := hk7.frozen 0
    have f1 := hk7.frozen 1
    simp at c0 c1_
    refine wpAnyH_ready (rs := [9]) (by kernel_rfl) (by simp) ?_
    refine AllReadyH.cons rfl (fun K hK => ?_) ?_
    · have hB := (hB.store (p := 0) hg7 (.slice Q1 xb.length d1)).store (p := 1) hg7 (.slice Q2 pb.length d2)
      have hl2 := (hl2.store hk7 0 (.slice Q1 xb.length d1)).store (hk7.set_ 0 (.slice Q1 xb.length d1)) 1 (.slice Q2 pb.length d2)
      have hl5 := (hl5.store hk7 0 (.slice Q1 xb.length d1)).store (hk7.set_ 0 (.slice Q1 xb.length d1)) 1 (.slice Q2 pb.length d2)
      have hk6 := (hk6.far (p := ⟨g7, 0, none⟩) (by simp; omega) (.slice Q1 xb.length d1)).far (p := ⟨g7, 1, none⟩) (by simp; omega) (.slice Q2 pb.length d2)
      have hk7 := (hk7.set_ 0 (.slice Q1 xb.length d1)).set_ 1 (.slice Q2 pb.length d2)
      go_wp2_with fail
      refine hK.out _ _ ?_ (fun hH => ?_)
      · exact hB
      clear hK K
      refine wpAnyH_done (by kernel_rfl) ?_ _
      exact HQ.out _ _ _ _ _ _ _ _ _ ⟨g6, g7, P1, P2, Q1, Q2, c1, c2, d1, d2, rfl, rfl, hB, hk6, hk7, hl2, hl5⟩
    exact AllReadyH.nil
  exact AllReadyH.nil

set_option maxHeartbeats 3200000 in
set_option maxRecDepth 100000 in
theorem eq_0123456 (Ba Bp Bb Bq : Option Addr) (na ca np cp nb cb nq cq g12 g13 : Nat) (xa xb : List Ent) (pa pb : List Int) (t : Int) {u0 u1 u2 u3 u4 u5 u6 u7 u8 u9 u10 u14 u16 u17 u18 u19 u20 u21 u22 u23 u24 u25 u26 u27 u28 u29 u36 u37 u38 u39 u40 u41 u42 u43 u44 u45 u46 u47 u48 u49 u50 u51 u52 u53 u54 u55 u56 u57 u58 u59 u60 u61 u62 u63 u64 u65 u66 u67 u68 u69 u70 u71 u72 u73 u74 u75 u76 u77 u78 u79 u80 u81 u82 u83 u84 u85 u86 u87 u88 u89 u90 u91 u92 u93 u94 u95 u96 u97 u98 u99 : Value} (w W : World) {Q : Exit → Act → World → Prop} (HC : Hid ((∀ V, Below w.heap.size w V → Calls Try.prog 19 #[.agg #[.slice Ba na ca, .slice Bp np cp], .int .i64 t] V (CopyScriptEnd xa pa V)) ∧ ∀ V, Below w.heap.size w V → Calls Try.prog 19 #[.agg #[.slice Bb nb cb, .slice Bq nq cq], .int .i64 t] V (CopyScriptEnd xb pb V)))  {P1 P2 : Option Addr} {c1 c2 : Nat} {Q1 Q2 : Option Addr} {d1 d2 : Nat} {g6 : Nat} (hQ : ∀ s15 s16 s30 s31 s32 s33 s34 s35 W', TwoB w xa xb pa pb s15 s16 W' → Q .normal ⟨#[u0, u1, u2, u3, u4, u5, u6, u7, u8, u9, u10, .int .i64 t, .pointer (some ⟨g12, 0, none⟩), .pointer (some ⟨g13, 0, none⟩), u14, s15, s16, u17, u18, u19, u20, u21, u22, u23, u24, u25, u26, u27, u28, u29, s30, s31, s32, s33, s34, s35, u36, u37, u38, u39, u40, u41, u42, u43, u44, u45, u46, u47, u48, u49, u50, u51, u52, u53, u54, u55, u56, u57, u58, u59, u60, u61, u62, u63, u64, u65, u66, u67, u68, u69, u70, u71, u72, u73, u74, u75, u76, u77, u78, u79, u80, u81, u82, u83, u84, u85, u86, u87, u88, u89, u90, u91, u92, u93, u94, u95, u96, u97, u98, u99], []⟩ W')
    (hB : Bs w W) (hl2 : LB w.heap.size W P1 c1 P2 c2 xa pa) (hl5 : LB w.heap.size W Q1 d1 Q2 d2 xb pb) (hk6 : Blk W g6 41 #[.slice none 0 0, .slice none 0 0]) (hg6 : w.heap.size ≤ g6) :
    wpAnyH Try.prog .any (regOps (codeHead (bodyTail Try.f7 5))) Q (Bs w) 3 #[true, true, true, true, true, true, true, false, false, false] ⟨#[u0, u1, u2, u3, u4, u5, u6, u7, u8, u9, u10, .int .i64 t, .pointer (some ⟨g12, 0, none⟩), .pointer (some ⟨g13, 0, none⟩), u14, .pointer (some ⟨g6, 0, none⟩), u16, u17, u18, u19, u20, u21, u22, u23, u24, u25, u26, u27, u28, u29, .agg #[.slice Ba na ca, .slice Bp np cp], .int .i64 t, .agg #[.slice P1 xa.length c1, .slice P2 pa.length c2], .agg #[.slice Bb nb cb, .slice Bq nq cq], .int .i64 t, .agg #[.slice Q1 xb.length d1, .slice Q2 pb.length d2], u36, u37, u38, u39, u40, u41, u42, u43, u44, u45, u46, u47, u48, u49, u50, u51, u52, u53, u54, u55, u56, u57, u58, u59, u60, u61, u62, u63, u64, u65, u66, u67, u68, u69, u70, u71, u72, u73, u74, u75, u76, u77, u78, u79, u80, u81, u82, u83, u84, u85, u86, u87, u88, u89, u90, u91, u92, u93, u94, u95, u96, u97, u98, u99], []⟩ W := by
  conv => arg 3; whnf
  have HQ := Lib.hid hQ
  clear hQ
  refine wpAnyH_ready (rs := [7]) (by kernel_rfl) (by simp) ?_
  refine AllReadyH.cons rfl (fun K hK => ?_) ?_
  · obtain ⟨g7, hgg⟩ : ∃ g, W.heap.size = g := ⟨_, rfl⟩
    have hg7 : w.heap.size ≤ g7 := by rw [← hgg]; exact hB.size
    have hk7 := Blk.new W 41 #[.slice none 0 0, .slice none 0 0]
    rw [hgg] at hk7
    have hne : g6 ≠ g7 := by have := hk6.lt; omega
    have hbm := below_box W (.cells #[.slice none 0 0, .slice none 0 0] 41)
    have hB : Bs w (W.alloc (.cells #[.slice none 0 0, .slice none 0 0] 41)) := below_trans hB hbm
    have hl2 := hl2.below hbm
    have hl5 := hl5.below hbm
    have hk6 := hk6.alloc (.cells #[.slice none 0 0, .slice none 0 0] 41)
    clear hbm
    go_wp2_with fail
    clear hgg
    refine hK.out _ _ ?_ (fun hH => ?_)
    · exact hB
    clear hK K
    try simp only [Act.put, List.setIfInBounds_toArray, List.set_cons_zero, List.set_cons_succ]
    exact eq_01234567 Ba Bp Bb Bq na ca np cp nb cb nq cq g12 g13 xa xb pa pb t w _ HC HQ.out hB hl2 hl5 hk6 hg6 hk7 hg7 hne
  exact AllReadyH.nil

set_option maxHeartbeats 3200000 in
set_option maxRecDepth 100000 in
theorem eq_0123457 (Ba Bp Bb Bq : Option Addr) (na ca np cp nb cb nq cq g12 g13 : Nat) (xa xb : List Ent) (pa pb : List Int) (t : Int) {u0 u1 u2 u3 u4 u5 u6 u7 u8 u9 u10 u14 u15 u17 u18 u19 u20 u21 u22 u23 u24 u25 u26 u27 u28 u29 u36 u37 u38 u39 u40 u41 u42 u43 u44 u45 u46 u47 u48 u49 u50 u51 u52 u53 u54 u55 u56 u57 u58 u59 u60 u61 u62 u63 u64 u65 u66 u67 u68 u69 u70 u71 u72 u73 u74 u75 u76 u77 u78 u79 u80 u81 u82 u83 u84 u85 u86 u87 u88 u89 u90 u91 u92 u93 u94 u95 u96 u97 u98 u99 : Value} (w W : World) {Q : Exit → Act → World → Prop} (HC : Hid ((∀ V, Below w.heap.size w V → Calls Try.prog 19 #[.agg #[.slice Ba na ca, .slice Bp np cp], .int .i64 t] V (CopyScriptEnd xa pa V)) ∧ ∀ V, Below w.heap.size w V → Calls Try.prog 19 #[.agg #[.slice Bb nb cb, .slice Bq nq cq], .int .i64 t] V (CopyScriptEnd xb pb V)))  {P1 P2 : Option Addr} {c1 c2 : Nat} {Q1 Q2 : Option Addr} {d1 d2 : Nat} {g7 : Nat} (hQ : ∀ s15 s16 s30 s31 s32 s33 s34 s35 W', TwoB w xa xb pa pb s15 s16 W' → Q .normal ⟨#[u0, u1, u2, u3, u4, u5, u6, u7, u8, u9, u10, .int .i64 t, .pointer (some ⟨g12, 0, none⟩), .pointer (some ⟨g13, 0, none⟩), u14, s15, s16, u17, u18, u19, u20, u21, u22, u23, u24, u25, u26, u27, u28, u29, s30, s31, s32, s33, s34, s35, u36, u37, u38, u39, u40, u41, u42, u43, u44, u45, u46, u47, u48, u49, u50, u51, u52, u53, u54, u55, u56, u57, u58, u59, u60, u61, u62, u63, u64, u65, u66, u67, u68, u69, u70, u71, u72, u73, u74, u75, u76, u77, u78, u79, u80, u81, u82, u83, u84, u85, u86, u87, u88, u89, u90, u91, u92, u93, u94, u95, u96, u97, u98, u99], []⟩ W')
    (hB : Bs w W) (hl2 : LB w.heap.size W P1 c1 P2 c2 xa pa) (hl5 : LB w.heap.size W Q1 d1 Q2 d2 xb pb) (hk7 : Blk W g7 41 #[.slice none 0 0, .slice none 0 0]) (hg7 : w.heap.size ≤ g7) :
    wpAnyH Try.prog .any (regOps (codeHead (bodyTail Try.f7 5))) Q (Bs w) 3 #[true, true, true, true, true, true, false, true, false, false] ⟨#[u0, u1, u2, u3, u4, u5, u6, u7, u8, u9, u10, .int .i64 t, .pointer (some ⟨g12, 0, none⟩), .pointer (some ⟨g13, 0, none⟩), u14, u15, .pointer (some ⟨g7, 0, none⟩), u17, u18, u19, u20, u21, u22, u23, u24, u25, u26, u27, u28, u29, .agg #[.slice Ba na ca, .slice Bp np cp], .int .i64 t, .agg #[.slice P1 xa.length c1, .slice P2 pa.length c2], .agg #[.slice Bb nb cb, .slice Bq nq cq], .int .i64 t, .agg #[.slice Q1 xb.length d1, .slice Q2 pb.length d2], u36, u37, u38, u39, u40, u41, u42, u43, u44, u45, u46, u47, u48, u49, u50, u51, u52, u53, u54, u55, u56, u57, u58, u59, u60, u61, u62, u63, u64, u65, u66, u67, u68, u69, u70, u71, u72, u73, u74, u75, u76, u77, u78, u79, u80, u81, u82, u83, u84, u85, u86, u87, u88, u89, u90, u91, u92, u93, u94, u95, u96, u97, u98, u99], []⟩ W := by
  conv => arg 3; whnf
  have HQ := Lib.hid hQ
  clear hQ
  refine wpAnyH_ready (rs := [6]) (by kernel_rfl) (by simp) ?_
  refine AllReadyH.cons rfl (fun K hK => ?_) ?_
  · obtain ⟨g6, hgg⟩ : ∃ g, W.heap.size = g := ⟨_, rfl⟩
    have hg6 : w.heap.size ≤ g6 := by rw [← hgg]; exact hB.size
    have hk6 := Blk.new W 41 #[.slice none 0 0, .slice none 0 0]
    rw [hgg] at hk6
    have hne : g6 ≠ g7 := by have := hk7.lt; omega
    have hbm := below_box W (.cells #[.slice none 0 0, .slice none 0 0] 41)
    have hB : Bs w (W.alloc (.cells #[.slice none 0 0, .slice none 0 0] 41)) := below_trans hB hbm
    have hl2 := hl2.below hbm
    have hl5 := hl5.below hbm
    have hk7 := hk7.alloc (.cells #[.slice none 0 0, .slice none 0 0] 41)
    clear hbm
    go_wp2_with fail
    clear hgg
    refine hK.out _ _ ?_ (fun hH => ?_)
    · exact hB
    clear hK K
    try simp only [Act.put, List.setIfInBounds_toArray, List.set_cons_zero, List.set_cons_succ]
    exact eq_01234567 Ba Bp Bb Bq na ca np cp nb cb nq cq g12 g13 xa xb pa pb t w _ HC HQ.out hB hl2 hl5 hk6 hg6 hk7 hg7 hne
  exact AllReadyH.nil

set_option maxHeartbeats 3200000 in
set_option maxRecDepth 100000 in
theorem eq_0123467 (Ba Bp Bb Bq : Option Addr) (na ca np cp nb cb nq cq g12 g13 : Nat) (xa xb : List Ent) (pa pb : List Int) (t : Int) {u0 u1 u2 u3 u4 u5 u6 u7 u8 u9 u10 u14 u17 u18 u19 u20 u21 u22 u23 u24 u25 u26 u27 u28 u29 u35 u36 u37 u38 u39 u40 u41 u42 u43 u44 u45 u46 u47 u48 u49 u50 u51 u52 u53 u54 u55 u56 u57 u58 u59 u60 u61 u62 u63 u64 u65 u66 u67 u68 u69 u70 u71 u72 u73 u74 u75 u76 u77 u78 u79 u80 u81 u82 u83 u84 u85 u86 u87 u88 u89 u90 u91 u92 u93 u94 u95 u96 u97 u98 u99 : Value} (w W : World) {Q : Exit → Act → World → Prop} (HC : Hid ((∀ V, Below w.heap.size w V → Calls Try.prog 19 #[.agg #[.slice Ba na ca, .slice Bp np cp], .int .i64 t] V (CopyScriptEnd xa pa V)) ∧ ∀ V, Below w.heap.size w V → Calls Try.prog 19 #[.agg #[.slice Bb nb cb, .slice Bq nq cq], .int .i64 t] V (CopyScriptEnd xb pb V)))  {P1 P2 : Option Addr} {c1 c2 : Nat} {g6 : Nat} {g7 : Nat} (hQ : ∀ s15 s16 s30 s31 s32 s33 s34 s35 W', TwoB w xa xb pa pb s15 s16 W' → Q .normal ⟨#[u0, u1, u2, u3, u4, u5, u6, u7, u8, u9, u10, .int .i64 t, .pointer (some ⟨g12, 0, none⟩), .pointer (some ⟨g13, 0, none⟩), u14, s15, s16, u17, u18, u19, u20, u21, u22, u23, u24, u25, u26, u27, u28, u29, s30, s31, s32, s33, s34, s35, u36, u37, u38, u39, u40, u41, u42, u43, u44, u45, u46, u47, u48, u49, u50, u51, u52, u53, u54, u55, u56, u57, u58, u59, u60, u61, u62, u63, u64, u65, u66, u67, u68, u69, u70, u71, u72, u73, u74, u75, u76, u77, u78, u79, u80, u81, u82, u83, u84, u85, u86, u87, u88, u89, u90, u91, u92, u93, u94, u95, u96, u97, u98, u99], []⟩ W')
    (hB : Bs w W) (hl2 : LB w.heap.size W P1 c1 P2 c2 xa pa) (hk6 : Blk W g6 41 #[.slice none 0 0, .slice none 0 0]) (hg6 : w.heap.size ≤ g6) (hk7 : Blk W g7 41 #[.slice none 0 0, .slice none 0 0]) (hg7 : w.heap.size ≤ g7) (hne : g6 ≠ g7) :
    wpAnyH Try.prog .any (regOps (codeHead (bodyTail Try.f7 5))) Q (Bs w) 3 #[true, true, true, true, true, false, true, true, false, false] ⟨#[u0, u1, u2, u3, u4, u5, u6, u7, u8, u9, u10, .int .i64 t, .pointer (some ⟨g12, 0, none⟩), .pointer (some ⟨g13, 0, none⟩), u14, .pointer (some ⟨g6, 0, none⟩), .pointer (some ⟨g7, 0, none⟩), u17, u18, u19, u20, u21, u22, u23, u24, u25, u26, u27, u28, u29, .agg #[.slice Ba na ca, .slice Bp np cp], .int .i64 t, .agg #[.slice P1 xa.length c1, .slice P2 pa.length c2], .agg #[.slice Bb nb cb, .slice Bq nq cq], .int .i64 t, u35, u36, u37, u38, u39, u40, u41, u42, u43, u44, u45, u46, u47, u48, u49, u50, u51, u52, u53, u54, u55, u56, u57, u58, u59, u60, u61, u62, u63, u64, u65, u66, u67, u68, u69, u70, u71, u72, u73, u74, u75, u76, u77, u78, u79, u80, u81, u82, u83, u84, u85, u86, u87, u88, u89, u90, u91, u92, u93, u94, u95, u96, u97, u98, u99], []⟩ W := by
  conv => arg 3; whnf
  have HQ := Lib.hid hQ
  clear hQ
  refine wpAnyH_ready (rs := [5]) (by kernel_rfl) (by simp) ?_
  refine AllReadyH.cons rfl (fun K hK => ?_) ?_
  · go_simp
    go_at_call 19
    refine (HC.out.2 _ hB).mono ?_
    rintro e W2 ⟨Q1, d1, Q2, d2, rfl, ho1, ho2, hbm⟩
    have hl5 : LB w.heap.size W2 Q1 d1 Q2 d2 xb pb := ⟨ownsRow_more ho1 hB.size, ownsRow_more ho2 hB.size⟩
    have hB : Bs w W2 := below_trans hB hbm
    have hl2 := hl2.below hbm
    have hk6 := hk6.below hbm hk6.lt
    have hk7 := hk7.below hbm hk7.lt
    clear ho1 ho2 hbm
    go_wp2_with fail
    refine hK.out _ _ ?_ (fun hH => ?_)
    · exact hB
    clear hK K
    try simp only [Act.put, List.setIfInBounds_toArray, List.set_cons_zero, List.set_cons_succ]
    exact eq_01234567 Ba Bp Bb Bq na ca np cp nb cb nq cq g12 g13 xa xb pa pb t w _ HC HQ.out hB hl2 hl5 hk6 hg6 hk7 hg7 hne
  exact AllReadyH.nil

set_option maxHeartbeats 3200000 in
set_option maxRecDepth 100000 in
theorem eq_012345 (Ba Bp Bb Bq : Option Addr) (na ca np cp nb cb nq cq g12 g13 : Nat) (xa xb : List Ent) (pa pb : List Int) (t : Int) {u0 u1 u2 u3 u4 u5 u6 u7 u8 u9 u10 u14 u15 u16 u17 u18 u19 u20 u21 u22 u23 u24 u25 u26 u27 u28 u29 u36 u37 u38 u39 u40 u41 u42 u43 u44 u45 u46 u47 u48 u49 u50 u51 u52 u53 u54 u55 u56 u57 u58 u59 u60 u61 u62 u63 u64 u65 u66 u67 u68 u69 u70 u71 u72 u73 u74 u75 u76 u77 u78 u79 u80 u81 u82 u83 u84 u85 u86 u87 u88 u89 u90 u91 u92 u93 u94 u95 u96 u97 u98 u99 : Value} (w W : World) {Q : Exit → Act → World → Prop} (HC : Hid ((∀ V, Below w.heap.size w V → Calls Try.prog 19 #[.agg #[.slice Ba na ca, .slice Bp np cp], .int .i64 t] V (CopyScriptEnd xa pa V)) ∧ ∀ V, Below w.heap.size w V → Calls Try.prog 19 #[.agg #[.slice Bb nb cb, .slice Bq nq cq], .int .i64 t] V (CopyScriptEnd xb pb V)))  {P1 P2 : Option Addr} {c1 c2 : Nat} {Q1 Q2 : Option Addr} {d1 d2 : Nat} (hQ : ∀ s15 s16 s30 s31 s32 s33 s34 s35 W', TwoB w xa xb pa pb s15 s16 W' → Q .normal ⟨#[u0, u1, u2, u3, u4, u5, u6, u7, u8, u9, u10, .int .i64 t, .pointer (some ⟨g12, 0, none⟩), .pointer (some ⟨g13, 0, none⟩), u14, s15, s16, u17, u18, u19, u20, u21, u22, u23, u24, u25, u26, u27, u28, u29, s30, s31, s32, s33, s34, s35, u36, u37, u38, u39, u40, u41, u42, u43, u44, u45, u46, u47, u48, u49, u50, u51, u52, u53, u54, u55, u56, u57, u58, u59, u60, u61, u62, u63, u64, u65, u66, u67, u68, u69, u70, u71, u72, u73, u74, u75, u76, u77, u78, u79, u80, u81, u82, u83, u84, u85, u86, u87, u88, u89, u90, u91, u92, u93, u94, u95, u96, u97, u98, u99], []⟩ W')
    (hB : Bs w W) (hl2 : LB w.heap.size W P1 c1 P2 c2 xa pa) (hl5 : LB w.heap.size W Q1 d1 Q2 d2 xb pb) :
    wpAnyH Try.prog .any (regOps (codeHead (bodyTail Try.f7 5))) Q (Bs w) 4 #[true, true, true, true, true, true, false, false, false, false] ⟨#[u0, u1, u2, u3, u4, u5, u6, u7, u8, u9, u10, .int .i64 t, .pointer (some ⟨g12, 0, none⟩), .pointer (some ⟨g13, 0, none⟩), u14, u15, u16, u17, u18, u19, u20, u21, u22, u23, u24, u25, u26, u27, u28, u29, .agg #[.slice Ba na ca, .slice Bp np cp], .int .i64 t, .agg #[.slice P1 xa.length c1, .slice P2 pa.length c2], .agg #[.slice Bb nb cb, .slice Bq nq cq], .int .i64 t, .agg #[.slice Q1 xb.length d1, .slice Q2 pb.length d2], u36, u37, u38, u39, u40, u41, u42, u43, u44, u45, u46, u47, u48, u49, u50, u51, u52, u53, u54, u55, u56, u57, u58, u59, u60, u61, u62, u63, u64, u65, u66, u67, u68, u69, u70, u71, u72, u73, u74, u75, u76, u77, u78, u79, u80, u81, u82, u83, u84, u85, u86, u87, u88, u89, u90, u91, u92, u93, u94, u95, u96, u97, u98, u99], []⟩ W := by
  conv => arg 3; whnf
  have HQ := Lib.hid hQ
  clear hQ
  refine wpAnyH_ready (rs := [6, 7]) (by kernel_rfl) (by simp) ?_
  refine AllReadyH.cons rfl (fun K hK => ?_) ?_
  · obtain ⟨g6, hgg⟩ : ∃ g, W.heap.size = g := ⟨_, rfl⟩
    have hg6 : w.heap.size ≤ g6 := by rw [← hgg]; exact hB.size
    have hk6 := Blk.new W 41 #[.slice none 0 0, .slice none 0 0]
    rw [hgg] at hk6
    have hbm := below_box W (.cells #[.slice none 0 0, .slice none 0 0] 41)
    have hB : Bs w (W.alloc (.cells #[.slice none 0 0, .slice none 0 0] 41)) := below_trans hB hbm
    have hl2 := hl2.below hbm
    have hl5 := hl5.below hbm
    clear hbm
    go_wp2_with fail
    clear hgg
    refine hK.out _ _ ?_ (fun hH => ?_)
    · exact hB
    clear hK K
    try simp only [Act.put, List.setIfInBounds_toArray, List.set_cons_zero, List.set_cons_succ]
    exact eq_0123456 Ba Bp Bb Bq na ca np cp nb cb nq cq g12 g13 xa xb pa pb t w _ HC HQ.out hB hl2 hl5 hk6 hg6
  refine AllReadyH.cons rfl (fun K hK => ?_) ?_
  · obtain ⟨g7, hgg⟩ : ∃ g, W.heap.size = g := ⟨_, rfl⟩
    have hg7 : w.heap.size ≤ g7 := by rw [← hgg]; exact hB.size
    have hk7 := Blk.new W 41 #[.slice none 0 0, .slice none 0 0]
    rw [hgg] at hk7
    have hbm := below_box W (.cells #[.slice none 0 0, .slice none 0 0] 41)
    have hB : Bs w (W.alloc (.cells #[.slice none 0 0, .slice none 0 0] 41)) := below_trans hB hbm
    have hl2 := hl2.below hbm
    have hl5 := hl5.below hbm
    clear hbm
    go_wp2_with fail
    clear hgg
    refine hK.out _ _ ?_ (fun hH => ?_)
    · exact hB
    clear hK K
    try simp only [Act.put, List.setIfInBounds_toArray, List.set_cons_zero, List.set_cons_succ]
    exact eq_0123457 Ba Bp Bb Bq na ca np cp nb cb nq cq g12 g13 xa xb pa pb t w _ HC HQ.out hB hl2 hl5 hk7 hg7
  exact AllReadyH.nil

set_option maxHeartbeats 3200000 in
set_option maxRecDepth 100000 in
theorem eq_012346 (Ba Bp Bb Bq : Option Addr) (na ca np cp nb cb nq cq g12 g13 : Nat) (xa xb : List Ent) (pa pb : List Int) (t : Int) {u0 u1 u2 u3 u4 u5 u6 u7 u8 u9 u10 u14 u16 u17 u18 u19 u20 u21 u22 u23 u24 u25 u26 u27 u28 u29 u35 u36 u37 u38 u39 u40 u41 u42 u43 u44 u45 u46 u47 u48 u49 u50 u51 u52 u53 u54 u55 u56 u57 u58 u59 u60 u61 u62 u63 u64 u65 u66 u67 u68 u69 u70 u71 u72 u73 u74 u75 u76 u77 u78 u79 u80 u81 u82 u83 u84 u85 u86 u87 u88 u89 u90 u91 u92 u93 u94 u95 u96 u97 u98 u99 : Value} (w W : World) {Q : Exit → Act → World → Prop} (HC : Hid ((∀ V, Below w.heap.size w V → Calls Try.prog 19 #[.agg #[.slice Ba na ca, .slice Bp np cp], .int .i64 t] V (CopyScriptEnd xa pa V)) ∧ ∀ V, Below w.heap.size w V → Calls Try.prog 19 #[.agg #[.slice Bb nb cb, .slice Bq nq cq], .int .i64 t] V (CopyScriptEnd xb pb V)))  {P1 P2 : Option Addr} {c1 c2 : Nat} {g6 : Nat} (hQ : ∀ s15 s16 s30 s31 s32 s33 s34 s35 W', TwoB w xa xb pa pb s15 s16 W' → Q .normal ⟨#[u0, u1, u2, u3, u4, u5, u6, u7, u8, u9, u10, .int .i64 t, .pointer (some ⟨g12, 0, none⟩), .pointer (some ⟨g13, 0, none⟩), u14, s15, s16, u17, u18, u19, u20, u21, u22, u23, u24, u25, u26, u27, u28, u29, s30, s31, s32, s33, s34, s35, u36, u37, u38, u39, u40, u41, u42, u43, u44, u45, u46, u47, u48, u49, u50, u51, u52, u53, u54, u55, u56, u57, u58, u59, u60, u61, u62, u63, u64, u65, u66, u67, u68, u69, u70, u71, u72, u73, u74, u75, u76, u77, u78, u79, u80, u81, u82, u83, u84, u85, u86, u87, u88, u89, u90, u91, u92, u93, u94, u95, u96, u97, u98, u99], []⟩ W')
    (hB : Bs w W) (hl2 : LB w.heap.size W P1 c1 P2 c2 xa pa) (hk6 : Blk W g6 41 #[.slice none 0 0, .slice none 0 0]) (hg6 : w.heap.size ≤ g6) :
    wpAnyH Try.prog .any (regOps (codeHead (bodyTail Try.f7 5))) Q (Bs w) 4 #[true, true, true, true, true, false, true, false, false, false] ⟨#[u0, u1, u2, u3, u4, u5, u6, u7, u8, u9, u10, .int .i64 t, .pointer (some ⟨g12, 0, none⟩), .pointer (some ⟨g13, 0, none⟩), u14, .pointer (some ⟨g6, 0, none⟩), u16, u17, u18, u19, u20, u21, u22, u23, u24, u25, u26, u27, u28, u29, .agg #[.slice Ba na ca, .slice Bp np cp], .int .i64 t, .agg #[.slice P1 xa.length c1, .slice P2 pa.length c2], .agg #[.slice Bb nb cb, .slice Bq nq cq], .int .i64 t, u35, u36, u37, u38, u39, u40, u41, u42, u43, u44, u45, u46, u47, u48, u49, u50, u51, u52, u53, u54, u55, u56, u57, u58, u59, u60, u61, u62, u63, u64, u65, u66, u67, u68, u69, u70, u71, u72, u73, u74, u75, u76, u77, u78, u79, u80, u81, u82, u83, u84, u85, u86, u87, u88, u89, u90, u91, u92, u93, u94, u95, u96, u97, u98, u99], []⟩ W := by
  conv => arg 3; whnf
  have HQ := Lib.hid hQ
  clear hQ
  refine wpAnyH_ready (rs := [5, 7]) (by kernel_rfl) (by simp) ?_
  refine AllReadyH.cons rfl (fun K hK => ?_) ?_
  · go_simp
    go_at_call 19
    refine (HC.out.2 _ hB).mono ?_
    rintro e W2 ⟨Q1, d1, Q2, d2, rfl, ho1, ho2, hbm⟩
    have hl5 : LB w.heap.size W2 Q1 d1 Q2 d2 xb pb := ⟨ownsRow_more ho1 hB.size, ownsRow_more ho2 hB.size⟩
    have hB : Bs w W2 := below_trans hB hbm
    have hl2 := hl2.below hbm
    have hk6 := hk6.below hbm hk6.lt
    clear ho1 ho2 hbm
    go_wp2_with fail
    refine hK.out _ _ ?_ (fun hH => ?_)
    · exact hB
    clear hK K
    try simp only [Act.put, List.setIfInBounds_toArray, List.set_cons_zero, List.set_cons_succ]
    exact eq_0123456 Ba Bp Bb Bq na ca np cp nb cb nq cq g12 g13 xa xb pa pb t w _ HC HQ.out hB hl2 hl5 hk6 hg6
  refine AllReadyH.cons rfl (fun K hK => ?_) ?_
  · obtain ⟨g7, hgg⟩ : ∃ g, W.heap.size = g := ⟨_, rfl⟩
    have hg7 : w.heap.size ≤ g7 := by rw [← hgg]; exact hB.size
    have hk7 := Blk.new W 41 #[.slice none 0 0, .slice none 0 0]
    rw [hgg] at hk7
    have hne : g6 ≠ g7 := by have := hk6.lt; omega
    have hbm := below_box W (.cells #[.slice none 0 0, .slice none 0 0] 41)
    have hB : Bs w (W.alloc (.cells #[.slice none 0 0, .slice none 0 0] 41)) := below_trans hB hbm
    have hl2 := hl2.below hbm
    have hk6 := hk6.alloc (.cells #[.slice none 0 0, .slice none 0 0] 41)
    clear hbm
    go_wp2_with fail
    clear hgg
    refine hK.out _ _ ?_ (fun hH => ?_)
    · exact hB
    clear hK K
    try simp only [Act.put, List.setIfInBounds_toArray, List.set_cons_zero, List.set_cons_succ]
    exact eq_0123467 Ba Bp Bb Bq na ca np cp nb cb nq cq g12 g13 xa xb pa pb t w _ HC HQ.out hB hl2 hk6 hg6 hk7 hg7 hne
  exact AllReadyH.nil

set_option maxHeartbeats 3200000 in
set_option maxRecDepth 100000 in
theorem eq_012347 (Ba Bp Bb Bq : Option Addr) (na ca np cp nb cb nq cq g12 g13 : Nat) (xa xb : List Ent) (pa pb : List Int) (t : Int) {u0 u1 u2 u3 u4 u5 u6 u7 u8 u9 u10 u14 u15 u17 u18 u19 u20 u21 u22 u23 u24 u25 u26 u27 u28 u29 u35 u36 u37 u38 u39 u40 u41 u42 u43 u44 u45 u46 u47 u48 u49 u50 u51 u52 u53 u54 u55 u56 u57 u58 u59 u60 u61 u62 u63 u64 u65 u66 u67 u68 u69 u70 u71 u72 u73 u74 u75 u76 u77 u78 u79 u80 u81 u82 u83 u84 u85 u86 u87 u88 u89 u90 u91 u92 u93 u94 u95 u96 u97 u98 u99 : Value} (w W : World) {Q : Exit → Act → World → Prop} (HC : Hid ((∀ V, Below w.heap.size w V → Calls Try.prog 19 #[.agg #[.slice Ba na ca, .slice Bp np cp], .int .i64 t] V (CopyScriptEnd xa pa V)) ∧ ∀ V, Below w.heap.size w V → Calls Try.prog 19 #[.agg #[.slice Bb nb cb, .slice Bq nq cq], .int .i64 t] V (CopyScriptEnd xb pb V)))  {P1 P2 : Option Addr} {c1 c2 : Nat} {g7 : Nat} (hQ : ∀ s15 s16 s30 s31 s32 s33 s34 s35 W', TwoB w xa xb pa pb s15 s16 W' → Q .normal ⟨#[u0, u1, u2, u3, u4, u5, u6, u7, u8, u9, u10, .int .i64 t, .pointer (some ⟨g12, 0, none⟩), .pointer (some ⟨g13, 0, none⟩), u14, s15, s16, u17, u18, u19, u20, u21, u22, u23, u24, u25, u26, u27, u28, u29, s30, s31, s32, s33, s34, s35, u36, u37, u38, u39, u40, u41, u42, u43, u44, u45, u46, u47, u48, u49, u50, u51, u52, u53, u54, u55, u56, u57, u58, u59, u60, u61, u62, u63, u64, u65, u66, u67, u68, u69, u70, u71, u72, u73, u74, u75, u76, u77, u78, u79, u80, u81, u82, u83, u84, u85, u86, u87, u88, u89, u90, u91, u92, u93, u94, u95, u96, u97, u98, u99], []⟩ W')
    (hB : Bs w W) (hl2 : LB w.heap.size W P1 c1 P2 c2 xa pa) (hk7 : Blk W g7 41 #[.slice none 0 0, .slice none 0 0]) (hg7 : w.heap.size ≤ g7) :
    wpAnyH Try.prog .any (regOps (codeHead (bodyTail Try.f7 5))) Q (Bs w) 4 #[true, true, true, true, true, false, false, true, false, false] ⟨#[u0, u1, u2, u3, u4, u5, u6, u7, u8, u9, u10, .int .i64 t, .pointer (some ⟨g12, 0, none⟩), .pointer (some ⟨g13, 0, none⟩), u14, u15, .pointer (some ⟨g7, 0, none⟩), u17, u18, u19, u20, u21, u22, u23, u24, u25, u26, u27, u28, u29, .agg #[.slice Ba na ca, .slice Bp np cp], .int .i64 t, .agg #[.slice P1 xa.length c1, .slice P2 pa.length c2], .agg #[.slice Bb nb cb, .slice Bq nq cq], .int .i64 t, u35, u36, u37, u38, u39, u40, u41, u42, u43, u44, u45, u46, u47, u48, u49, u50, u51, u52, u53, u54, u55, u56, u57, u58, u59, u60, u61, u62, u63, u64, u65, u66, u67, u68, u69, u70, u71, u72, u73, u74, u75, u76, u77, u78, u79, u80, u81, u82, u83, u84, u85, u86, u87, u88, u89, u90, u91, u92, u93, u94, u95, u96, u97, u98, u99], []⟩ W := by
  conv => arg 3; whnf
  have HQ := Lib.hid hQ
  clear hQ
  refine wpAnyH_ready (rs := [5, 6]) (by kernel_rfl) (by simp) ?_
  refine AllReadyH.cons rfl (fun K hK => ?_) ?_
  · go_simp
    go_at_call 19
    refine (HC.out.2 _ hB).mono ?_
    rintro e W2 ⟨Q1, d1, Q2, d2, rfl, ho1, ho2, hbm⟩
    have hl5 : LB w.heap.size W2 Q1 d1 Q2 d2 xb pb := ⟨ownsRow_more ho1 hB.size, ownsRow_more ho2 hB.size⟩
    have hB : Bs w W2 := below_trans hB hbm
    have hl2 := hl2.below hbm
    have hk7 := hk7.below hbm hk7.lt
    clear ho1 ho2 hbm
    go_wp2_with fail
    refine hK.out _ _ ?_ (fun hH => ?_)
    · exact hB
    clear hK K
    try simp only [Act.put, List.setIfInBounds_toArray, List.set_cons_zero, List.set_cons_succ]
    exact eq_0123457 Ba Bp Bb Bq na ca np cp nb cb nq cq g12 g13 xa xb pa pb t w _ HC HQ.out hB hl2 hl5 hk7 hg7
  refine AllReadyH.cons rfl (fun K hK => ?_) ?_
  · obtain ⟨g6, hgg⟩ : ∃ g, W.heap.size = g := ⟨_, rfl⟩
    have hg6 : w.heap.size ≤ g6 := by rw [← hgg]; exact hB.size
    have hk6 := Blk.new W 41 #[.slice none 0 0, .slice none 0 0]
    rw [hgg] at hk6
    have hne : g6 ≠ g7 := by have := hk7.lt; omega
    have hbm := below_box W (.cells #[.slice none 0 0, .slice none 0 0] 41)
    have hB : Bs w (W.alloc (.cells #[.slice none 0 0, .slice none 0 0] 41)) := below_trans hB hbm
    have hl2 := hl2.below hbm
    have hk7 := hk7.alloc (.cells #[.slice none 0 0, .slice none 0 0] 41)
    clear hbm
    go_wp2_with fail
    clear hgg
    refine hK.out _ _ ?_ (fun hH => ?_)
    · exact hB
    clear hK K
    try simp only [Act.put, List.setIfInBounds_toArray, List.set_cons_zero, List.set_cons_succ]
    exact eq_0123467 Ba Bp Bb Bq na ca np cp nb cb nq cq g12 g13 xa xb pa pb t w _ HC HQ.out hB hl2 hk6 hg6 hk7 hg7 hne
  exact AllReadyH.nil

set_option maxHeartbeats 3200000 in
set_option maxRecDepth 100000 in
theorem eq_013467 (Ba Bp Bb Bq : Option Addr) (na ca np cp nb cb nq cq g12 g13 : Nat) (xa xb : List Ent) (pa pb : List Int) (t : Int) {u0 u1 u2 u3 u4 u5 u6 u7 u8 u9 u10 u14 u17 u18 u19 u20 u21 u22 u23 u24 u25 u26 u27 u28 u29 u32 u35 u36 u37 u38 u39 u40 u41 u42 u43 u44 u45 u46 u47 u48 u49 u50 u51 u52 u53 u54 u55 u56 u57 u58 u59 u60 u61 u62 u63 u64 u65 u66 u67 u68 u69 u70 u71 u72 u73 u74 u75 u76 u77 u78 u79 u80 u81 u82 u83 u84 u85 u86 u87 u88 u89 u90 u91 u92 u93 u94 u95 u96 u97 u98 u99 : Value} (w W : World) {Q : Exit → Act → World → Prop} (HC : Hid ((∀ V, Below w.heap.size w V → Calls Try.prog 19 #[.agg #[.slice Ba na ca, .slice Bp np cp], .int .i64 t] V (CopyScriptEnd xa pa V)) ∧ ∀ V, Below w.heap.size w V → Calls Try.prog 19 #[.agg #[.slice Bb nb cb, .slice Bq nq cq], .int .i64 t] V (CopyScriptEnd xb pb V)))  {g6 : Nat} {g7 : Nat} (hQ : ∀ s15 s16 s30 s31 s32 s33 s34 s35 W', TwoB w xa xb pa pb s15 s16 W' → Q .normal ⟨#[u0, u1, u2, u3, u4, u5, u6, u7, u8, u9, u10, .int .i64 t, .pointer (some ⟨g12, 0, none⟩), .pointer (some ⟨g13, 0, none⟩), u14, s15, s16, u17, u18, u19, u20, u21, u22, u23, u24, u25, u26, u27, u28, u29, s30, s31, s32, s33, s34, s35, u36, u37, u38, u39, u40, u41, u42, u43, u44, u45, u46, u47, u48, u49, u50, u51, u52, u53, u54, u55, u56, u57, u58, u59, u60, u61, u62, u63, u64, u65, u66, u67, u68, u69, u70, u71, u72, u73, u74, u75, u76, u77, u78, u79, u80, u81, u82, u83, u84, u85, u86, u87, u88, u89, u90, u91, u92, u93, u94, u95, u96, u97, u98, u99], []⟩ W')
    (hB : Bs w W) (hk6 : Blk W g6 41 #[.slice none 0 0, .slice none 0 0]) (hg6 : w.heap.size ≤ g6) (hk7 : Blk W g7 41 #[.slice none 0 0, .slice none 0 0]) (hg7 : w.heap.size ≤ g7) (hne : g6 ≠ g7) :
    wpAnyH Try.prog .any (regOps (codeHead (bodyTail Try.f7 5))) Q (Bs w) 4 #[true, true, false, true, true, false, true, true, false, false] ⟨#[u0, u1, u2, u3, u4, u5, u6, u7, u8, u9, u10, .int .i64 t, .pointer (some ⟨g12, 0, none⟩), .pointer (some ⟨g13, 0, none⟩), u14, .pointer (some ⟨g6, 0, none⟩), .pointer (some ⟨g7, 0, none⟩), u17, u18, u19, u20, u21, u22, u23, u24, u25, u26, u27, u28, u29, .agg #[.slice Ba na ca, .slice Bp np cp], .int .i64 t, u32, .agg #[.slice Bb nb cb, .slice Bq nq cq], .int .i64 t, u35, u36, u37, u38, u39, u40, u41, u42, u43, u44, u45, u46, u47, u48, u49, u50, u51, u52, u53, u54, u55, u56, u57, u58, u59, u60, u61, u62, u63, u64, u65, u66, u67, u68, u69, u70, u71, u72, u73, u74, u75, u76, u77, u78, u79, u80, u81, u82, u83, u84, u85, u86, u87, u88, u89, u90, u91, u92, u93, u94, u95, u96, u97, u98, u99], []⟩ W := by
  conv => arg 3; whnf
  have HQ := Lib.hid hQ
  clear hQ
  refine wpAnyH_ready (rs := [2]) (by kernel_rfl) (by simp) ?_
  refine AllReadyH.cons rfl (fun K hK => ?_) ?_
  · go_simp
    go_at_call 19
    refine (HC.out.1 _ hB).mono ?_
    rintro e W2 ⟨P1, c1, P2, c2, rfl, ho1, ho2, hbm⟩
    have hl2 : LB w.heap.size W2 P1 c1 P2 c2 xa pa := ⟨ownsRow_more ho1 hB.size, ownsRow_more ho2 hB.size⟩
    have hB : Bs w W2 := below_trans hB hbm
    have hk6 := hk6.below hbm hk6.lt
    have hk7 := hk7.below hbm hk7.lt
    clear ho1 ho2 hbm
    go_wp2_with fail
    refine hK.out _ _ ?_ (fun hH => ?_)
    · exact hB
    clear hK K
    try simp only [Act.put, List.setIfInBounds_toArray, List.set_cons_zero, List.set_cons_succ]
    exact eq_0123467 Ba Bp Bb Bq na ca np cp nb cb nq cq g12 g13 xa xb pa pb t w _ HC HQ.out hB hl2 hk6 hg6 hk7 hg7 hne
  exact AllReadyH.nil

set_option maxHeartbeats 3200000 in
set_option maxRecDepth 100000 in
theorem eq_01234 (Ba Bp Bb Bq : Option Addr) (na ca np cp nb cb nq cq g12 g13 : Nat) (xa xb : List Ent) (pa pb : List Int) (t : Int) {u0 u1 u2 u3 u4 u5 u6 u7 u8 u9 u10 u14 u15 u16 u17 u18 u19 u20 u21 u22 u23 u24 u25 u26 u27 u28 u29 u35 u36 u37 u38 u39 u40 u41 u42 u43 u44 u45 u46 u47 u48 u49 u50 u51 u52 u53 u54 u55 u56 u57 u58 u59 u60 u61 u62 u63 u64 u65 u66 u67 u68 u69 u70 u71 u72 u73 u74 u75 u76 u77 u78 u79 u80 u81 u82 u83 u84 u85 u86 u87 u88 u89 u90 u91 u92 u93 u94 u95 u96 u97 u98 u99 : Value} (w W : World) {Q : Exit → Act → World → Prop} (HC : Hid ((∀ V, Below w.heap.size w V → Calls Try.prog 19 #[.agg #[.slice Ba na ca, .slice Bp np cp], .int .i64 t] V (CopyScriptEnd xa pa V)) ∧ ∀ V, Below w.heap.size w V → Calls Try.prog 19 #[.agg #[.slice Bb nb cb, .slice Bq nq cq], .int .i64 t] V (CopyScriptEnd xb pb V)))  {P1 P2 : Option Addr} {c1 c2 : Nat} (hQ : ∀ s15 s16 s30 s31 s32 s33 s34 s35 W', TwoB w xa xb pa pb s15 s16 W' → Q .normal ⟨#[u0, u1, u2, u3, u4, u5, u6, u7, u8, u9, u10, .int .i64 t, .pointer (some ⟨g12, 0, none⟩), .pointer (some ⟨g13, 0, none⟩), u14, s15, s16, u17, u18, u19, u20, u21, u22, u23, u24, u25, u26, u27, u28, u29, s30, s31, s32, s33, s34, s35, u36, u37, u38, u39, u40, u41, u42, u43, u44, u45, u46, u47, u48, u49, u50, u51, u52, u53, u54, u55, u56, u57, u58, u59, u60, u61, u62, u63, u64, u65, u66, u67, u68, u69, u70, u71, u72, u73, u74, u75, u76, u77, u78, u79, u80, u81, u82, u83, u84, u85, u86, u87, u88, u89, u90, u91, u92, u93, u94, u95, u96, u97, u98, u99], []⟩ W')
    (hB : Bs w W) (hl2 : LB w.heap.size W P1 c1 P2 c2 xa pa) :
    wpAnyH Try.prog .any (regOps (codeHead (bodyTail Try.f7 5))) Q (Bs w) 5 #[true, true, true, true, true, false, false, false, false, false] ⟨#[u0, u1, u2, u3, u4, u5, u6, u7, u8, u9, u10, .int .i64 t, .pointer (some ⟨g12, 0, none⟩), .pointer (some ⟨g13, 0, none⟩), u14, u15, u16, u17, u18, u19, u20, u21, u22, u23, u24, u25, u26, u27, u28, u29, .agg #[.slice Ba na ca, .slice Bp np cp], .int .i64 t, .agg #[.slice P1 xa.length c1, .slice P2 pa.length c2], .agg #[.slice Bb nb cb, .slice Bq nq cq], .int .i64 t, u35, u36, u37, u38, u39, u40, u41, u42, u43, u44, u45, u46, u47, u48, u49, u50, u51, u52, u53, u54, u55, u56, u57, u58, u59, u60, u61, u62, u63, u64, u65, u66, u67, u68, u69, u70, u71, u72, u73, u74, u75, u76, u77, u78, u79, u80, u81, u82, u83, u84, u85, u86, u87, u88, u89, u90, u91, u92, u93, u94, u95, u96, u97, u98, u99], []⟩ W := by
  conv => arg 3; whnf
  have HQ := Lib.hid hQ
  clear hQ
  refine wpAnyH_ready (rs := [5, 6, 7]) (by kernel_rfl) (by simp) ?_
  refine AllReadyH.cons rfl (fun K hK => ?_) ?_
  · go_simp
    go_at_call 19
    refine (HC.out.2 _ hB).mono ?_
    rintro e W2 ⟨Q1, d1, Q2, d2, rfl, ho1, ho2, hbm⟩
    have hl5 : LB w.heap.size W2 Q1 d1 Q2 d2 xb pb := ⟨ownsRow_more ho1 hB.size, ownsRow_more ho2 hB.size⟩
    have hB : Bs w W2 := below_trans hB hbm
    have hl2 := hl2.below hbm
    clear ho1 ho2 hbm
    go_wp2_with fail
    refine hK.out _ _ ?_ (fun hH => ?_)
    · exact hB
    clear hK K
    try simp only [Act.put, List.setIfInBounds_toArray, List.set_cons_zero, List.set_cons_succ]
    exact eq_012345 Ba Bp Bb Bq na ca np cp nb cb nq cq g12 g13 xa xb pa pb t w _ HC HQ.out hB hl2 hl5
  refine AllReadyH.cons rfl (fun K hK => ?_) ?_
  · obtain ⟨g6, hgg⟩ : ∃ g, W.heap.size = g := ⟨_, rfl⟩
    have hg6 : w.heap.size ≤ g6 := by rw [← hgg]; exact hB.size
    have hk6 := Blk.new W 41 #[.slice none 0 0, .slice none 0 0]
    rw [hgg] at hk6
    have hbm := below_box W (.cells #[.slice none 0 0, .slice none 0 0] 41)
    have hB : Bs w (W.alloc (.cells #[.slice none 0 0, .slice none 0 0] 41)) := below_trans hB hbm
    have hl2 := hl2.below hbm
    clear hbm
    go_wp2_with fail
    clear hgg
    refine hK.out _ _ ?_ (fun hH => ?_)
    · exact hB
    clear hK K
    try simp only [Act.put, List.setIfInBounds_toArray, List.set_cons_zero, List.set_cons_succ]
    exact eq_012346 Ba Bp Bb Bq na ca np cp nb cb nq cq g12 g13 xa xb pa pb t w _ HC HQ.out hB hl2 hk6 hg6
  refine AllReadyH.cons rfl (fun K hK => ?_) ?_
  · obtain ⟨g7, hgg⟩ : ∃ g, W.heap.size = g := ⟨_, rfl⟩
    have hg7 : w.heap.size ≤ g7 := by rw [← hgg]; exact hB.size
    have hk7 := Blk.new W 41 #[.slice none 0 0, .slice none 0 0]
    rw [hgg] at hk7
    have hbm := below_box W (.cells #[.slice none 0 0, .slice none 0 0] 41)
    have hB : Bs w (W.alloc (.cells #[.slice none 0 0, .slice none 0 0] 41)) := below_trans hB hbm
    have hl2 := hl2.below hbm
    clear hbm
    go_wp2_with fail
    clear hgg
    refine hK.out _ _ ?_ (fun hH => ?_)
    · exact hB
    clear hK K
    try simp only [Act.put, List.setIfInBounds_toArray, List.set_cons_zero, List.set_cons_succ]
    exact eq_012347 Ba Bp Bb Bq na ca np cp nb cb nq cq g12 g13 xa xb pa pb t w _ HC HQ.out hB hl2 hk7 hg7
  exact AllReadyH.nil

set_option maxHeartbeats 3200000 in
set_option maxRecDepth 100000 in
theorem eq_01346 (Ba Bp Bb Bq : Option Addr) (na ca np cp nb cb nq cq g12 g13 : Nat) (xa xb : List Ent) (pa pb : List Int) (t : Int) {u0 u1 u2 u3 u4 u5 u6 u7 u8 u9 u10 u14 u16 u17 u18 u19 u20 u21 u22 u23 u24 u25 u26 u27 u28 u29 u32 u35 u36 u37 u38 u39 u40 u41 u42 u43 u44 u45 u46 u47 u48 u49 u50 u51 u52 u53 u54 u55 u56 u57 u58 u59 u60 u61 u62 u63 u64 u65 u66 u67 u68 u69 u70 u71 u72 u73 u74 u75 u76 u77 u78 u79 u80 u81 u82 u83 u84 u85 u86 u87 u88 u89 u90 u91 u92 u93 u94 u95 u96 u97 u98 u99 : Value} (w W : World) {Q : Exit → Act → World → Prop} (HC : Hid ((∀ V, Below w.heap.size w V → Calls Try.prog 19 #[.agg #[.slice Ba na ca, .slice Bp np cp], .int .i64 t] V (CopyScriptEnd xa pa V)) ∧ ∀ V, Below w.heap.size w V → Calls Try.prog 19 #[.agg #[.slice Bb nb cb, .slice Bq nq cq], .int .i64 t] V (CopyScriptEnd xb pb V)))  {g6 : Nat} (hQ : ∀ s15 s16 s30 s31 s32 s33 s34 s35 W', TwoB w xa xb pa pb s15 s16 W' → Q .normal ⟨#[u0, u1, u2, u3, u4, u5, u6, u7, u8, u9, u10, .int .i64 t, .pointer (some ⟨g12, 0, none⟩), .pointer (some ⟨g13, 0, none⟩), u14, s15, s16, u17, u18, u19, u20, u21, u22, u23, u24, u25, u26, u27, u28, u29, s30, s31, s32, s33, s34, s35, u36, u37, u38, u39, u40, u41, u42, u43, u44, u45, u46, u47, u48, u49, u50, u51, u52, u53, u54, u55, u56, u57, u58, u59, u60, u61, u62, u63, u64, u65, u66, u67, u68, u69, u70, u71, u72, u73, u74, u75, u76, u77, u78, u79, u80, u81, u82, u83, u84, u85, u86, u87, u88, u89, u90, u91, u92, u93, u94, u95, u96, u97, u98, u99], []⟩ W')
    (hB : Bs w W) (hk6 : Blk W g6 41 #[.slice none 0 0, .slice none 0 0]) (hg6 : w.heap.size ≤ g6) :
    wpAnyH Try.prog .any (regOps (codeHead (bodyTail Try.f7 5))) Q (Bs w) 5 #[true, true, false, true, true, false, true, false, false, false] ⟨#[u0, u1, u2, u3, u4, u5, u6, u7, u8, u9, u10, .int .i64 t, .pointer (some ⟨g12, 0, none⟩), .pointer (some ⟨g13, 0, none⟩), u14, .pointer (some ⟨g6, 0, none⟩), u16, u17, u18, u19, u20, u21, u22, u23, u24, u25, u26, u27, u28, u29, .agg #[.slice Ba na ca, .slice Bp np cp], .int .i64 t, u32, .agg #[.slice Bb nb cb, .slice Bq nq cq], .int .i64 t, u35, u36, u37, u38, u39, u40, u41, u42, u43, u44, u45, u46, u47, u48, u49, u50, u51, u52, u53, u54, u55, u56, u57, u58, u59, u60, u61, u62, u63, u64, u65, u66, u67, u68, u69, u70, u71, u72, u73, u74, u75, u76, u77, u78, u79, u80, u81, u82, u83, u84, u85, u86, u87, u88, u89, u90, u91, u92, u93, u94, u95, u96, u97, u98, u99], []⟩ W := by
  conv => arg 3; whnf
  have HQ := Lib.hid hQ
  clear hQ
  refine wpAnyH_ready (rs := [2, 7]) (by kernel_rfl) (by simp) ?_
  refine AllReadyH.cons rfl (fun K hK => ?_) ?_
  · go_simp
    go_at_call 19
    refine (HC.out.1 _ hB).mono ?_
    rintro e W2 ⟨P1, c1, P2, c2, rfl, ho1, ho2, hbm⟩
    have hl2 : LB w.heap.size W2 P1 c1 P2 c2 xa pa := ⟨ownsRow_more ho1 hB.size, ownsRow_more ho2 hB.size⟩
    have hB : Bs w W2 := below_trans hB hbm
    have hk6 := hk6.below hbm hk6.lt
    clear ho1 ho2 hbm
    go_wp2_with fail
    refine hK.out _ _ ?_ (fun hH => ?_)
    · exact hB
    clear hK K
    try simp only [Act.put, List.setIfInBounds_toArray, List.set_cons_zero, List.set_cons_succ]
    exact eq_012346 Ba Bp Bb Bq na ca np cp nb cb nq cq g12 g13 xa xb pa pb t w _ HC HQ.out hB hl2 hk6 hg6
  refine AllReadyH.cons rfl (fun K hK => ?_) ?_
  · obtain ⟨g7, hgg⟩ : ∃ g, W.heap.size = g := ⟨_, rfl⟩
    have hg7 : w.heap.size ≤ g7 := by rw [← hgg]; exact hB.size
    have hk7 := Blk.new W 41 #[.slice none 0 0, .slice none 0 0]
    rw [hgg] at hk7
    have hne : g6 ≠ g7 := by have := hk6.lt; omega
    have hbm := below_box W (.cells #[.slice none 0 0, .slice none 0 0] 41)
    have hB : Bs w (W.alloc (.cells #[.slice none 0 0, .slice none 0 0] 41)) := below_trans hB hbm
    have hk6 := hk6.alloc (.cells #[.slice none 0 0, .slice none 0 0] 41)
    clear hbm
    go_wp2_with fail
    clear hgg
    refine hK.out _ _ ?_ (fun hH => ?_)
    · exact hB
    clear hK K
    try simp only [Act.put, List.setIfInBounds_toArray, List.set_cons_zero, List.set_cons_succ]
    exact eq_013467 Ba Bp Bb Bq na ca np cp nb cb nq cq g12 g13 xa xb pa pb t w _ HC HQ.out hB hk6 hg6 hk7 hg7 hne
  exact AllReadyH.nil

set_option maxHeartbeats 3200000 in
set_option maxRecDepth 100000 in
theorem eq_01347 (Ba Bp Bb Bq : Option Addr) (na ca np cp nb cb nq cq g12 g13 : Nat) (xa xb : List Ent) (pa pb : List Int) (t : Int) {u0 u1 u2 u3 u4 u5 u6 u7 u8 u9 u10 u14 u15 u17 u18 u19 u20 u21 u22 u23 u24 u25 u26 u27 u28 u29 u32 u35 u36 u37 u38 u39 u40 u41 u42 u43 u44 u45 u46 u47 u48 u49 u50 u51 u52 u53 u54 u55 u56 u57 u58 u59 u60 u61 u62 u63 u64 u65 u66 u67 u68 u69 u70 u71 u72 u73 u74 u75 u76 u77 u78 u79 u80 u81 u82 u83 u84 u85 u86 u87 u88 u89 u90 u91 u92 u93 u94 u95 u96 u97 u98 u99 : Value} (w W : World) {Q : Exit → Act → World → Prop} (HC : Hid ((∀ V, Below w.heap.size w V → Calls Try.prog 19 #[.agg #[.slice Ba na ca, .slice Bp np cp], .int .i64 t] V (CopyScriptEnd xa pa V)) ∧ ∀ V, Below w.heap.size w V → Calls Try.prog 19 #[.agg #[.slice Bb nb cb, .slice Bq nq cq], .int .i64 t] V (CopyScriptEnd xb pb V)))  {g7 : Nat} (hQ : ∀ s15 s16 s30 s31 s32 s33 s34 s35 W', TwoB w xa xb pa pb s15 s16 W' → Q .normal ⟨#[u0, u1, u2, u3, u4, u5, u6, u7, u8, u9, u10, .int .i64 t, .pointer (some ⟨g12, 0, none⟩), .pointer (some ⟨g13, 0, none⟩), u14, s15, s16, u17, u18, u19, u20, u21, u22, u23, u24, u25, u26, u27, u28, u29, s30, s31, s32, s33, s34, s35, u36, u37, u38, u39, u40, u41, u42, u43, u44, u45, u46, u47, u48, u49, u50, u51, u52, u53, u54, u55, u56, u57, u58, u59, u60, u61, u62, u63, u64, u65, u66, u67, u68, u69, u70, u71, u72, u73, u74, u75, u76, u77, u78, u79, u80, u81, u82, u83, u84, u85, u86, u87, u88, u89, u90, u91, u92, u93, u94, u95, u96, u97, u98, u99], []⟩ W')
    (hB : Bs w W) (hk7 : Blk W g7 41 #[.slice none 0 0, .slice none 0 0]) (hg7 : w.heap.size ≤ g7) :
    wpAnyH Try.prog .any (regOps (codeHead (bodyTail Try.f7 5))) Q (Bs w) 5 #[true, true, false, true, true, false, false, true, false, false] ⟨#[u0, u1, u2, u3, u4, u5, u6, u7, u8, u9, u10, .int .i64 t, .pointer (some ⟨g12, 0, none⟩), .pointer (some ⟨g13, 0, none⟩), u14, u15, .pointer (some ⟨g7, 0, none⟩), u17, u18, u19, u20, u21, u22, u23, u24, u25, u26, u27, u28, u29, .agg #[.slice Ba na ca, .slice Bp np cp], .int .i64 t, u32, .agg #[.slice Bb nb cb, .slice Bq nq cq], .int .i64 t, u35, u36, u37, u38, u39, u40, u41, u42, u43, u44, u45, u46, u47, u48, u49, u50, u51, u52, u53, u54, u55, u56, u57, u58, u59, u60, u61, u62, u63, u64, u65, u66, u67, u68, u69, u70, u71, u72, u73, u74, u75, u76, u77, u78, u79, u80, u81, u82, u83, u84, u85, u86, u87, u88, u89, u90, u91, u92, u93, u94, u95, u96, u97, u98, u99], []⟩ W := by
  conv => arg 3; whnf
  have HQ := Lib.hid hQ
  clear hQ
  refine wpAnyH_ready (rs := [2, 6]) (by kernel_rfl) (by simp) ?_
  refine AllReadyH.cons rfl (fun K hK => ?_) ?_
  · go_simp
    go_at_call 19
    refine (HC.out.1 _ hB).mono ?_
    rintro e W2 ⟨P1, c1, P2, c2, rfl, ho1, ho2, hbm⟩
    have hl2 : LB w.heap.size W2 P1 c1 P2 c2 xa pa := ⟨ownsRow_more ho1 hB.size, ownsRow_more ho2 hB.size⟩
    have hB : Bs w W2 := below_trans hB hbm
    have hk7 := hk7.below hbm hk7.lt
    clear ho1 ho2 hbm
    go_wp2_with fail
    refine hK.out _ _ ?_ (fun hH => ?_)
    · exact hB
    clear hK K
    try simp only [Act.put, List.setIfInBounds_toArray, List.set_cons_zero, List.set_cons_succ]
    exact eq_012347 Ba Bp Bb Bq na ca np cp nb cb nq cq g12 g13 xa xb pa pb t w _ HC HQ.out hB hl2 hk7 hg7
  refine AllReadyH.cons rfl (fun K hK => ?_) ?_
  · obtain ⟨g6, hgg⟩ : ∃ g, W.heap.size = g := ⟨_, rfl⟩
    have hg6 : w.heap.size ≤ g6 := by rw [← hgg]; exact hB.size
    have hk6 := Blk.new W 41 #[.slice none 0 0, .slice none 0 0]
    rw [hgg] at hk6
    have hne : g6 ≠ g7 := by have := hk7.lt; omega
    have hbm := below_box W (.cells #[.slice none 0 0, .slice none 0 0] 41)
    have hB : Bs w (W.alloc (.cells #[.slice none 0 0, .slice none 0 0] 41)) := below_trans hB hbm
    have hk7 := hk7.alloc (.cells #[.slice none 0 0, .slice none 0 0] 41)
    clear hbm
    go_wp2_with fail
    clear hgg
    refine hK.out _ _ ?_ (fun hH => ?_)
    · exact hB
    clear hK K
    try simp only [Act.put, List.setIfInBounds_toArray, List.set_cons_zero, List.set_cons_succ]
    exact eq_013467 Ba Bp Bb Bq na ca np cp nb cb nq cq g12 g13 xa xb pa pb t w _ HC HQ.out hB hk6 hg6 hk7 hg7 hne
  exact AllReadyH.nil

set_option maxHeartbeats 3200000 in
set_option maxRecDepth 100000 in
theorem eq_0134 (Ba Bp Bb Bq : Option Addr) (na ca np cp nb cb nq cq g12 g13 : Nat) (xa xb : List Ent) (pa pb : List Int) (t : Int) {u0 u1 u2 u3 u4 u5 u6 u7 u8 u9 u10 u14 u15 u16 u17 u18 u19 u20 u21 u22 u23 u24 u25 u26 u27 u28 u29 u32 u35 u36 u37 u38 u39 u40 u41 u42 u43 u44 u45 u46 u47 u48 u49 u50 u51 u52 u53 u54 u55 u56 u57 u58 u59 u60 u61 u62 u63 u64 u65 u66 u67 u68 u69 u70 u71 u72 u73 u74 u75 u76 u77 u78 u79 u80 u81 u82 u83 u84 u85 u86 u87 u88 u89 u90 u91 u92 u93 u94 u95 u96 u97 u98 u99 : Value} (w W : World) {Q : Exit → Act → World → Prop} (HC : Hid ((∀ V, Below w.heap.size w V → Calls Try.prog 19 #[.agg #[.slice Ba na ca, .slice Bp np cp], .int .i64 t] V (CopyScriptEnd xa pa V)) ∧ ∀ V, Below w.heap.size w V → Calls Try.prog 19 #[.agg #[.slice Bb nb cb, .slice Bq nq cq], .int .i64 t] V (CopyScriptEnd xb pb V)))  (hQ : ∀ s15 s16 s30 s31 s32 s33 s34 s35 W', TwoB w xa xb pa pb s15 s16 W' → Q .normal ⟨#[u0, u1, u2, u3, u4, u5, u6, u7, u8, u9, u10, .int .i64 t, .pointer (some ⟨g12, 0, none⟩), .pointer (some ⟨g13, 0, none⟩), u14, s15, s16, u17, u18, u19, u20, u21, u22, u23, u24, u25, u26, u27, u28, u29, s30, s31, s32, s33, s34, s35, u36, u37, u38, u39, u40, u41, u42, u43, u44, u45, u46, u47, u48, u49, u50, u51, u52, u53, u54, u55, u56, u57, u58, u59, u60, u61, u62, u63, u64, u65, u66, u67, u68, u69, u70, u71, u72, u73, u74, u75, u76, u77, u78, u79, u80, u81, u82, u83, u84, u85, u86, u87, u88, u89, u90, u91, u92, u93, u94, u95, u96, u97, u98, u99], []⟩ W')
    (hB : Bs w W) :
    wpAnyH Try.prog .any (regOps (codeHead (bodyTail Try.f7 5))) Q (Bs w) 6 #[true, true, false, true, true, false, false, false, false, false] ⟨#[u0, u1, u2, u3, u4, u5, u6, u7, u8, u9, u10, .int .i64 t, .pointer (some ⟨g12, 0, none⟩), .pointer (some ⟨g13, 0, none⟩), u14, u15, u16, u17, u18, u19, u20, u21, u22, u23, u24, u25, u26, u27, u28, u29, .agg #[.slice Ba na ca, .slice Bp np cp], .int .i64 t, u32, .agg #[.slice Bb nb cb, .slice Bq nq cq], .int .i64 t, u35, u36, u37, u38, u39, u40, u41, u42, u43, u44, u45, u46, u47, u48, u49, u50, u51, u52, u53, u54, u55, u56, u57, u58, u59, u60, u61, u62, u63, u64, u65, u66, u67, u68, u69, u70, u71, u72, u73, u74, u75, u76, u77, u78, u79, u80, u81, u82, u83, u84, u85, u86, u87, u88, u89, u90, u91, u92, u93, u94, u95, u96, u97, u98, u99], []⟩ W := by
  conv => arg 3; whnf
  have HQ := Lib.hid hQ
  clear hQ
  refine wpAnyH_ready (rs := [2, 6, 7]) (by kernel_rfl) (by simp) ?_
  refine AllReadyH.cons rfl (fun K hK => ?_) ?_
  · go_simp
    go_at_call 19
    refine (HC.out.1 _ hB).mono ?_
    rintro e W2 ⟨P1, c1, P2, c2, rfl, ho1, ho2, hbm⟩
    have hl2 : LB w.heap.size W2 P1 c1 P2 c2 xa pa := ⟨ownsRow_more ho1 hB.size, ownsRow_more ho2 hB.size⟩
    have hB : Bs w W2 := below_trans hB hbm
    clear ho1 ho2 hbm
    go_wp2_with fail
    refine hK.out _ _ ?_ (fun hH => ?_)
    · exact hB
    clear hK K
    try simp only [Act.put, List.setIfInBounds_toArray, List.set_cons_zero, List.set_cons_succ]
    exact eq_01234 Ba Bp Bb Bq na ca np cp nb cb nq cq g12 g13 xa xb pa pb t w _ HC HQ.out hB hl2
  refine AllReadyH.cons rfl (fun K hK => ?_) ?_
  · obtain ⟨g6, hgg⟩ : ∃ g, W.heap.size = g := ⟨_, rfl⟩
    have hg6 : w.heap.size ≤ g6 := by rw [← hgg]; exact hB.size
    have hk6 := Blk.new W 41 #[.slice none 0 0, .slice none 0 0]
    rw [hgg] at hk6
    have hbm := below_box W (.cells #[.slice none 0 0, .slice none 0 0] 41)
    have hB : Bs w (W.alloc (.cells #[.slice none 0 0, .slice none 0 0] 41)) := below_trans hB hbm
    clear hbm
    go_wp2_with fail
    clear hgg
    refine hK.out _ _ ?_ (fun hH => ?_)
    · exact hB
    clear hK K
    try simp only [Act.put, List.setIfInBounds_toArray, List.set_cons_zero, List.set_cons_succ]
    exact eq_01346 Ba Bp Bb Bq na ca np cp nb cb nq cq g12 g13 xa xb pa pb t w _ HC HQ.out hB hk6 hg6
  refine AllReadyH.cons rfl (fun K hK => ?_) ?_
  · obtain ⟨g7, hgg⟩ : ∃ g, W.heap.size = g := ⟨_, rfl⟩
    have hg7 : w.heap.size ≤ g7 := by rw [← hgg]; exact hB.size
    have hk7 := Blk.new W 41 #[.slice none 0 0, .slice none 0 0]
    rw [hgg] at hk7
    have hbm := below_box W (.cells #[.slice none 0 0, .slice none 0 0] 41)
    have hB : Bs w (W.alloc (.cells #[.slice none 0 0, .slice none 0 0] 41)) := below_trans hB hbm
    clear hbm
    go_wp2_with fail
    clear hgg
    refine hK.out _ _ ?_ (fun hH => ?_)
    · exact hB
    clear hK K
    try simp only [Act.put, List.setIfInBounds_toArray, List.set_cons_zero, List.set_cons_succ]
    exact eq_01347 Ba Bp Bb Bq na ca np cp nb cb nq cq g12 g13 xa xb pa pb t w _ HC HQ.out hB hk7 hg7
  exact AllReadyH.nil

set_option maxHeartbeats 3200000 in
set_option maxRecDepth 100000 in
theorem eq_region (Ba Bp Bb Bq : Option Addr) (na ca np cp nb cb nq cq g12 g13 : Nat) (xa xb : List Ent) (pa pb : List Int) (t : Int) {u0 u1 u2 u3 u4 u5 u6 u7 u8 u9 u10 u14 u15 u16 u17 u18 u19 u20 u21 u22 u23 u24 u25 u26 u27 u28 u29 u30 u31 u32 u33 u34 u35 u36 u37 u38 u39 u40 u41 u42 u43 u44 u45 u46 u47 u48 u49 u50 u51 u52 u53 u54 u55 u56 u57 u58 u59 u60 u61 u62 u63 u64 u65 u66 u67 u68 u69 u70 u71 u72 u73 u74 u75 u76 u77 u78 u79 u80 u81 u82 u83 u84 u85 u86 u87 u88 u89 u90 u91 u92 u93 u94 u95 u96 u97 u98 u99 : Value} (w W : World) {Q : Exit → Act → World → Prop} (HC : Hid ((∀ V, Below w.heap.size w V → Calls Try.prog 19 #[.agg #[.slice Ba na ca, .slice Bp np cp], .int .i64 t] V (CopyScriptEnd xa pa V)) ∧ ∀ V, Below w.heap.size w V → Calls Try.prog 19 #[.agg #[.slice Bb nb cb, .slice Bq nq cq], .int .i64 t] V (CopyScriptEnd xb pb V))) (hQ : ∀ s15 s16 s30 s31 s32 s33 s34 s35 W', TwoB w xa xb pa pb s15 s16 W' → Q .normal ⟨#[u0, u1, u2, u3, u4, u5, u6, u7, u8, u9, u10, .int .i64 t, .pointer (some ⟨g12, 0, none⟩), .pointer (some ⟨g13, 0, none⟩), u14, s15, s16, u17, u18, u19, u20, u21, u22, u23, u24, u25, u26, u27, u28, u29, s30, s31, s32, s33, s34, s35, u36, u37, u38, u39, u40, u41, u42, u43, u44, u45, u46, u47, u48, u49, u50, u51, u52, u53, u54, u55, u56, u57, u58, u59, u60, u61, u62, u63, u64, u65, u66, u67, u68, u69, u70, u71, u72, u73, u74, u75, u76, u77, u78, u79, u80, u81, u82, u83, u84, u85, u86, u87, u88, u89, u90, u91, u92, u93, u94, u95, u96, u97, u98, u99], []⟩ W')
    (hQp : ∀ d v c a w, Q (.panic c) (Act.put a d v) w → Q (.panic c) a w) (h12 : Blk w g12 41 #[.slice Ba na ca, .slice Bp np cp]) (h13 : Blk w g13 41 #[.slice Bb nb cb, .slice Bq nq cq]) (hB : Bs w W) :
    Code.wp Try.prog (codeHead (bodyTail Try.f7 5)) Q ⟨#[u0, u1, u2, u3, u4, u5, u6, u7, u8, u9, u10, .int .i64 t, .pointer (some ⟨g12, 0, none⟩), .pointer (some ⟨g13, 0, none⟩), u14, u15, u16, u17, u18, u19, u20, u21, u22, u23, u24, u25, u26, u27, u28, u29, u30, u31, u32, u33, u34, u35, u36, u37, u38, u39, u40, u41, u42, u43, u44, u45, u46, u47, u48, u49, u50, u51, u52, u53, u54, u55, u56, u57, u58, u59, u60, u61, u62, u63, u64, u65, u66, u67, u68, u69, u70, u71, u72, u73, u74, u75, u76, u77, u78, u79, u80, u81, u82, u83, u84, u85, u86, u87, u88, u89, u90, u91, u92, u93, u94, u95, u96, u97, u98, u99], []⟩ W := by
  conv => arg 2; whnf
  have HQ := Lib.hid hQ
  have H12 := Lib.hid h12
  have H13 := Lib.hid h13
  clear hQ h12 h13
  refine wp_region_held_drew (S := Bs w) (by kernel_rfl) ?_ (fun hHeld0 => ?_)
  · exact Below.drew hB
  refine wpAnyH_take (i := 0) (v := ?_) rfl (by kernel_rfl) (by kernel_rfl) (by kernel_rfl) (hQp _ _) (Or.inl ⟨by kernel_rfl, ?_⟩) hHeld0 ?_
  rotate_left
  · intro V hSw
    have x := H12.out.below hSw H12.out.lt
    have x0 := x.cell 0
    have x1 := x.cell 1
    simp at x0 x1
    clear hSw x
    go_simp <;> with_reducible rfl
  try simp only [Act.put, List.setIfInBounds_toArray, List.set_cons_zero, List.set_cons_succ]
  refine wpAnyH_take (i := 1) (v := ?_) rfl (by kernel_rfl) (by kernel_rfl) (by kernel_rfl) (hQp _ _) (Or.inl ⟨by kernel_rfl, ?_⟩) hHeld0 ?_
  rotate_left
  · intro V hSw
    clear hSw
    go_simp <;> with_reducible rfl
  try simp only [Act.put, List.setIfInBounds_toArray, List.set_cons_zero, List.set_cons_succ]
  refine wpAnyH_take (i := 3) (v := ?_) rfl (by kernel_rfl) (by kernel_rfl) (by kernel_rfl) (hQp _ _) (Or.inl ⟨by kernel_rfl, ?_⟩) hHeld0 ?_
  rotate_left
  · intro V hSw
    have x := H13.out.below hSw H13.out.lt
    have x0 := x.cell 0
    have x1 := x.cell 1
    simp at x0 x1
    clear hSw x
    go_simp <;> with_reducible rfl
  try simp only [Act.put, List.setIfInBounds_toArray, List.set_cons_zero, List.set_cons_succ]
  refine wpAnyH_take (i := 4) (v := ?_) rfl (by kernel_rfl) (by kernel_rfl) (by kernel_rfl) (hQp _ _) (Or.inl ⟨by kernel_rfl, ?_⟩) hHeld0 ?_
  rotate_left
  · intro V hSw
    clear hSw
    go_simp <;> with_reducible rfl
  try simp only [Act.put, List.setIfInBounds_toArray, List.set_cons_zero, List.set_cons_succ]
  exact eq_0134 Ba Bp Bb Bq na ca np cp nb cb nq cq g12 g13 xa xb pa pb t w _ HC HQ.out hHeld0
end Go.Proofs.Ytlmehmmdbdembaa
