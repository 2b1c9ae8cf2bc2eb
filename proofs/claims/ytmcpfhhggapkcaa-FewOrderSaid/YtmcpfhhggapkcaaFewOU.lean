/-
  Layer 7: FewOrder behind its loops.
-/
import Derived.Test.YtmcpfhhggapkcaaFewOT
namespace Go.Proofs.Ytmcpfhhggapkcaa
open Go.RowKit Go.Shelf
set_option linter.unusedVariables false
set_option linter.unusedSimpArgs false

theorem rowB_u8s (l : List Kid) : rowB l = u8s (l.map fun x => UInt8.ofNat x.1.val) := by
  unfold rowB u8s
  rw [List.map_map]
  refine List.map_congr_left fun x _ => ?_
  have := x.1.isLt
  simp
theorem grown_none {W V V' : World} {row : Option Nat} (h : W.grownBy V none) (hg : V.grownBy V' row) (hr : ∀ r, row = some r → W.heap.size ≤ r) : W.grownBy V' none :=
  ⟨hg.os.trans h.os, hg.tape.trans h.tape, hg.output.trans h.output, Nat.le_trans h.size hg.size, fun k hk _ => (hg.block k (Nat.lt_of_lt_of_le hk h.size) (fun e => by have := hr k e.symm; omega)).trans (h.block k hk (by simp))⟩
theorem grown_none_below {W V : World} (h : Below W.heap.size W V) : W.grownBy V none := ⟨h.os, h.tape, h.output, h.size, fun k hk _ => h.block k hk⟩
theorem grown_any {W V : World} (h : W.grownBy V none) (row : Option Nat) : W.grownBy V row := ⟨h.os, h.tape, h.output, h.size, fun k hk _ => h.block k hk (by simp)⟩
theorem row_string {V : World} {base n cap : Nat} {A : Option Addr} {ks : List Kid} (h : V.ownsRow base 5 1 (.slice A n cap) n (rowB ks)) (hA : A = none → n = 0 ∧ cap = 0) :
    (convert 22 9 (.slice A n cap)).run Try.prog V = .ok (.string ⟨(ks.map fun x => UInt8.ofNat x.1.val).toArray⟩) V :=
  run_string_of_reads _ _ 5 Try.underlying22 Try.underlying5 Try.underlying9 (fun e => (hA e).2) (by rw [← rowB_u8s]; exact Reads.of_own h)
/-- What abides in the first range, and in the second. -/
def Ord1 (W0 : World) (gy : Nat) (V : World) : Prop := W0.grownBy V none ∧ Blk V gy 22 #[.slice none 0 0]
def Ord2 (W0 : World) (gx lo n D : Nat) (vx : Value) (xs : List Value) (V : World) : Prop := W0.grownBy V none ∧ Blk V gx 22 #[vx] ∧ V.ownsRow lo 5 1 vx n xs ∧ V.heap[D]? = some (.deferred (some []))
theorem ord1_stays {W0 : World} {lo gx gy : Nat} (h1 : W0.heap.size ≤ lo) (h2 : W0.heap.size ≤ gx) (h3 : gy < lo) (h4 : gy ≠ gx) : Stays lo gx (Ord1 W0 gy) := by
  intro V V' row hs hg hr
  refine ⟨grown_none hs.1 hg (fun r e => by rcases hr r e with h | h <;> omega), hs.2.grown hg (fun e => by rcases hr gy e.symm with h | h <;> omega)⟩
theorem ord2_stays {W0 : World} {lo lo1 gx gy n D : Nat} {vx : Value} {xs : List Value} (h1 : W0.heap.size ≤ lo) (h2 : W0.heap.size ≤ gy) (h3 : gx < lo) (h4 : gx ≠ gy) (h5 : D < lo ∧ D ≠ gy) (h6 : ∀ g, vx.ownBlock = some g → g < lo ∧ g ≠ gy) : Stays lo gy (Ord2 W0 gx lo1 n D vx xs) := by
  intro V V' row hs hg hr
  obtain ⟨a1, a2, a3, a4⟩ := hs
  refine ⟨grown_none a1 hg (fun r e => by rcases hr r e with h | h <;> omega), a2.grown hg (fun e => by rcases hr gx e.symm with h | h <;> omega), a3.kept hg ?_, ?_⟩
  · cases hv : vx.ownBlock with
    | none => exact .inl rfl
    | some g => exact .inr (fun e => by have := h6 g hv; rcases hr g e.symm with h | h <;> omega)
  · exact (hg.block D (Array.getElem?_eq_some_iff.1 a4).1 (fun e => by rcases hr D e.symm with h | h <;> omega)).trans a4
/-- Behind the ranges. -/
def Ord5 (W0 : World) (gx gy lo1 lo2 n D1 D2 : Nat) (vx vy : Value) (xs : List Value) (W : World) : Prop := W0.grownBy W none ∧ Blk W gx 22 #[vx] ∧ W.ownsRow lo1 5 1 vx n xs ∧ W.heap[D1]? = some (.deferred (some [])) ∧ Blk W gy 22 #[vy] ∧ W.ownsRow lo2 5 1 vy n xs ∧ W.heap[D2]? = some (.deferred (some []))
theorem Ord5.grown {W0 W W' : World} {gx gy lo1 lo2 n D1 D2 : Nat} {vx vy : Value} {xs : List Value} {row : Option Nat} (h : Ord5 W0 gx gy lo1 lo2 n D1 D2 vx vy xs W) (hg : W.grownBy W' row) (h0 : ∀ r, row = some r → W.heap.size ≤ r) : Ord5 W0 gx gy lo1 lo2 n D1 D2 vx vy xs W' := by
  obtain ⟨a1, a2, a3, a4, a5, a6, a7⟩ := h
  have hf : ∀ {k : Nat} {o : Obj}, W.heap[k]? = some o → W'.heap[k]? = some o := fun {k o} hk => (hg.block k (Array.getElem?_eq_some_iff.1 hk).1 (fun e => by have := h0 k e.symm; have := (Array.getElem?_eq_some_iff.1 hk).1; omega)).trans hk
  have ho : ∀ {v : Value} {lo : Nat}, W.ownsRow lo 5 1 v n xs → W'.ownsRow lo 5 1 v n xs := fun {v lo} hv => hv.kept hg (by
    cases hv2 : v.ownBlock with
    | none => exact .inl rfl
    | some g => exact .inr (fun e => by have := h0 g e.symm; have := (hv.lt g hv2).2; omega))
  exact ⟨grown_none a1 hg (fun r e => Nat.le_trans a1.size (h0 r e)), hf a2, ho a3, hf a4, hf a5, ho a6, hf a7⟩
theorem Ord5.below {W0 W W' : World} {gx gy lo1 lo2 n D1 D2 : Nat} {vx vy : Value} {xs : List Value} (h : Ord5 W0 gx gy lo1 lo2 n D1 D2 vx vy xs W) (hb : Below W.heap.size W W') : Ord5 W0 gx gy lo1 lo2 n D1 D2 vx vy xs W' := h.grown (grown_none_below hb) (fun r e => by cases e)

set_option maxHeartbeats 3200000 in
set_option maxRecDepth 100000 in
theorem ordU (W0 : World) (g8 ga gb cap bad : Nat) (A : Option Addr) (l : List Nat) (f : Kids) (from_ : Int) {u1 u2 u4 u5 u6 u7 u12 u14 u15 u16 u17 u19 u20 u21 u22 u23 u24 u25 u26 u27 u28 u29 u30 u31 u32 u33 u34 u35 u36 u37 u38 u39 u40 u41 u42 u43 u44 u45 u46 u47 u48 u49 u50 u51 u52 u53 u54 u55 u56 u57 u58 u59 u60 u61 u62 u63 u64 u65 u66 u67 u68 u69 u70 u71 u72 u73 u74 u75 u76 u77 u78 u79 u80 u81 u82 u83 u84 u85 u86 u87 u88 u89 u90 u91 u92 u93 u94 u95 u96 u97 u98 u99 u100 u101 u102 u103 u104 u105 u106 u107 u108 u109 u110 u111 u112 u113 u114 u115 u116 u117 u118 u119 u120 u121 u122 u123 u124 u125 u126 u127 u128 u129 u130 u131 u132 u133 u134 u135 u136 u137 u138 u139 u140 u141 u142 u143 u144 u145 u146 u147 u148 u149 u150 u151 u152 u153 u154 u155 u156 u157 u158 u159 u160 u161 u162 u163 u164 u165 u166 u167 u168 u169 u170 u171 u172 u173 u174 u175 u176 u177 u178 u179 u180 u181 u182 u183 u184 u185 u186 u187 u188 u189 u190 u191 u192 u193 u194 u195 u196 u197 u198 u199 u200 u201 u202 u203 u204 u205 u206 u207 u208 u209 u210 u211 u212 u213 u214 u215 u216 : Value} {Q : Exit → Act → World → Prop}
    (h8 : Blk W0 g8 4 #[.bool false]) (hfa : FewAt W0 ga 16 f) (hfb : FewAt W0 gb 16 f) (hn : bad + cntK f = l.length) (hl : l.length ≤ 16) (hkid : ∀ x ∈ kidsF f, x.2.1 = (x.1.val : Int))
    (hQ : ∀ (y21 y22 y23 y24 y25 y26 y27 y28 y29 y30 y31 y122 y123 y124 y125 y126 y127 y128 y129 y130 y131 y132 y133 y134 y135 y136 y137 y138 y139 y140 y141 y142 y143 y144 y145 y146 y147 y148 y149 y150 y151 y152 y153 y154 y155 y156 y157 y158 y159 y160 y161 y162 y163 y164 y165 y166 y167 y168 y169 y170 y171 y172 y173 y174 y175 y176 y177 y178 y179 y180 y181 y182 y183 y184 y185 y186 y187 y188 y189 y190 y191 y192 y193 y194 y195 y196 y197 y198 y199 y200 y201 y202 y203 y204 y205 y206 y207 y208 y209 y210 y211 y212 y213 y214 y215 y216 : Value) (D1 D2 : Nat) (W' : World), W0.grownBy W' (some g8) → Blk W' g8 4 #[.bool true] → W0.heap.size ≤ D1 → D1 < D2 → W'.heap[D1]? = some (.deferred (some [])) → W'.heap[D2]? = some (.deferred (some [])) → Q .ret ⟨#[.slice A l.length cap, u1, u2, .int .i64 from_, u4, u5, u6, u7, .pointer (some ⟨g8, 0, none⟩), .pointer (some ⟨ga, 0, none⟩), .int .i64 (bad : Int), .pointer (some ⟨gb, 0, none⟩), u12, .int .i64 0, u14, u15, u16, u17, .int .i64 (bad : Int), u19, u20, y21, y22, y23, y24, y25, y26, y27, y28, y29, y30, y31, u32, u33, u34, u35, u36, u37, u38, u39, u40, u41, u42, u43, u44, u45, u46, u47, u48, u49, u50, u51, u52, u53, u54, u55, u56, u57, u58, u59, u60, u61, u62, u63, u64, u65, u66, u67, u68, u69, u70, u71, u72, u73, u74, u75, u76, u77, u78, u79, u80, u81, u82, u83, u84, u85, u86, u87, u88, u89, u90, u91, u92, u93, u94, u95, u96, u97, u98, u99, u100, u101, u102, u103, u104, u105, u106, u107, u108, u109, u110, u111, u112, u113, u114, u115, u116, u117, u118, u119, u120, u121, y122, y123, y124, y125, y126, y127, y128, y129, y130, y131, y132, y133, y134, y135, y136, y137, y138, y139, y140, y141, y142, y143, y144, y145, y146, y147, y148, y149, y150, y151, y152, y153, y154, y155, y156, y157, y158, y159, y160, y161, y162, y163, y164, y165, y166, y167, y168, y169, y170, y171, y172, y173, y174, y175, y176, y177, y178, y179, y180, y181, y182, y183, y184, y185, y186, y187, y188, y189, y190, y191, y192, y193, y194, y195, y196, y197, y198, y199, y200, y201, y202, y203, y204, y205, y206, y207, y208, y209, y210, y211, y212, y213, y214, y215, y216], [{ target := .collected D2, args := #[] }, { target := .collected D1, args := #[] }]⟩ W') :
    Code.wp Try.prog (part Try.f3 [1, 1, 1, 1, 1, 1, 1, 1, 1, 1, 1]) Q ⟨#[.slice A l.length cap, u1, u2, .int .i64 from_, u4, u5, u6, u7, .pointer (some ⟨g8, 0, none⟩), .pointer (some ⟨ga, 0, none⟩), .int .i64 (bad : Int), .pointer (some ⟨gb, 0, none⟩), u12, .int .i64 0, u14, u15, u16, u17, .int .i64 (bad : Int), u19, u20, u21, u22, u23, u24, u25, u26, u27, u28, u29, u30, u31, u32, u33, u34, u35, u36, u37, u38, u39, u40, u41, u42, u43, u44, u45, u46, u47, u48, u49, u50, u51, u52, u53, u54, u55, u56, u57, u58, u59, u60, u61, u62, u63, u64, u65, u66, u67, u68, u69, u70, u71, u72, u73, u74, u75, u76, u77, u78, u79, u80, u81, u82, u83, u84, u85, u86, u87, u88, u89, u90, u91, u92, u93, u94, u95, u96, u97, u98, u99, u100, u101, u102, u103, u104, u105, u106, u107, u108, u109, u110, u111, u112, u113, u114, u115, u116, u117, u118, u119, u120, u121, u122, u123, u124, u125, u126, u127, u128, u129, u130, u131, u132, u133, u134, u135, u136, u137, u138, u139, u140, u141, u142, u143, u144, u145, u146, u147, u148, u149, u150, u151, u152, u153, u154, u155, u156, u157, u158, u159, u160, u161, u162, u163, u164, u165, u166, u167, u168, u169, u170, u171, u172, u173, u174, u175, u176, u177, u178, u179, u180, u181, u182, u183, u184, u185, u186, u187, u188, u189, u190, u191, u192, u193, u194, u195, u196, u197, u198, u199, u200, u201, u202, u203, u204, u205, u206, u207, u208, u209, u210, u211, u212, u213, u214, u215, u216], []⟩ W0 := by
  conv => arg 2; whnf
  have HQ := Lib.hid hQ
  have H0 := Lib.hid (And.intro h8 (And.intro hfa hfb))
  have HKID := Lib.hid hkid
  have l8 := h8.lt
  have la := hfa.lt
  have lb := hfb.lt
  clear hQ h8 hfa hfb hkid
  obtain ⟨n, hcn⟩ : ∃ n, cntK f = n := ⟨_, rfl⟩
  rw [hcn] at hn
  have HCN := Lib.hid hcn
  have HLA := Lib.hid (fun V (h : FewAt V ga 16 f) => by have := Len_k ga 16 f V h; rw [hcn] at this; exact this)
  have HLB := Lib.hid (fun V (h : FewAt V gb 16 f) => by have := Len_k gb 16 f V h; rw [hcn] at this; exact this)
  clear hcn
  refine wp_seq_k fun K0 hK => ?_
  have HK0 := Lib.hid hK
  clear hK
  have sw : IntKind.i64.wrap ((l.length : Int) - (bad : Int)) = (n : Int) := by rw [IntWalk.i64_in _ (by omega)]; omega
  have e1 : ((l.length : Int) - (bad : Int)) = (n : Int) := by omega
  go_wp2_with fail
  refine (HLA.out _ H0.out.2.1).mono ?_
  rintro e wa ⟨rfl, rfl⟩
  go_wp2_with fail
  refine (HLA.out _ H0.out.2.1).mono ?_
  rintro e wb ⟨rfl, rfl⟩
  go_wp2_with fail
  refine (HLB.out _ H0.out.2.2).mono ?_
  rintro e wc ⟨rfl, rfl⟩
  go_wp2_with fail
  refine HK0.out _ _ ?_
  clear HK0
  refine wp_seq_k fun K1 hK => ?_
  have HK1 := Lib.hid hK
  clear hK
  go_wp2_with fail
  refine HK1.out _ _ ?_
  clear HK1
  have hgw : wc.grownBy ((wc.alloc (.cells #[.slice none 0 0] 22)).alloc (.cells #[.slice none 0 0] 22)) none := grown_none (World.grownBy_alloc wc _ none) (World.grownBy_alloc _ _ none) (fun r e => by cases e)
  have hx := (Blk.new wc 22 #[.slice none 0 0]).alloc (.cells #[.slice none 0 0] 22)
  have hy := Blk.new (wc.alloc (.cells #[.slice none 0 0] 22)) 22 #[.slice none 0 0]
  have hsz : ((wc.alloc (.cells #[.slice none 0 0] 22)).alloc (.cells #[.slice none 0 0] 22)).heap.size = wc.heap.size + 2 := by simp
  rw [show (wc.alloc (.cells #[.slice none 0 0] 22)).heap.size = wc.heap.size + 1 by simp] at hy
  generalize (wc.alloc (.cells #[.slice none 0 0] 22)).alloc (.cells #[.slice none 0 0] 22) = w1 at hgw hx hy hsz ⊢
  have hgx0 : ∃ gx, gx = wc.heap.size := ⟨_, rfl⟩
  obtain ⟨gx, hgx⟩ := hgx0
  rw [← hgx] at hx hy hsz ⊢
  have H1 := Lib.hid (And.intro hgw (And.intro hx hy))
  have HSZ := Lib.hid (And.intro hsz hgx)
  clear hgw hx hy hsz hgx
  refine wp_seq_k fun K2 hK => ?_
  have HK2 := Lib.hid hK
  clear hK
  refine wp_seq_k fun K3 hK => ?_
  have HK3 := Lib.hid hK
  clear hK
  go_wp2_with fail
  refine (All_any _ _).mono ?_
  rintro e w2 ⟨rfl, rfl⟩
  go_wp2_with fail
  refine HK3.out _ _ ?_
  clear HK3
  have hgw := grown_none H1.out.1 (World.grownBy_alloc w1 (.cells #[.pointer (some ⟨ga, 0, none⟩)] 24) none) (fun r e => by cases e)
  have hx := H1.out.2.1.alloc (.cells #[.pointer (some ⟨ga, 0, none⟩)] 24)
  have hy := H1.out.2.2.alloc (.cells #[.pointer (some ⟨ga, 0, none⟩)] 24)
  have hq := Blk.new w1 24 #[.pointer (some ⟨ga, 0, none⟩)]
  have hsz2 : (w1.alloc (.cells #[.pointer (some ⟨ga, 0, none⟩)] 24)).heap.size = gx + 3 := by have := HSZ.out.1; simp; omega
  generalize w1.alloc (.cells #[.pointer (some ⟨ga, 0, none⟩)] 24) = w2 at hgw hx hy hq hsz2 ⊢
  obtain ⟨gb1, hgb1⟩ : ∃ g, g = w1.heap.size := ⟨_, rfl⟩
  rw [← hgb1] at hq ⊢
  obtain ⟨hsz, hgx⟩ := HSZ.out
  clear H1
  have cq := hq.cell 0
  simp at cq
  have hfa2 : FewAt w2 ga 16 f := H0.out.2.1.kept hgw (by simp)
  refine ordA_loop g8 gx gb1 ga f w2 (Ord1 wc (gx + 1)) (ord1_stays (by omega) (by omega) (by omega) (by omega)) ⟨hgw, hy⟩ cq hfa2 hx HKID.out (fun V h => H0.out.1.grown h.1 (by simp)) ?_
  intro D1 vx w3 hD1 hx3 hown3 hR3 hs3 hdef3
  dsimp only
  clear hx hy hq cq hgw hfa2
  refine HK2.out _ _ ?_
  clear HK2
  refine wp_seq_k fun K4 hK => ?_
  have HK4 := Lib.hid hK
  clear hK
  refine wp_seq_k fun K5 hK => ?_
  have HK5 := Lib.hid hK
  clear hK
  have H3 := Lib.hid (And.intro hx3 (And.intro hown3 (And.intro hR3 hdef3)))
  have HSZ := Lib.hid (And.intro hsz (And.intro hsz2 (And.intro hgx (And.intro hgb1 (And.intro hD1 hs3)))))
  clear hsz hsz2 hgx hgb1 hD1 hs3
  clear hx3 hown3 hR3 hdef3
  go_wp2_with fail
  refine (All_any _ _).mono ?_
  rintro e w4 ⟨rfl, rfl⟩
  go_wp2_with fail
  refine HK5.out _ _ ?_
  clear HK5
  have hgw := grown_none H3.out.2.2.1.1 (World.grownBy_alloc w3 (.cells #[.pointer (some ⟨gb, 0, none⟩)] 24) none) (fun r e => by cases e)
  have hx := H3.out.1.alloc (.cells #[.pointer (some ⟨gb, 0, none⟩)] 24)
  have hy := H3.out.2.2.1.2.alloc (.cells #[.pointer (some ⟨gb, 0, none⟩)] 24)
  have hown := H3.out.2.1.alloc (.cells #[.pointer (some ⟨gb, 0, none⟩)] 24)
  have hq := Blk.new w3 24 #[.pointer (some ⟨gb, 0, none⟩)]
  have hdef : (w3.alloc (.cells #[.pointer (some ⟨gb, 0, none⟩)] 24)).heap[D1]? = some (.deferred (some [])) := (Below.heap_alloc _ _ _ (Array.getElem?_eq_some_iff.1 H3.out.2.2.2).1).trans H3.out.2.2.2
  have hlD : D1 < w3.heap.size := (Array.getElem?_eq_some_iff.1 H3.out.2.2.2).1
  have hsz4 : (w3.alloc (.cells #[.pointer (some ⟨gb, 0, none⟩)] 24)).heap.size = w3.heap.size + 1 := by simp
  have hlo := H3.out.2.1.lt
  generalize w3.alloc (.cells #[.pointer (some ⟨gb, 0, none⟩)] 24) = w4 at hgw hx hy hown hq hdef hsz4 ⊢
  obtain ⟨gb2, hgb2⟩ : ∃ g, g = w3.heap.size := ⟨_, rfl⟩
  rw [← hgb2] at hq ⊢
  obtain ⟨hsz, hsz2, hgx, hgb1, hD1, hs3⟩ := HSZ.out
  clear H3
  have cq := hq.cell 0
  simp at cq
  have hfb2 : FewAt w4 gb 16 f := H0.out.2.2.kept hgw (by simp)
  refine ordB_loop (gx + 1) gb2 gb f w4 (Ord2 wc gx w2.heap.size (kidsF f).length D1 vx (rowB (kidsF f))) (ord2_stays (by omega) (by omega) (by omega) (by omega) ⟨by omega, by omega⟩ (fun g hg => by have := hlo g hg; exact ⟨by omega, by omega⟩)) ⟨hgw, hx, hown, hdef⟩ cq hfb2 hy ?_
  intro D2 vy w5 hD2 hy5 hown5 hR5 hs5 hdef5
  dsimp only
  clear hx hy hq cq hgw hfb2 hown hdef
  refine HK4.out _ _ ?_
  clear HK4
  obtain ⟨hgw, hx5, hownx, hdef1⟩ := hR5
  have hlt2 : D1 < D2 := by omega
  have HSZ := Lib.hid (And.intro hsz (And.intro hsz2 (And.intro hgx (And.intro hgb1 (And.intro hD1 (And.intro hs3 (And.intro hsz4 (And.intro hgb2 (And.intro hD2 hs5)))))))))
  clear hsz hsz2 hgx hgb1 hD1 hs3 hsz4 hgb2 hD2 hs5 hlD hlo
  obtain ⟨c, hc⟩ : ∃ c, (nextK f from_).1 = c := ⟨_, rfl⟩
  obtain ⟨r, hr⟩ : ∃ r, (nextK f from_).2.1 = r := ⟨_, rfl⟩
  obtain ⟨is, his⟩ : ∃ is, (nextK f from_).2.2 = is := ⟨_, rfl⟩
  have HNA := Lib.hid (fun V (h : FewAt V ga 16 f) => by have := Next_k ga 16 f from_ V h; rw [hc, hr, his] at this; exact this)
  have HNB := Lib.hid (fun V (h : FewAt V gb 16 f) => by have := Next_k gb 16 f from_ V h; rw [hc, hr, his] at this; exact this)
  have hge := next_ge f from_
  rw [hc, his] at hge
  have HGE := Lib.hid hge
  clear hc hr his hge
  have H5 : Hid (Ord5 wc gx (gx + 1) w2.heap.size w4.heap.size (kidsF f).length D1 D2 vx vy (rowB (kidsF f)) w5) := Lib.hid ⟨hgw, hx5, hownx, hdef1, hy5, hown5, hdef5⟩
  clear hgw hx5 hownx hdef1 hy5 hown5 hdef5
  refine wp_seq_k fun K6 hK => ?_
  have HK6 := Lib.hid hK
  clear hK
  go_wp2_with fail
  refine (HNA.out _ (H0.out.2.1.kept H5.out.1 (by simp))).mono ?_
  rintro e w6 ⟨rfl, hb6⟩
  have H6 := Lib.hid ((H5.out.below hb6).below (below_box w6 (.cells #[.int .i64 r.1, .int .u32 r.2] 31)))
  clear H5 hb6
  go_wp2_with fail
  refine HK6.out _ _ ?_
  clear HK6
  have hq1 := Blk.new w6 31 #[.int .i64 r.1, .int .u32 r.2]
  generalize w6.alloc (.cells #[.int .i64 r.1, .int .u32 r.2] 31) = w7 at H6 hq1 ⊢
  obtain ⟨q1, hq1e⟩ : ∃ g, g = w6.heap.size := ⟨_, rfl⟩
  rw [← hq1e] at hq1 ⊢
  clear hq1e
  have HQ1 := Lib.hid hq1
  clear hq1
  refine wp_seq_k fun K7 hK => ?_
  have HK7 := Lib.hid hK
  clear hK
  go_wp2_with fail
  refine (HNB.out _ (H0.out.2.2.kept H6.out.1 (by simp))).mono ?_
  rintro e w8 ⟨rfl, hb8⟩
  have H8 := Lib.hid ((H6.out.below hb8).below (below_box w8 (.cells #[.int .i64 r.1, .int .u32 r.2] 31)))
  have hq1 := (HQ1.out.below hb8 HQ1.out.lt).alloc (.cells #[.int .i64 r.1, .int .u32 r.2] 31)
  clear H6 hb8 HQ1
  go_wp2_with fail
  refine HK7.out _ _ ?_
  clear HK7
  have hq2 := Blk.new w8 31 #[.int .i64 r.1, .int .u32 r.2]
  generalize w8.alloc (.cells #[.int .i64 r.1, .int .u32 r.2] 31) = w9 at H8 hq1 hq2 ⊢
  obtain ⟨q2, hq2e⟩ : ∃ g, g = w8.heap.size := ⟨_, rfl⟩
  rw [← hq2e] at hq2 ⊢
  clear hq2e
  obtain ⟨hsz, hsz2, hgx, hgb1, hD1, hs3, hsz4, hgb2, hD2, hs5⟩ := HSZ.out
  obtain ⟨a1, a2, a3, a4, a5, a6, a7⟩ := H8.out
  have hnn : (kidsF f).length = n := by rw [kidsF_len]; exact HCN.out
  obtain ⟨A1, c1, rfl, hA1, _, _⟩ := own_form a3
  obtain ⟨A2, c2, rfl, hA2, _, _⟩ := own_form a6
  have hlt8 : g8 < wc.heap.size := l8
  have hkg : ∀ {V : World} {v : Value} {lo : Nat}, w9.grownBy V (some g8) → wc.heap.size ≤ lo → w9.ownsRow lo 5 1 v (kidsF f).length (rowB (kidsF f)) → V.ownsRow lo 5 1 v (kidsF f).length (rowB (kidsF f)) := fun {V v lo} hV hlo hv => hv.kept hV (by
    cases hv2 : v.ownBlock with
    | none => exact .inl rfl
    | some g => exact .inr (fun e => by injection e with e; have := (hv.lt g hv2).1; omega))
  refine ordT w9 g8 ga gx (gx + 1) q1 q2 (kidsF f).length c1 c2 A1 A2 ⟨((kidsF f).map fun x => UInt8.ofNat x.1.val).toArray⟩ f from_ c r is (H0.out.1.grown a1 (by simp)) a2 a5 hq1 hq2 (H0.out.2.1.kept a1 (by simp)) (by rw [hnn]; exact HCN.out)
    (fun V hV => ⟨row_string (hkg hV (by omega) a3) hA1, row_string (hkg hV (by omega) a6) hA2⟩) HGE.out ?_
  intros
  rename_i W' h8' hg'
  have hkd : ∀ {D : Nat}, wc.heap.size ≤ D → w9.heap[D]? = some (.deferred (some [])) → W'.heap[D]? = some (.deferred (some [])) := fun {D} hD h => (hg'.block D (Array.getElem?_eq_some_iff.1 h).1 (fun e => by injection e with e; omega)).trans h
  exact HQ.out _ _ _ _ _ _ _ _ _ _ _ _ _ _ _ _ _ _ _ _ _ _ _ _ _ _ _ _ _ _ _ _ _ _ _ _ _ _ _ _ _ _ _ _ _ _ _ _ _ _ _ _ _ _ _ _ _ _ _ _ _ _ _ _ _ _ _ _ _ _ _ _ _ _ _ _ _ _ _ _ _ _ _ _ _ _ _ _ _ _ _ _ _ _ _ _ _ _ _ _ _ _ _ _ _ _  D1 D2 W' ⟨hg'.os.trans a1.os, hg'.tape.trans a1.tape, hg'.output.trans a1.output, Nat.le_trans a1.size hg'.size, fun k hk hne => (hg'.block k (Nat.lt_of_lt_of_le hk a1.size) hne).trans (a1.block k hk (by simp))⟩ h8' (by omega) hlt2 (hkd (by omega) a4) (hkd (by omega) a7)
end Go.Proofs.Ytmcpfhhggapkcaa
