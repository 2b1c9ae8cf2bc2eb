/-
  Layer 27: OrderTenants: the head of a round.
  Layer 27: OrderTenants: a good handle is kept.
  Layer 27: OrderTenants: the request is done.
  Layer 27: OrderTenants: limits.
  Layer 27: OrderTenants: dead handles.
  Layer 27: OrderTenants: no dead handle is good.
  Layer 27: OrderTenants: books are compared.
  Layer 27: OrderTenants: sizes and limits.
-/
import Derived.Test.YtkgflepgkhnclaaGreatDoorOtf
namespace Go.Proofs.YtkgflepgkhnclaaGreatDoor
open Go.RowKit Go.Shelf
set_option linter.unusedVariables false
set_option linter.unusedSimpArgs false

/-- What holds within a round: the request, the pairs before it. -/
structure TnIn (w0 W : World) (p b4 b6 b9 b10 : Nat) (S : Tn) (T : Ows) (v : Nat → Value) (vd ve : Value) (es : List Ent) (r : Req) (l1 l2 : List Kv) (A1 A2 : Option Addr) (c1 c2 : Nat) : Prop where
  at_ : TnAt w0 W p b4 b6 S T v vd ve es
  req : Blk W b9 39 r.row.toArray
  prs : Blk W b10 44 #[.slice none 0 0, .slice A1 l1.length c1, .slice A2 l2.length c2]
  pr1 : W.ownsRow w0.heap.size 57 2 (.slice A1 l1.length c1) l1.length (l1.flatMap pairR)
  pr2 : W.ownsRow w0.heap.size 57 2 (.slice A2 l2.length c2) l2.length (l2.flatMap pairR)
section
variable {w0 W W' : World} {p b4 b6 b9 b10 : Nat} {S : Tn} {T : Ows} {v : Nat → Value} {vd ve : Value} {es : List Ent} {r : Req} {l1 l2 : List Kv} {A1 A2 : Option Addr} {c1 c2 : Nat}
theorem TnIn.below (h : TnIn w0 W p b4 b6 b9 b10 S T v vd ve es r l1 l2 A1 A2 c1 c2) (hb : Below W.heap.size W W') : TnIn w0 W' p b4 b6 b9 b10 S T v vd ve es r l1 l2 A1 A2 c1 c2 :=
  have k := KeepsN.of_below hb
  ⟨h.at_.below hb, k.blk h.req (by simp [TnT]), k.blk h.prs (by simp [TnT]), k.own h.pr1 (by simp [TnT]), k.own h.pr2 (by simp [TnT])⟩
theorem TnIn.handle (h : TnIn w0 W p b4 b6 b9 b10 S T v vd ve es r l1 l2 A1 A2 c1 c2) {g : Nat} {cs : Array Value} (hb : Blk W g 37 cs) (hg : w0.heap.size ≤ g) (hv : ∀ i, i < 3 → (v i).ownBlock ≠ some g) (hd : vd.ownBlock ≠ some g) (j : Nat) (u : Value) :
    TnIn w0 (W.setCell ⟨g, j, none⟩ u) p b4 b6 b9 b10 S T v vd ve es r l1 l2 A1 A2 c1 c2 := by
  have hs : ∀ i, i ≠ g → (W.setCell ⟨g, j, none⟩ u).heap[i]? = W.heap[i]? := fun i hi => Below.heap_setCell W _ u i hi
  have ne : ∀ {i : Nat} {t : TypeId} {cs' : Array Value}, Blk W i t cs' → t ≠ 37 → i ≠ g := fun h1 hne e => by subst e; unfold Blk at h1 hb; rw [hb] at h1; injection h1 with h1; injection h1 with _ h1 _; exact hne h1.symm
  exact ⟨h.at_.box hb (.inl rfl) hg hv hd j u, (hs _ (ne h.req (by decide))).trans h.req, (hs _ (ne h.prs (by decide))).trans h.prs, own_same h.pr1 (fun g' e => hs g' (fun e2 => own_blk_ne h.pr1 hb (by decide) (e2 ▸ e))), own_same h.pr2 (fun g' e => hs g' (fun e2 => own_blk_ne h.pr2 hb (by decide) (e2 ▸ e)))⟩
end
set_option maxHeartbeats 6400000 in
set_option maxRecDepth 100000 in
theorem tn_head {w0 wx : World} (p b4 b6 k c : Nat) (A : Option Addr) (S : Tn) (T : Ows) (v : Nat → Value) (vd : Value) (es : List Ent) {u0 u1 u2 u7 u8 u9 u10 u11 u12 u13 u14 u15 u16 u17 u18 u19 u20 u24 u25 u26 u27 u28 u29 u30 u31 u32 u33 u34 u35 u36 u37 u38 u39 u40 u41 u42 u43 u44 u45 u46 u47 u48 u49 u50 u51 u52 u53 u54 u55 u56 u57 u58 u59 u60 u61 u62 u63 u64 u65 u66 u67 u68 u69 u70 u71 u72 u73 u74 u75 u76 u77 u78 u79 u80 u81 u82 u83 u84 u85 u86 u87 u88 u89 u90 u91 u92 u93 u94 u95 u96 u97 u98 u99 u100 u101 u102 u103 u104 u105 u106 u107 u108 u109 u110 u111 u112 u113 u114 u115 u116 u117 u118 u119 u120 u121 u122 u123 u124 u125 u126 u127 u128 u129 u130 u131 u132 u133 u134 u135 u136 u137 u138 u139 u140 u141 u142 u143 u144 u145 u146 u147 u148 u149 u150 u151 u152 u153 u154 u155 u156 u157 u158 u159 u160 u161 u162 u163 u164 u165 u166 u167 u168 u169 u170 u171 u172 u173 u174 u175 u176 u177 u178 u179 u180 u181 : Value} {Q : Exit → Act → World → Prop} (hI : TnAt w0 wx p b4 b6 S T v vd (.slice A es.length c) es) (hk : k < es.length) (hsm : Small S.M)
    (hQ : ∀ (s8 s25 s26 s27 s28 s29 s30 s31 s32 s33 s34 s35 s36 s37 s38 s39 : Value) (b9 b10 b11 c1 c2 : Nat) (A1 A2 : Option Addr) (W' : World), TnIn w0 W' p b4 b6 b9 b10 S T v vd (.slice A es.length c) es es[k].r (pairsN S.M 1) (pairsN S.M 2) A1 A2 c1 c2 → Blk W' b11 37 (hdA (tenH S : Int) 1) → w0.heap.size ≤ b11 ∧ (∀ i, i < 3 → (v i).ownBlock ≠ some b11) ∧ vd.ownBlock ≠ some b11 → Code.wp Tryz.prog (part Tryz.f3 [1, 1, 1, 1, 1, 0, 1, 2, 2, 1, 1, 0, 2, 1, 1, 1, 1]) Q ⟨#[u0, u1, u2, .pointer (some ⟨p, 0, none⟩), .pointer (some ⟨b4, 0, none⟩), vd, .pointer (some ⟨b6, 0, none⟩), u7, s8, .pointer (some ⟨b9, 0, none⟩), .pointer (some ⟨b10, 0, none⟩), .pointer (some ⟨b11, 0, none⟩), u12, u13, u14, u15, u16, u17, u18, u19, u20, .slice A es.length c, .int .i64 (es.length : Nat), .int .i64 (k : Nat), u24, s25, s26, s27, s28, s29, s30, s31, s32, s33, s34, s35, s36, s37, s38, s39, u40, u41, u42, u43, u44, u45, u46, u47, u48, u49, u50, u51, u52, u53, u54, u55, u56, u57, u58, u59, u60, u61, u62, u63, u64, u65, u66, u67, u68, u69, u70, u71, u72, u73, u74, u75, u76, u77, u78, u79, u80, u81, u82, u83, u84, u85, u86, u87, u88, u89, u90, u91, u92, u93, u94, u95, u96, u97, u98, u99, u100, u101, u102, u103, u104, u105, u106, u107, u108, u109, u110, u111, u112, u113, u114, u115, u116, u117, u118, u119, u120, u121, u122, u123, u124, u125, u126, u127, u128, u129, u130, u131, u132, u133, u134, u135, u136, u137, u138, u139, u140, u141, u142, u143, u144, u145, u146, u147, u148, u149, u150, u151, u152, u153, u154, u155, u156, u157, u158, u159, u160, u161, u162, u163, u164, u165, u166, u167, u168, u169, u170, u171, u172, u173, u174, u175, u176, u177, u178, u179, u180, u181], []⟩ W') :
    Code.wp Tryz.prog (part Tryz.f3 [1, 1, 1, 1, 1, 0, 1, 2, 2, 1, 1, 0, 2]) Q ⟨#[u0, u1, u2, .pointer (some ⟨p, 0, none⟩), .pointer (some ⟨b4, 0, none⟩), vd, .pointer (some ⟨b6, 0, none⟩), u7, u8, u9, u10, u11, u12, u13, u14, u15, u16, u17, u18, u19, u20, .slice A es.length c, .int .i64 (es.length : Nat), .int .i64 (k : Nat), u24, u25, u26, u27, u28, u29, u30, u31, u32, u33, u34, u35, u36, u37, u38, u39, u40, u41, u42, u43, u44, u45, u46, u47, u48, u49, u50, u51, u52, u53, u54, u55, u56, u57, u58, u59, u60, u61, u62, u63, u64, u65, u66, u67, u68, u69, u70, u71, u72, u73, u74, u75, u76, u77, u78, u79, u80, u81, u82, u83, u84, u85, u86, u87, u88, u89, u90, u91, u92, u93, u94, u95, u96, u97, u98, u99, u100, u101, u102, u103, u104, u105, u106, u107, u108, u109, u110, u111, u112, u113, u114, u115, u116, u117, u118, u119, u120, u121, u122, u123, u124, u125, u126, u127, u128, u129, u130, u131, u132, u133, u134, u135, u136, u137, u138, u139, u140, u141, u142, u143, u144, u145, u146, u147, u148, u149, u150, u151, u152, u153, u154, u155, u156, u157, u158, u159, u160, u161, u162, u163, u164, u165, u166, u167, u168, u169, u170, u171, u172, u173, u174, u175, u176, u177, u178, u179, u180, u181], []⟩ wx := by
  conv => arg 2; whnf
  have HQ := Lib.hid hQ
  clear hQ
  have hrd : Reads wx wx.heap.size 13 A es.length (es.flatMap Ent.row) := Reads.of_own hI.ent
  obtain ⟨ad, rfl, hab, hc⟩ := row_cells Ent.row_len hrd rfl hk
  have HI := Lib.hid hI
  have HS := Lib.hid hsm
  clear hI hrd hsm
  generalize es[k] = e at hc HQ
  have q0 : wx.cell? (ad.add (k * 13)) = some (.int .i64 e.ses) := by have := hc 0 _ rfl; rwa [add_of_add] at this
  have q1 : wx.cell? ⟨(ad.add (k * 13)).block, (ad.add (k * 13)).off + 1, none⟩ = some (.int .i64 e.r.deed) := hc 1 _ rfl
  have q2 : wx.cell? ⟨(ad.add (k * 13)).block, (ad.add (k * 13)).off + 2, none⟩ = some (.int .i64 e.r.ten) := hc 2 _ rfl
  have q3 : wx.cell? ⟨(ad.add (k * 13)).block, (ad.add (k * 13)).off + 3, none⟩ = some (.int .u32 e.r.gen) := hc 3 _ rfl
  have q4 : wx.cell? ⟨(ad.add (k * 13)).block, (ad.add (k * 13)).off + 4, none⟩ = some (.int .u8 e.r.rig) := hc 4 _ rfl
  have q5 : wx.cell? ⟨(ad.add (k * 13)).block, (ad.add (k * 13)).off + 5, none⟩ = some (.string e.r.key) := hc 5 _ rfl
  have q6 : wx.cell? ⟨(ad.add (k * 13)).block, (ad.add (k * 13)).off + 6, none⟩ = some (.string e.r.val) := hc 6 _ rfl
  have q7 : wx.cell? ⟨(ad.add (k * 13)).block, (ad.add (k * 13)).off + 7, none⟩ = some (.string e.r.old) := hc 7 _ rfl
  have q8 : wx.cell? ⟨(ad.add (k * 13)).block, (ad.add (k * 13)).off + 8, none⟩ = some (.int .i64 e.r.lim) := hc 8 _ rfl
  have q9 : wx.cell? ⟨(ad.add (k * 13)).block, (ad.add (k * 13)).off + 9, none⟩ = some (.int .i64 e.r.tenant) := hc 9 _ rfl
  have q10 : wx.cell? ⟨(ad.add (k * 13)).block, (ad.add (k * 13)).off + 10, none⟩ = some (.int .u64 e.r.qk) := hc 10 _ rfl
  have q11 : wx.cell? ⟨(ad.add (k * 13)).block, (ad.add (k * 13)).off + 11, none⟩ = some (.int .u64 e.r.qb) := hc 11 _ rfl
  have q12 : wx.cell? ⟨(ad.add (k * 13)).block, (ad.add (k * 13)).off + 12, none⟩ = some (.int .u8 e.r.rights) := hc 12 _ rfl
  have i1 : (0 : Int) ≤ (k : Int) := by omega
  have i2 : (k : Int) < (es.length : Int) := by omega
  clear hc
  refine wp_seq_k fun K0 hK => ?_
  have HK0 := Lib.hid hK
  clear hK
  go_wp2_with fail
  refine HK0.out _ _ ?_
  clear HK0 q0 q1 q2 q3 q4 q5 q6 q7 q8 q9 q10 q11 q12
  have B1 : Below wx.heap.size wx (wx.alloc (.cells #[.int .i64 e.ses, .int .i64 e.r.deed, .int .i64 e.r.ten, .int .u32 e.r.gen, .int .u8 e.r.rig, .string e.r.key, .string e.r.val, .string e.r.old, .int .i64 e.r.lim, .int .i64 e.r.tenant, .int .u64 e.r.qk, .int .u64 e.r.qb, .int .u8 e.r.rights] 41)) := below_box _ _
  have B8 := Blk.new wx 41 #[.int .i64 e.ses, .int .i64 e.r.deed, .int .i64 e.r.ten, .int .u32 e.r.gen, .int .u8 e.r.rig, .string e.r.key, .string e.r.val, .string e.r.old, .int .i64 e.r.lim, .int .i64 e.r.tenant, .int .u64 e.r.qk, .int .u64 e.r.qb, .int .u8 e.r.rights]
  generalize wx.alloc (.cells #[.int .i64 e.ses, .int .i64 e.r.deed, .int .i64 e.r.ten, .int .u32 e.r.gen, .int .u8 e.r.rig, .string e.r.key, .string e.r.val, .string e.r.old, .int .i64 e.r.lim, .int .i64 e.r.tenant, .int .u64 e.r.qk, .int .u64 e.r.qb, .int .u8 e.r.rights] 41) = W1 at B1 B8 ⊢
  have c1 := B8.cell 1
  have c2 := B8.cell 2
  have c3 := B8.cell 3
  have c4 := B8.cell 4
  have c5 := B8.cell 5
  have c6 := B8.cell 6
  have c7 := B8.cell 7
  have c8 := B8.cell 8
  have c9 := B8.cell 9
  have c10 := B8.cell 10
  have c11 := B8.cell 11
  have c12 := B8.cell 12
  simp at c1 c2 c3 c4 c5 c6 c7 c8 c9 c10 c11 c12
  have HB1 := Lib.hid B1
  clear B1 B8
  refine wp_seq_k fun K0 hK => ?_
  have HK0 := Lib.hid hK
  clear hK
  go_wp2_with fail
  refine HK0.out _ _ ?_
  clear HK0 c1 c2 c3 c4 c5 c6 c7 c8 c9 c10 c11 c12
  have B2 := below_alloc HB1.out (.cells #[.int .i64 e.r.deed, .int .i64 e.r.ten, .int .u32 e.r.gen, .int .u8 e.r.rig, .string e.r.key, .string e.r.val, .string e.r.old, .int .i64 e.r.lim, .int .i64 e.r.tenant, .int .u64 e.r.qk, .int .u64 e.r.qb, .int .u8 e.r.rights] 39)
  have B9 : Blk (W1.alloc (.cells #[.int .i64 e.r.deed, .int .i64 e.r.ten, .int .u32 e.r.gen, .int .u8 e.r.rig, .string e.r.key, .string e.r.val, .string e.r.old, .int .i64 e.r.lim, .int .i64 e.r.tenant, .int .u64 e.r.qk, .int .u64 e.r.qb, .int .u8 e.r.rights] 39)) W1.heap.size 39 e.r.row.toArray := Blk.new W1 39 e.r.row.toArray
  generalize W1.alloc (.cells #[.int .i64 e.r.deed, .int .i64 e.r.ten, .int .u32 e.r.gen, .int .u8 e.r.rig, .string e.r.key, .string e.r.val, .string e.r.old, .int .i64 e.r.lim, .int .i64 e.r.tenant, .int .u64 e.r.qk, .int .u64 e.r.qb, .int .u8 e.r.rights] 39) = W2 at B2 B9 ⊢
  have HP1 := Lib.hid (Pairs_m (HI.out.below B2).mdl 1 HS.out)
  have HB2 := Lib.hid (And.intro B2 B9)
  clear B2 B9 HB1
  generalize W1.heap.size = b9 at HB2 ⊢
  clear W1
  have hst : ∀ l2 : List Kv, True := fun _ => trivial
  refine wp_seq_k fun K0 hK => ?_
  have HK0 := Lib.hid hK
  clear hK
  go_wp2_with fail
  refine HP1.out.mono ?_
  rintro e' W3 ⟨A1, c1, rfl, hr1, hb3⟩
  have T3 := (HI.out.below HB2.out.1).below hb3
  have HP2 := Lib.hid (Pairs_m T3.mdl 2 HS.out)
  have Q3 := HB2.out.2.below hb3 HB2.out.2.lt
  have HB3 := Lib.hid (And.intro T3 (And.intro Q3 hr1))
  have hs3 := T3.bel.size
  clear hb3 T3 Q3 hr1 HP1
  go_wp2_with fail
  refine HP2.out.mono ?_
  rintro e' W4 ⟨A2, c2, rfl, hr2, hb4⟩
  have T4 := HB3.out.1.below hb4
  have Q4 := HB3.out.2.1.below hb4 HB3.out.2.1.lt
  have R1 : W4.ownsRow W2.heap.size 57 2 (.slice A1 (pairsN S.M 1).length c1) (pairsN S.M 1).length ((pairsN S.M 1).flatMap pairR) := (KeepsN.of_below hb4).own HB3.out.2.2 (by simp [TnT])
  have hw2 : w0.heap.size ≤ W2.heap.size := (HI.out.below HB2.out.1).bel.size
  have HB4 := Lib.hid (And.intro T4 (And.intro Q4 (And.intro (own_base R1 hw2) (own_base hr2 hs3))))
  clear T4 Q4 R1 hr2 hb4 HP2 HB3 hw2 hs3 HB2
  go_wp2_with fail
  refine HK0.out _ _ ?_
  clear HK0
  have B5 : Below W4.heap.size W4 (W4.alloc (.cells #[.slice none 0 0, .slice A1 (pairsN S.M 1).length c1, .slice A2 (pairsN S.M 2).length c2] 44)) := below_box _ _
  have I5 : TnIn w0 (W4.alloc (.cells #[.slice none 0 0, .slice A1 (pairsN S.M 1).length c1, .slice A2 (pairsN S.M 2).length c2] 44)) p b4 b6 b9 W4.heap.size S T v vd (.slice (some ad) es.length c) es e.r (pairsN S.M 1) (pairsN S.M 2) A1 A2 c1 c2 :=
    have k := KeepsN.of_below B5
    ⟨HB4.out.1.below B5, k.blk HB4.out.2.1 (by simp [TnT]), Blk.new _ _ _, k.own HB4.out.2.2.1 (by simp [TnT]), k.own HB4.out.2.2.2 (by simp [TnT])⟩
  generalize W4.alloc (.cells #[.slice none 0 0, .slice A1 (pairsN S.M 1).length c1, .slice A2 (pairsN S.M 2).length c2] 44) = W5 at I5 ⊢
  generalize W4.heap.size = b10 at I5 ⊢
  clear HB4 B5
  have d1 : W5.cell? ⟨b10, 1, none⟩ = some (.slice A1 (pairsN S.M 1).length c1) := I5.prs.cell 1
  have hm1 : ((pairsN S.M 1).length : Int).tmod 2 = (((pairsN S.M 1).length % 2 : Nat) : Int) := by rw [Int.tmod_eq_emod_of_nonneg (by omega)]; omega
  have ht1 : IntKind.i64.wrap (1 + (((pairsN S.M 1).length % 2 : Nat) : Int)) = (tenH S : Int) := by rw [IntWalk.i64_in _ (by omega)]; unfold tenH; omega
  have H5 := Lib.hid I5
  clear I5
  refine wp_seq_k fun K0 hK => ?_
  have HK0 := Lib.hid hK
  clear hK
  go_wp2_with fail
  refine HK0.out _ _ ?_
  rw [show (1 + ((pairsN S.M 1).length : Int) % 2) = (tenH S : Int) by unfold tenH; omega]
  have hn := H5.out.at_.new_box (Nat.le_refl _)
  exact HQ.out _ _ _ _ _ _ _ _ _ _ _ _ _ _ _ _ b9 b10 W5.heap.size c1 c2 A1 A2 _ (H5.out.below (below_box _ _)) (Blk.new _ _ _) ⟨H5.out.at_.bel.size, hn⟩
end Go.Proofs.YtkgflepgkhnclaaGreatDoor
namespace Go.Proofs.YtkgflepgkhnclaaGreatDoor
open Go.RowKit Go.Shelf
set_option linter.unusedVariables false
set_option linter.unusedSimpArgs false

theorem infoHd : (Tryz.prog.info? 37).map (fun i => (i.zero, i.size, i.bytes)) = some (some (.agg #[.int .i64 0, .int .u32 0, .int .u8 0]), 3, 16) := by kernel_rfl
/-- What holds while the handle is looked at. -/
def TnH (w0 : World) (p b4 b6 b9 b10 b11 n : Nat) (g : Int) (S : Tn) (T : Ows) (v : Nat → Value) (vd ve : Value) (es : List Ent) (r : Req) (l1 l2 : List Kv) (A1 A2 : Option Addr) (c1 c2 : Nat) (V : World) : Prop :=
  TnIn w0 V p b4 b6 b9 b10 S T v vd ve es r l1 l2 A1 A2 c1 c2 ∧ Blk V b11 37 (hdA n g)
theorem TnH.below {w0 V W : World} {p b4 b6 b9 b10 b11 n : Nat} {g : Int} {S : Tn} {T : Ows} {v : Nat → Value} {vd ve : Value} {es : List Ent} {r : Req} {l1 l2 : List Kv} {A1 A2 : Option Addr} {c1 c2 : Nat} (h : TnH w0 p b4 b6 b9 b10 b11 n g S T v vd ve es r l1 l2 A1 A2 c1 c2 V) (hb : Below V.heap.size V W) :
    TnH w0 p b4 b6 b9 b10 b11 n g S T v vd ve es r l1 l2 A1 A2 c1 c2 W := ⟨h.1.below hb, h.2.below hb h.2.lt⟩
theorem TnH.cells {w0 V : World} {p b4 b6 b9 b10 b11 n : Nat} {g : Int} {S : Tn} {T : Ows} {v : Nat → Value} {vd ve : Value} {es : List Ent} {r : Req} {l1 l2 : List Kv} {A1 A2 : Option Addr} {c1 c2 : Nat} (h : TnH w0 p b4 b6 b9 b10 b11 n g S T v vd ve es r l1 l2 A1 A2 c1 c2 V) (hn : n < 3) {A : Option Addr} {c m : Nat} (hv : v n = .slice A m c) :
    V.cell? ⟨b11, 0, none⟩ = some (.int .i64 n) ∧ V.cell? ⟨b11, 1, none⟩ = some (.int .u32 g) ∧ V.cell? ⟨b11, 2, none⟩ = some (.int .u8 1) ∧ V.cell? ⟨b4, n, none⟩ = some (.slice A m c) :=
  ⟨h.2.cell 0, h.2.cell 1, h.2.cell 2, by rw [h.1.at_.old.cell, three_at hn, hv]⟩
theorem TnIn.app {w0 W : World} {p b4 b6 b9 b10 : Nat} {S : Tn} {T : Ows} {v : Nat → Value} {vd ve : Value} {es : List Ent} {r : Req} {l1 l2 : List Kv} {A1 A2 : Option Addr} {c1 c2 : Nat} (h : TnIn w0 W p b4 b6 b9 b10 S T v vd ve es r l1 l2 A1 A2 c1 c2) {n : Nat} (hn : n < 3) {tmp : Obj} {w1 : World} {u : Value} {x : Hd}
    (hT : TnAt w0 (w1.setCell ⟨b4, n, none⟩ u) p b4 b6 { S with o := updF S.o n (S.o n ++ [x]) } T (updF v n u) vd ve es) (hg : (W.alloc tmp).grownBy w1 (v n).ownBlock) :
    TnIn w0 (w1.setCell ⟨b4, n, none⟩ u) p b4 b6 b9 b10 { S with o := updF S.o n (S.o n ++ [x]) } T (updF v n u) vd ve es r l1 l2 A1 A2 c1 c2 := by
  have hs : ∀ {i : Nat} {t : TypeId} {cs : Array Value}, Blk W i t cs → t ≠ 37 → t ≠ 26 → (w1.setCell ⟨b4, n, none⟩ u).heap[i]? = W.heap[i]? := fun {i t cs} hb h1 h2 => by
    have n4 : i ≠ b4 := fun e => by subst e; have h3 := h.at_.old; unfold Blk at h3 hb; rw [hb] at h3; injection h3 with h3; injection h3 with _ h3 _; exact h2 h3
    rw [Below.heap_setCell w1 _ u i n4, hg.block i (Nat.lt_of_lt_of_le hb.lt (by simp)) (fun e => own_blk_ne (h.at_.rows n hn) hb (Ne.symm h1) e.symm)]
    exact (below_box W tmp).block i hb.lt
  have ho : ∀ {size m base : Nat} {y : Value} {xs : List Value}, W.ownsRow base 57 size y m xs → (w1.setCell ⟨b4, n, none⟩ u).ownsRow base 57 size y m xs := fun hr => own_same hr (fun g e => by
    obtain ⟨-, -, cs, hb⟩ := own_at hr e
    exact hs hb (by decide) (by decide))
  exact ⟨hT, (hs h.req (by decide) (by decide)).trans h.req, (hs h.prs (by decide) (by decide)).trans h.prs, ho h.pr1, ho h.pr2⟩
set_option maxHeartbeats 6400000 in
set_option maxRecDepth 100000 in
theorem tn_old {w0 wx : World} (p b4 b6 b9 b10 b11 c1 c2 : Nat) (A1 A2 : Option Addr) (S : Tn) (T : Ows) (v : Nat → Value) (vd ve : Value) (es : List Ent) (r : Req) (l1 l2 : List Kv) {u0 u1 u2 u7 u8 u12 u13 u14 u15 u16 u17 u18 u19 u20 u21 u22 u23 u24 u25 u26 u27 u28 u29 u30 u31 u32 u33 u34 u35 u36 u37 u38 u39 u40 u41 u42 u43 u44 u45 u46 u47 u48 u49 u50 u51 u52 u53 u54 u55 u56 u57 u58 u59 u60 u61 u62 u63 u64 u65 u66 u67 u68 u69 u70 u71 u72 u73 u74 u75 u76 u77 u78 u79 u80 u81 u82 u83 u84 u85 u86 u87 u88 u89 u90 u91 u92 u93 u94 u95 u96 u97 u98 u99 u100 u101 u102 u103 u104 u105 u106 u107 u108 u109 u110 u111 u112 u113 u114 u115 u116 u117 u118 u119 u120 u121 u122 u123 u124 u125 u126 u127 u128 u129 u130 u131 u132 u133 u134 u135 u136 u137 u138 u139 u140 u141 u142 u143 u144 u145 u146 u147 u148 u149 u150 u151 u152 u153 u154 u155 u156 u157 u158 u159 u160 u161 u162 u163 u164 u165 u166 u167 u168 u169 u170 u171 u172 u173 u174 u175 u176 u177 u178 u179 u180 u181 : Value} {Q : Exit → Act → World → Prop} (hI : TnH w0 p b4 b6 b9 b10 b11 (tenH S) (findG S.M (tenH S : Int) 29 1) S T v vd ve es r l1 l2 A1 A2 c1 c2 wx) (hrest : w0.heap.size ≤ b11 ∧ (∀ i, i < 3 → (v i).ownBlock ≠ some b11) ∧ vd.ownBlock ≠ some b11) (hol : ∀ t, (S.o t).length ≤ 30)
    (hQ : ∀ (s53 s54 s55 s56 s57 s58 s59 s60 s61 s62 s63 s64 s65 s66 s67 s68 s69 s70 s71 s72 s73 s74 : Value) (v' : Nat → Value) (W' : World), TnIn w0 W' p b4 b6 b9 b10 {S with o := oldN S} T v' vd ve es r l1 l2 A1 A2 c1 c2 → Code.wp Tryz.prog (part Tryz.f3 [1, 1, 1, 1, 1, 0, 1, 2, 2, 1, 1, 0, 2, 1, 1, 1, 1, 1, 1]) Q ⟨#[u0, u1, u2, .pointer (some ⟨p, 0, none⟩), .pointer (some ⟨b4, 0, none⟩), vd, .pointer (some ⟨b6, 0, none⟩), u7, u8, .pointer (some ⟨b9, 0, none⟩), .pointer (some ⟨b10, 0, none⟩), .pointer (some ⟨b11, 0, none⟩), u12, u13, u14, u15, u16, u17, u18, u19, u20, u21, u22, u23, u24, u25, u26, u27, u28, u29, u30, u31, u32, u33, u34, u35, u36, u37, u38, u39, u40, u41, u42, u43, u44, u45, u46, u47, u48, u49, u50, u51, u52, s53, s54, s55, s56, s57, s58, s59, s60, s61, s62, s63, s64, s65, s66, s67, s68, s69, s70, s71, s72, s73, s74, u75, u76, u77, u78, u79, u80, u81, u82, u83, u84, u85, u86, u87, u88, u89, u90, u91, u92, u93, u94, u95, u96, u97, u98, u99, u100, u101, u102, u103, u104, u105, u106, u107, u108, u109, u110, u111, u112, u113, u114, u115, u116, u117, u118, u119, u120, u121, u122, u123, u124, u125, u126, u127, u128, u129, u130, u131, u132, u133, u134, u135, u136, u137, u138, u139, u140, u141, u142, u143, u144, u145, u146, u147, u148, u149, u150, u151, u152, u153, u154, u155, u156, u157, u158, u159, u160, u161, u162, u163, u164, u165, u166, u167, u168, u169, u170, u171, u172, u173, u174, u175, u176, u177, u178, u179, u180, u181], []⟩ W') :
    Code.wp Tryz.prog (part Tryz.f3 [1, 1, 1, 1, 1, 0, 1, 2, 2, 1, 1, 0, 2, 1, 1, 1, 1, 1]) Q ⟨#[u0, u1, u2, .pointer (some ⟨p, 0, none⟩), .pointer (some ⟨b4, 0, none⟩), vd, .pointer (some ⟨b6, 0, none⟩), u7, u8, .pointer (some ⟨b9, 0, none⟩), .pointer (some ⟨b10, 0, none⟩), .pointer (some ⟨b11, 0, none⟩), u12, u13, u14, u15, u16, u17, u18, u19, u20, u21, u22, u23, u24, u25, u26, u27, u28, u29, u30, u31, u32, u33, u34, u35, u36, u37, u38, u39, u40, u41, u42, u43, u44, u45, u46, u47, u48, u49, u50, u51, u52, u53, u54, u55, u56, u57, u58, u59, u60, u61, u62, u63, u64, u65, u66, u67, u68, u69, u70, u71, u72, u73, u74, u75, u76, u77, u78, u79, u80, u81, u82, u83, u84, u85, u86, u87, u88, u89, u90, u91, u92, u93, u94, u95, u96, u97, u98, u99, u100, u101, u102, u103, u104, u105, u106, u107, u108, u109, u110, u111, u112, u113, u114, u115, u116, u117, u118, u119, u120, u121, u122, u123, u124, u125, u126, u127, u128, u129, u130, u131, u132, u133, u134, u135, u136, u137, u138, u139, u140, u141, u142, u143, u144, u145, u146, u147, u148, u149, u150, u151, u152, u153, u154, u155, u156, u157, u158, u159, u160, u161, u162, u163, u164, u165, u166, u167, u168, u169, u170, u171, u172, u173, u174, u175, u176, u177, u178, u179, u180, u181], []⟩ wx := by
  conv => arg 2; whnf
  have HQ := Lib.hid hQ
  clear hQ
  refine wp_seq_k fun K0 hK => ?_
  have HK0 := Lib.hid hK
  clear hK
  obtain ⟨hn1, hn2⟩ := hOf_ten S
  have hn3 : tenH S < 3 := by omega
  have hq1 : (0 : Int) ≤ (tenH S : Int) := by omega
  have hq2 : (tenH S : Int) < 3 := by omega
  obtain ⟨A, c, hv, -, hnc, -⟩ := own_form (hI.1.at_.rows _ hn3)
  have HJ := Lib.hid hI
  have HJC := Lib.hid (fun V (h : TnH w0 p b4 b6 b9 b10 b11 (tenH S) (findG S.M (tenH S : Int) 29 1) S T v vd ve es r l1 l2 A1 A2 c1 c2 V) => h.cells hn3 hv)
  have HG := Lib.hid (fun V (h : TnH w0 p b4 b6 b9 b10 b11 (tenH S) (findG S.M (tenH S : Int) 29 1) S T v vd ve es r l1 l2 A1 A2 c1 c2 V) => good_m h.1.at_.mdl (hOf S))
  have HC := Lib.hid (fun V (h : TnH w0 p b4 b6 b9 b10 b11 (tenH S) (findG S.M (tenH S : Int) 29 1) S T v vd ve es r l1 l2 A1 A2 c1 c2 V) => contains_h A c (S.o (tenH S)) (hOf S) V.heap.size V (by have := hol (tenH S); omega) (Nat.le_refl _) (Reads.of_own (by have := h.1.at_.rows _ hn3; rw [hv] at this; exact this)))
  have HR := Lib.hid hrest
  have HV := Lib.hid hv
  unfold Hd.v at HG HC
  have hOt : (hOf S).t = (tenH S : Int) := rfl
  have hOg : (hOf S).g = findG S.M (tenH S : Int) 29 1 := rfl
  have hOr : (hOf S).r = 1 := rfl
  rw [hOt, hOg, hOr] at HG HC
  have HO : Hid (oldN S = if goodN S.M (hOf S) && !((S.o (tenH S)).any (fun x => decide (hOf S = x))) then updF S.o (tenH S) (S.o (tenH S) ++ [hOf S]) else S.o) := Lib.hid rfl
  have j0 := HJC.out _ hI
  obtain ⟨e0, e1, e2, e4⟩ := j0
  have HOL := Lib.hid hol
  clear hI hrest hv hOt hOg hOr hol
  have hmix : Tryz.prog.follows .mixedOrders = true := by kernel_rfl
  cases hg : goodN S.M (hOf S) with
  | false =>
    have HE : Hid (oldN S = S.o) := Lib.hid (by rw [HO.out, hg]; rfl)
    rw [hg] at HG
    clear hg HO
    go_wp2_with fail
    have HS0 : (fun V => TnH w0 p b4 b6 b9 b10 b11 (tenH S) (findG S.M (tenH S : Int) 29 1) S T v vd ve es r l1 l2 A1 A2 c1 c2 V ∧ V.cell? ⟨b11, 0, none⟩ = some (.int .i64 (tenH S : Nat)) ∧ V.cell? ⟨b11, 1, none⟩ = some (.int .u32 (findG S.M (tenH S : Int) 29 1)) ∧ V.cell? ⟨b11, 2, none⟩ = some (.int .u8 1) ∧ V.cell? ⟨b4, tenH S, none⟩ = some (.slice A (S.o (tenH S)).length c)) wx.drew := ⟨⟨HJ.out.1.below (Below.refl _ _).drew, HJ.out.2.drew⟩, e0, e1, e2, e4⟩
    refine wp_region_noPanic ?_
    refine wp_region_L 11 (fun V => TnH w0 p b4 b6 b9 b10 b11 (tenH S) (findG S.M (tenH S : Int) 29 1) S T v vd ve es r l1 l2 A1 A2 c1 c2 V ∧ V.cell? ⟨b11, 0, none⟩ = some (.int .i64 (tenH S : Nat)) ∧ V.cell? ⟨b11, 1, none⟩ = some (.int .u32 (findG S.M (tenH S : Int) 29 1)) ∧ V.cell? ⟨b11, 2, none⟩ = some (.int .u8 1) ∧ V.cell? ⟨b4, tenH S, none⟩ = some (.slice A (S.o (tenH S)).length c)) hmix ?_
    refine wpAnyL_take (i := 0) (v := ?_) rfl (by kernel_rfl) (by kernel_rfl) (by kernel_rfl) (by kernel_rfl) (fun _ _ _ h => h.elim) (Or.inl ⟨by rfl, ?_⟩) HS0 ?_
    rotate_left
    · (intro w hSw; (try dsimp only at hSw); go_simp <;> with_reducible rfl)
    try simp only [Act.put, List.getElem_toArray, List.getElem_cons_succ, List.getElem_cons_zero, List.setIfInBounds_toArray, List.set_cons_zero, List.set_cons_succ]
    refine wpAnyL_take (i := 1) (v := ?_) rfl (by kernel_rfl) (by kernel_rfl) (by kernel_rfl) (by kernel_rfl) (fun _ _ _ h => h.elim) (Or.inl ⟨by rfl, ?_⟩) HS0 ?_
    rotate_left
    · (intro w hSw; (try dsimp only at hSw); go_simp <;> with_reducible rfl)
    try simp only [Act.put, List.getElem_toArray, List.getElem_cons_succ, List.getElem_cons_zero, List.setIfInBounds_toArray, List.set_cons_zero, List.set_cons_succ]
    refine wpAnyL_ready (rs := [2]) (by kernel_rfl) (by simp) ?_
    refine AllL.cons rfl (fun K hK => ?_) AllL.nil
    go_simp
    refine (HG.out _ HS0.1).mono ?_
    rintro e wnHS1 ⟨rfl, hb2⟩
    have hJn := HS0.1.below hb2
    have HS1 : TnH w0 p b4 b6 b9 b10 b11 (tenH S) (findG S.M (tenH S : Int) 29 1) S T v vd ve es r l1 l2 A1 A2 c1 c2 wnHS1 ∧ wnHS1.cell? ⟨b11, 0, none⟩ = some (.int .i64 (tenH S : Nat)) ∧ wnHS1.cell? ⟨b11, 1, none⟩ = some (.int .u32 (findG S.M (tenH S : Int) 29 1)) ∧ wnHS1.cell? ⟨b11, 2, none⟩ = some (.int .u8 1) ∧ wnHS1.cell? ⟨b4, tenH S, none⟩ = some (.slice A (S.o (tenH S)).length c) := ⟨hJn, HJC.out _ hJn⟩
    refine hK.out _ _ (fun _ => HS1) ?_
    clear hK K hb2 hJn
    try simp only [Act.put, List.getElem_toArray, List.getElem_cons_succ, List.getElem_cons_zero, List.setIfInBounds_toArray, List.set_cons_zero, List.set_cons_succ]
    refine wpAnyL_take (i := 3) (v := ?_) rfl (by kernel_rfl) (by kernel_rfl) (by kernel_rfl) (by kernel_rfl) (fun _ _ _ h => h.elim) (Or.inl ⟨by rfl, ?_⟩) HS1 ?_
    rotate_left
    · (intro w hSw; (try dsimp only at hSw); go_simp <;> with_reducible rfl)
    try simp only [Act.put, List.getElem_toArray, List.getElem_cons_succ, List.getElem_cons_zero, List.setIfInBounds_toArray, List.set_cons_zero, List.set_cons_succ]
    refine wpAnyL_take (i := 4) (v := undef) rfl (by kernel_rfl) (by kernel_rfl) (by kernel_rfl) (by kernel_rfl) (fun _ _ _ h => h.elim) (Or.inr ⟨by rfl, rfl⟩) HS1 ?_
    try simp only [Act.put, List.getElem_toArray, List.getElem_cons_succ, List.getElem_cons_zero, List.setIfInBounds_toArray, List.set_cons_zero, List.set_cons_succ]
    refine wpAnyL_take (i := 5) (v := undef) rfl (by kernel_rfl) (by kernel_rfl) (by kernel_rfl) (by kernel_rfl) (fun _ _ _ h => h.elim) (Or.inr ⟨by rfl, rfl⟩) HS1 ?_
    try simp only [Act.put, List.getElem_toArray, List.getElem_cons_succ, List.getElem_cons_zero, List.setIfInBounds_toArray, List.set_cons_zero, List.set_cons_succ]
    refine wpAnyL_take (i := 6) (v := undef) rfl (by kernel_rfl) (by kernel_rfl) (by kernel_rfl) (by kernel_rfl) (fun _ _ _ h => h.elim) (Or.inr ⟨by rfl, rfl⟩) HS1 ?_
    try simp only [Act.put, List.getElem_toArray, List.getElem_cons_succ, List.getElem_cons_zero, List.setIfInBounds_toArray, List.set_cons_zero, List.set_cons_succ]
    refine wpAnyL_take (i := 7) (v := undef) rfl (by kernel_rfl) (by kernel_rfl) (by kernel_rfl) (by kernel_rfl) (fun _ _ _ h => h.elim) (Or.inr ⟨by rfl, rfl⟩) HS1 ?_
    try simp only [Act.put, List.getElem_toArray, List.getElem_cons_succ, List.getElem_cons_zero, List.setIfInBounds_toArray, List.set_cons_zero, List.set_cons_succ]
    refine wpAnyL_take (i := 8) (v := undef) rfl (by kernel_rfl) (by kernel_rfl) (by kernel_rfl) (by kernel_rfl) (fun _ _ _ h => h.elim) (Or.inr ⟨by rfl, rfl⟩) HS1 ?_
    try simp only [Act.put, List.getElem_toArray, List.getElem_cons_succ, List.getElem_cons_zero, List.setIfInBounds_toArray, List.set_cons_zero, List.set_cons_succ]
    refine wpAnyL_take (i := 9) (v := undef) rfl (by kernel_rfl) (by kernel_rfl) (by kernel_rfl) (by kernel_rfl) (fun _ _ _ h => h.elim) (Or.inr ⟨by rfl, rfl⟩) HS1 ?_
    try simp only [Act.put, List.getElem_toArray, List.getElem_cons_succ, List.getElem_cons_zero, List.setIfInBounds_toArray, List.set_cons_zero, List.set_cons_succ]
    refine wpAnyL_take (i := 10) (v := undef) rfl (by kernel_rfl) (by kernel_rfl) (by kernel_rfl) (by kernel_rfl) (fun _ _ _ h => h.elim) (Or.inr ⟨by rfl, rfl⟩) HS1 ?_
    try simp only [Act.put, List.getElem_toArray, List.getElem_cons_succ, List.getElem_cons_zero, List.setIfInBounds_toArray, List.set_cons_zero, List.set_cons_succ]
    refine wpAnyL_ready (rs := [11]) (by kernel_rfl) (by simp) ?_
    refine AllL.cons rfl (fun K hK => ?_) AllL.nil
    go_simp
    refine hK.out _ _ (fun _ => HS1) ?_
    clear hK K
    refine wpAnyL_done (by kernel_rfl) ?_ _
    refine NoPanic.normal ?_
    go_wp2
    have hZ : {S with o := oldN S} = S := by rw [HE.out]
    refine HK0.out _ _ ?_
    refine HQ.out _ _ _ _ _ _ _ _ _ _ _ _ _ _ _ _ _ _ _ _ _ _ v _ ?_
    rw [hZ]
    exact HS1.1.1
  | true =>
    cases hc : (S.o (tenH S)).any (fun x => decide (hOf S = x)) with
    | true =>
      have HE : Hid (oldN S = S.o) := Lib.hid (by rw [HO.out, hg, hc]; rfl)
      rw [hg] at HG
      rw [hc] at HC
      clear hg hc HO
      go_wp2_with fail
      have HS0 : (fun V => TnH w0 p b4 b6 b9 b10 b11 (tenH S) (findG S.M (tenH S : Int) 29 1) S T v vd ve es r l1 l2 A1 A2 c1 c2 V ∧ V.cell? ⟨b11, 0, none⟩ = some (.int .i64 (tenH S : Nat)) ∧ V.cell? ⟨b11, 1, none⟩ = some (.int .u32 (findG S.M (tenH S : Int) 29 1)) ∧ V.cell? ⟨b11, 2, none⟩ = some (.int .u8 1) ∧ V.cell? ⟨b4, tenH S, none⟩ = some (.slice A (S.o (tenH S)).length c)) wx.drew := ⟨⟨HJ.out.1.below (Below.refl _ _).drew, HJ.out.2.drew⟩, e0, e1, e2, e4⟩
      refine wp_region_noPanic ?_
      refine wp_region_L 11 (fun V => TnH w0 p b4 b6 b9 b10 b11 (tenH S) (findG S.M (tenH S : Int) 29 1) S T v vd ve es r l1 l2 A1 A2 c1 c2 V ∧ V.cell? ⟨b11, 0, none⟩ = some (.int .i64 (tenH S : Nat)) ∧ V.cell? ⟨b11, 1, none⟩ = some (.int .u32 (findG S.M (tenH S : Int) 29 1)) ∧ V.cell? ⟨b11, 2, none⟩ = some (.int .u8 1) ∧ V.cell? ⟨b4, tenH S, none⟩ = some (.slice A (S.o (tenH S)).length c)) hmix ?_
      refine wpAnyL_take (i := 0) (v := ?_) rfl (by kernel_rfl) (by kernel_rfl) (by kernel_rfl) (by kernel_rfl) (fun _ _ _ h => h.elim) (Or.inl ⟨by rfl, ?_⟩) HS0 ?_
      rotate_left
      · (intro w hSw; (try dsimp only at hSw); go_simp <;> with_reducible rfl)
      try simp only [Act.put, List.getElem_toArray, List.getElem_cons_succ, List.getElem_cons_zero, List.setIfInBounds_toArray, List.set_cons_zero, List.set_cons_succ]
      refine wpAnyL_take (i := 1) (v := ?_) rfl (by kernel_rfl) (by kernel_rfl) (by kernel_rfl) (by kernel_rfl) (fun _ _ _ h => h.elim) (Or.inl ⟨by rfl, ?_⟩) HS0 ?_
      rotate_left
      · (intro w hSw; (try dsimp only at hSw); go_simp <;> with_reducible rfl)
      try simp only [Act.put, List.getElem_toArray, List.getElem_cons_succ, List.getElem_cons_zero, List.setIfInBounds_toArray, List.set_cons_zero, List.set_cons_succ]
      refine wpAnyL_ready (rs := [2]) (by kernel_rfl) (by simp) ?_
      refine AllL.cons rfl (fun K hK => ?_) AllL.nil
      go_simp
      refine (HG.out _ HS0.1).mono ?_
      rintro e wnHS1 ⟨rfl, hb2⟩
      have hJn := HS0.1.below hb2
      have HS1 : TnH w0 p b4 b6 b9 b10 b11 (tenH S) (findG S.M (tenH S : Int) 29 1) S T v vd ve es r l1 l2 A1 A2 c1 c2 wnHS1 ∧ wnHS1.cell? ⟨b11, 0, none⟩ = some (.int .i64 (tenH S : Nat)) ∧ wnHS1.cell? ⟨b11, 1, none⟩ = some (.int .u32 (findG S.M (tenH S : Int) 29 1)) ∧ wnHS1.cell? ⟨b11, 2, none⟩ = some (.int .u8 1) ∧ wnHS1.cell? ⟨b4, tenH S, none⟩ = some (.slice A (S.o (tenH S)).length c) := ⟨hJn, HJC.out _ hJn⟩
      refine hK.out _ _ (fun _ => HS1) ?_
      clear hK K hb2 hJn
      try simp only [Act.put, List.getElem_toArray, List.getElem_cons_succ, List.getElem_cons_zero, List.setIfInBounds_toArray, List.set_cons_zero, List.set_cons_succ]
      refine wpAnyL_take (i := 3) (v := ?_) rfl (by kernel_rfl) (by kernel_rfl) (by kernel_rfl) (by kernel_rfl) (fun _ _ _ h => h.elim) (Or.inl ⟨by rfl, ?_⟩) HS1 ?_
      rotate_left
      · (intro w hSw; (try dsimp only at hSw); go_simp <;> with_reducible rfl)
      try simp only [Act.put, List.getElem_toArray, List.getElem_cons_succ, List.getElem_cons_zero, List.setIfInBounds_toArray, List.set_cons_zero, List.set_cons_succ]
      refine wpAnyL_take (i := 4) (v := ?_) rfl (by kernel_rfl) (by kernel_rfl) (by kernel_rfl) (by kernel_rfl) (fun _ _ _ h => h.elim) (Or.inl ⟨by rfl, ?_⟩) HS1 ?_
      rotate_left
      · (intro w hSw; (try dsimp only at hSw); go_simp <;> with_reducible rfl)
      try simp only [Act.put, List.getElem_toArray, List.getElem_cons_succ, List.getElem_cons_zero, List.setIfInBounds_toArray, List.set_cons_zero, List.set_cons_succ]
      refine wpAnyL_take (i := 5) (v := ?_) rfl (by kernel_rfl) (by kernel_rfl) (by kernel_rfl) (by kernel_rfl) (fun _ _ _ h => h.elim) (Or.inl ⟨by rfl, ?_⟩) HS1 ?_
      rotate_left
      · (intro w hSw; (try dsimp only at hSw); go_simp <;> with_reducible rfl)
      try simp only [Act.put, List.getElem_toArray, List.getElem_cons_succ, List.getElem_cons_zero, List.setIfInBounds_toArray, List.set_cons_zero, List.set_cons_succ]
      refine wpAnyL_take (i := 6) (v := ?_) rfl (by kernel_rfl) (by kernel_rfl) (by kernel_rfl) (by kernel_rfl) (fun _ _ _ h => h.elim) (Or.inl ⟨by rfl, ?_⟩) HS1 ?_
      rotate_left
      · (intro w hSw; (try dsimp only at hSw); go_simp <;> with_reducible rfl)
      try simp only [Act.put, List.getElem_toArray, List.getElem_cons_succ, List.getElem_cons_zero, List.setIfInBounds_toArray, List.set_cons_zero, List.set_cons_succ]
      refine wpAnyL_take (i := 7) (v := ?_) rfl (by kernel_rfl) (by kernel_rfl) (by kernel_rfl) (by kernel_rfl) (fun _ _ _ h => h.elim) (Or.inl ⟨by rfl, ?_⟩) HS1 ?_
      rotate_left
      · (intro w hSw; (try dsimp only at hSw); go_simp <;> with_reducible rfl)
      try simp only [Act.put, List.getElem_toArray, List.getElem_cons_succ, List.getElem_cons_zero, List.setIfInBounds_toArray, List.set_cons_zero, List.set_cons_succ]
      refine wpAnyL_take (i := 8) (v := ?_) rfl (by kernel_rfl) (by kernel_rfl) (by kernel_rfl) (by kernel_rfl) (fun _ _ _ h => h.elim) (Or.inl ⟨by rfl, ?_⟩) HS1 ?_
      rotate_left
      · (intro w hSw; (try dsimp only at hSw); go_simp <;> with_reducible rfl)
      try simp only [Act.put, List.getElem_toArray, List.getElem_cons_succ, List.getElem_cons_zero, List.setIfInBounds_toArray, List.set_cons_zero, List.set_cons_succ]
      refine wpAnyL_ready (rs := [9]) (by kernel_rfl) (by simp) ?_
      refine AllL.cons rfl (fun K hK => ?_) AllL.nil
      go_simp
      refine (HC.out _ HS1.1).mono ?_
      rintro e wnHS2 ⟨rfl, hb2⟩
      have hJn := HS1.1.below hb2
      have HS2 : TnH w0 p b4 b6 b9 b10 b11 (tenH S) (findG S.M (tenH S : Int) 29 1) S T v vd ve es r l1 l2 A1 A2 c1 c2 wnHS2 ∧ wnHS2.cell? ⟨b11, 0, none⟩ = some (.int .i64 (tenH S : Nat)) ∧ wnHS2.cell? ⟨b11, 1, none⟩ = some (.int .u32 (findG S.M (tenH S : Int) 29 1)) ∧ wnHS2.cell? ⟨b11, 2, none⟩ = some (.int .u8 1) ∧ wnHS2.cell? ⟨b4, tenH S, none⟩ = some (.slice A (S.o (tenH S)).length c) := ⟨hJn, HJC.out _ hJn⟩
      refine hK.out _ _ (fun _ => HS2) ?_
      clear hK K hb2 hJn
      try simp only [Act.put, List.getElem_toArray, List.getElem_cons_succ, List.getElem_cons_zero, List.setIfInBounds_toArray, List.set_cons_zero, List.set_cons_succ]
      refine wpAnyL_take (i := 10) (v := ?_) rfl (by kernel_rfl) (by kernel_rfl) (by kernel_rfl) (by kernel_rfl) (fun _ _ _ h => h.elim) (Or.inl ⟨by rfl, ?_⟩) HS2 ?_
      rotate_left
      · (intro w hSw; (try dsimp only at hSw); go_simp <;> with_reducible rfl)
      try simp only [Act.put, List.getElem_toArray, List.getElem_cons_succ, List.getElem_cons_zero, List.setIfInBounds_toArray, List.set_cons_zero, List.set_cons_succ]
      refine wpAnyL_ready (rs := [11]) (by kernel_rfl) (by simp) ?_
      refine AllL.cons rfl (fun K hK => ?_) AllL.nil
      go_simp
      refine hK.out _ _ (fun _ => HS2) ?_
      clear hK K
      refine wpAnyL_done (by kernel_rfl) ?_ _
      refine NoPanic.normal ?_
      go_wp2
      have hZ : {S with o := oldN S} = S := by rw [HE.out]
      refine HK0.out _ _ ?_
      refine HQ.out _ _ _ _ _ _ _ _ _ _ _ _ _ _ _ _ _ _ _ _ _ _ v _ ?_
      rw [hZ]
      exact HS2.1.1
    | false =>
      have HE : Hid (oldN S = updF S.o (tenH S) (S.o (tenH S) ++ [hOf S])) := Lib.hid (by rw [HO.out, hg, hc]; rfl)
      rw [hg] at HG
      rw [hc] at HC
      clear hg hc HO
      go_wp2_with fail
      have HS0 : (fun V => TnH w0 p b4 b6 b9 b10 b11 (tenH S) (findG S.M (tenH S : Int) 29 1) S T v vd ve es r l1 l2 A1 A2 c1 c2 V ∧ V.cell? ⟨b11, 0, none⟩ = some (.int .i64 (tenH S : Nat)) ∧ V.cell? ⟨b11, 1, none⟩ = some (.int .u32 (findG S.M (tenH S : Int) 29 1)) ∧ V.cell? ⟨b11, 2, none⟩ = some (.int .u8 1) ∧ V.cell? ⟨b4, tenH S, none⟩ = some (.slice A (S.o (tenH S)).length c)) wx.drew := ⟨⟨HJ.out.1.below (Below.refl _ _).drew, HJ.out.2.drew⟩, e0, e1, e2, e4⟩
      refine wp_region_noPanic ?_
      refine wp_region_L 11 (fun V => TnH w0 p b4 b6 b9 b10 b11 (tenH S) (findG S.M (tenH S : Int) 29 1) S T v vd ve es r l1 l2 A1 A2 c1 c2 V ∧ V.cell? ⟨b11, 0, none⟩ = some (.int .i64 (tenH S : Nat)) ∧ V.cell? ⟨b11, 1, none⟩ = some (.int .u32 (findG S.M (tenH S : Int) 29 1)) ∧ V.cell? ⟨b11, 2, none⟩ = some (.int .u8 1) ∧ V.cell? ⟨b4, tenH S, none⟩ = some (.slice A (S.o (tenH S)).length c)) hmix ?_
      refine wpAnyL_take (i := 0) (v := ?_) rfl (by kernel_rfl) (by kernel_rfl) (by kernel_rfl) (by kernel_rfl) (fun _ _ _ h => h.elim) (Or.inl ⟨by rfl, ?_⟩) HS0 ?_
      rotate_left
      · (intro w hSw; (try dsimp only at hSw); go_simp <;> with_reducible rfl)
      try simp only [Act.put, List.getElem_toArray, List.getElem_cons_succ, List.getElem_cons_zero, List.setIfInBounds_toArray, List.set_cons_zero, List.set_cons_succ]
      refine wpAnyL_take (i := 1) (v := ?_) rfl (by kernel_rfl) (by kernel_rfl) (by kernel_rfl) (by kernel_rfl) (fun _ _ _ h => h.elim) (Or.inl ⟨by rfl, ?_⟩) HS0 ?_
      rotate_left
      · (intro w hSw; (try dsimp only at hSw); go_simp <;> with_reducible rfl)
      try simp only [Act.put, List.getElem_toArray, List.getElem_cons_succ, List.getElem_cons_zero, List.setIfInBounds_toArray, List.set_cons_zero, List.set_cons_succ]
      refine wpAnyL_ready (rs := [2]) (by kernel_rfl) (by simp) ?_
      refine AllL.cons rfl (fun K hK => ?_) AllL.nil
      go_simp
      refine (HG.out _ HS0.1).mono ?_
      rintro e wnHS1 ⟨rfl, hb2⟩
      have hJn := HS0.1.below hb2
      have HS1 : TnH w0 p b4 b6 b9 b10 b11 (tenH S) (findG S.M (tenH S : Int) 29 1) S T v vd ve es r l1 l2 A1 A2 c1 c2 wnHS1 ∧ wnHS1.cell? ⟨b11, 0, none⟩ = some (.int .i64 (tenH S : Nat)) ∧ wnHS1.cell? ⟨b11, 1, none⟩ = some (.int .u32 (findG S.M (tenH S : Int) 29 1)) ∧ wnHS1.cell? ⟨b11, 2, none⟩ = some (.int .u8 1) ∧ wnHS1.cell? ⟨b4, tenH S, none⟩ = some (.slice A (S.o (tenH S)).length c) := ⟨hJn, HJC.out _ hJn⟩
      refine hK.out _ _ (fun _ => HS1) ?_
      clear hK K hb2 hJn
      try simp only [Act.put, List.getElem_toArray, List.getElem_cons_succ, List.getElem_cons_zero, List.setIfInBounds_toArray, List.set_cons_zero, List.set_cons_succ]
      refine wpAnyL_take (i := 3) (v := ?_) rfl (by kernel_rfl) (by kernel_rfl) (by kernel_rfl) (by kernel_rfl) (fun _ _ _ h => h.elim) (Or.inl ⟨by rfl, ?_⟩) HS1 ?_
      rotate_left
      · (intro w hSw; (try dsimp only at hSw); go_simp <;> with_reducible rfl)
      try simp only [Act.put, List.getElem_toArray, List.getElem_cons_succ, List.getElem_cons_zero, List.setIfInBounds_toArray, List.set_cons_zero, List.set_cons_succ]
      refine wpAnyL_take (i := 4) (v := ?_) rfl (by kernel_rfl) (by kernel_rfl) (by kernel_rfl) (by kernel_rfl) (fun _ _ _ h => h.elim) (Or.inl ⟨by rfl, ?_⟩) HS1 ?_
      rotate_left
      · (intro w hSw; (try dsimp only at hSw); go_simp <;> with_reducible rfl)
      try simp only [Act.put, List.getElem_toArray, List.getElem_cons_succ, List.getElem_cons_zero, List.setIfInBounds_toArray, List.set_cons_zero, List.set_cons_succ]
      refine wpAnyL_take (i := 5) (v := ?_) rfl (by kernel_rfl) (by kernel_rfl) (by kernel_rfl) (by kernel_rfl) (fun _ _ _ h => h.elim) (Or.inl ⟨by rfl, ?_⟩) HS1 ?_
      rotate_left
      · (intro w hSw; (try dsimp only at hSw); go_simp <;> with_reducible rfl)
      try simp only [Act.put, List.getElem_toArray, List.getElem_cons_succ, List.getElem_cons_zero, List.setIfInBounds_toArray, List.set_cons_zero, List.set_cons_succ]
      refine wpAnyL_take (i := 6) (v := ?_) rfl (by kernel_rfl) (by kernel_rfl) (by kernel_rfl) (by kernel_rfl) (fun _ _ _ h => h.elim) (Or.inl ⟨by rfl, ?_⟩) HS1 ?_
      rotate_left
      · (intro w hSw; (try dsimp only at hSw); go_simp <;> with_reducible rfl)
      try simp only [Act.put, List.getElem_toArray, List.getElem_cons_succ, List.getElem_cons_zero, List.setIfInBounds_toArray, List.set_cons_zero, List.set_cons_succ]
      refine wpAnyL_take (i := 7) (v := ?_) rfl (by kernel_rfl) (by kernel_rfl) (by kernel_rfl) (by kernel_rfl) (fun _ _ _ h => h.elim) (Or.inl ⟨by rfl, ?_⟩) HS1 ?_
      rotate_left
      · (intro w hSw; (try dsimp only at hSw); go_simp <;> with_reducible rfl)
      try simp only [Act.put, List.getElem_toArray, List.getElem_cons_succ, List.getElem_cons_zero, List.setIfInBounds_toArray, List.set_cons_zero, List.set_cons_succ]
      refine wpAnyL_take (i := 8) (v := ?_) rfl (by kernel_rfl) (by kernel_rfl) (by kernel_rfl) (by kernel_rfl) (fun _ _ _ h => h.elim) (Or.inl ⟨by rfl, ?_⟩) HS1 ?_
      rotate_left
      · (intro w hSw; (try dsimp only at hSw); go_simp <;> with_reducible rfl)
      try simp only [Act.put, List.getElem_toArray, List.getElem_cons_succ, List.getElem_cons_zero, List.setIfInBounds_toArray, List.set_cons_zero, List.set_cons_succ]
      refine wpAnyL_ready (rs := [9]) (by kernel_rfl) (by simp) ?_
      refine AllL.cons rfl (fun K hK => ?_) AllL.nil
      go_simp
      refine (HC.out _ HS1.1).mono ?_
      rintro e wnHS2 ⟨rfl, hb2⟩
      have hJn := HS1.1.below hb2
      have HS2 : TnH w0 p b4 b6 b9 b10 b11 (tenH S) (findG S.M (tenH S : Int) 29 1) S T v vd ve es r l1 l2 A1 A2 c1 c2 wnHS2 ∧ wnHS2.cell? ⟨b11, 0, none⟩ = some (.int .i64 (tenH S : Nat)) ∧ wnHS2.cell? ⟨b11, 1, none⟩ = some (.int .u32 (findG S.M (tenH S : Int) 29 1)) ∧ wnHS2.cell? ⟨b11, 2, none⟩ = some (.int .u8 1) ∧ wnHS2.cell? ⟨b4, tenH S, none⟩ = some (.slice A (S.o (tenH S)).length c) := ⟨hJn, HJC.out _ hJn⟩
      refine hK.out _ _ (fun _ => HS2) ?_
      clear hK K hb2 hJn
      try simp only [Act.put, List.getElem_toArray, List.getElem_cons_succ, List.getElem_cons_zero, List.setIfInBounds_toArray, List.set_cons_zero, List.set_cons_succ]
      refine wpAnyL_take (i := 10) (v := ?_) rfl (by kernel_rfl) (by kernel_rfl) (by kernel_rfl) (by kernel_rfl) (fun _ _ _ h => h.elim) (Or.inl ⟨by rfl, ?_⟩) HS2 ?_
      rotate_left
      · (intro w hSw; (try dsimp only at hSw); go_simp <;> with_reducible rfl)
      try simp only [Act.put, List.getElem_toArray, List.getElem_cons_succ, List.getElem_cons_zero, List.setIfInBounds_toArray, List.set_cons_zero, List.set_cons_succ]
      refine wpAnyL_ready (rs := [11]) (by kernel_rfl) (by simp) ?_
      refine AllL.cons rfl (fun K hK => ?_) AllL.nil
      go_simp
      refine hK.out _ _ (fun _ => HS2) ?_
      clear hK K
      refine wpAnyL_done (by kernel_rfl) ?_ _
      refine NoPanic.normal ?_
      go_wp2_with fail
      generalize wnHS2 = V at HS2 ⊢
      have HT3 := HS2
      clear HS2 HS1 HS0
      obtain ⟨i0, hi, hz0, hz1, hz2⟩ := info_parts infoHd
      refine wp_region_noPanic ?_
      refine wp_region_L 10 (fun V : World => V.cell? ⟨b11, 0, none⟩ = some (.int .i64 (tenH S : Nat)) ∧ V.cell? ⟨b11, 1, none⟩ = some (.int .u32 (findG S.M (tenH S : Int) 29 1)) ∧ V.cell? ⟨b11, 2, none⟩ = some (.int .u8 1) ∧ V.cell? ⟨b4, tenH S, none⟩ = some (.slice A (S.o (tenH S)).length c)) hmix ?_
      have HT4 : ((fun V => TnH w0 p b4 b6 b9 b10 b11 (tenH S) (findG S.M (tenH S : Int) 29 1) S T v vd ve es r l1 l2 A1 A2 c1 c2 V ∧ V.cell? ⟨b11, 0, none⟩ = some (.int .i64 (tenH S : Nat)) ∧ V.cell? ⟨b11, 1, none⟩ = some (.int .u32 (findG S.M (tenH S : Int) 29 1)) ∧ V.cell? ⟨b11, 2, none⟩ = some (.int .u8 1) ∧ V.cell? ⟨b4, tenH S, none⟩ = some (.slice A (S.o (tenH S)).length c))) V.drew := ⟨⟨HT3.1.1.below (Below.refl _ _).drew, HT3.1.2.drew⟩, HT3.2⟩
      refine wpAnyL_take (i := 0) (v := ?_) rfl (by kernel_rfl) (by kernel_rfl) (by kernel_rfl) (by kernel_rfl) (fun _ _ _ h => h.elim) (Or.inl ⟨by rfl, ?_⟩) HT4.2 ?_
      rotate_left
      · (intro w hSw; (try dsimp only at hSw); go_simp <;> with_reducible rfl)
      try simp only [Act.put, List.getElem_toArray, List.getElem_cons_succ, List.getElem_cons_zero, List.setIfInBounds_toArray, List.set_cons_zero, List.set_cons_succ]
      refine wpAnyL_take (i := 1) (v := ?_) rfl (by kernel_rfl) (by kernel_rfl) (by kernel_rfl) (by kernel_rfl) (fun _ _ _ h => h.elim) (Or.inl ⟨by rfl, ?_⟩) HT4.2 ?_
      rotate_left
      · (intro w hSw; (try dsimp only at hSw); go_simp <;> with_reducible rfl)
      try simp only [Act.put, List.getElem_toArray, List.getElem_cons_succ, List.getElem_cons_zero, List.setIfInBounds_toArray, List.set_cons_zero, List.set_cons_succ]
      refine wpAnyL_take (i := 2) (v := ?_) rfl (by kernel_rfl) (by kernel_rfl) (by kernel_rfl) (by kernel_rfl) (fun _ _ _ h => h.elim) (Or.inl ⟨by rfl, ?_⟩) HT4.2 ?_
      rotate_left
      · (intro w hSw; (try dsimp only at hSw); go_simp <;> with_reducible rfl)
      try simp only [Act.put, List.getElem_toArray, List.getElem_cons_succ, List.getElem_cons_zero, List.setIfInBounds_toArray, List.set_cons_zero, List.set_cons_succ]
      refine wpAnyL_take (i := 3) (v := ?_) rfl (by kernel_rfl) (by kernel_rfl) (by kernel_rfl) (by kernel_rfl) (fun _ _ _ h => h.elim) (Or.inl ⟨by rfl, ?_⟩) HT4.2 ?_
      rotate_left
      · (intro w hSw; (try dsimp only at hSw); go_simp <;> with_reducible rfl)
      try simp only [Act.put, List.getElem_toArray, List.getElem_cons_succ, List.getElem_cons_zero, List.setIfInBounds_toArray, List.set_cons_zero, List.set_cons_succ]
      refine wpAnyL_take (i := 4) (v := ?_) rfl (by kernel_rfl) (by kernel_rfl) (by kernel_rfl) (by kernel_rfl) (fun _ _ _ h => h.elim) (Or.inl ⟨by rfl, ?_⟩) HT4.2 ?_
      rotate_left
      · (intro w hSw; (try dsimp only at hSw); go_simp <;> with_reducible rfl)
      try simp only [Act.put, List.getElem_toArray, List.getElem_cons_succ, List.getElem_cons_zero, List.setIfInBounds_toArray, List.set_cons_zero, List.set_cons_succ]
      refine wpAnyL_take (i := 5) (v := ?_) rfl (by kernel_rfl) (by kernel_rfl) (by kernel_rfl) (by kernel_rfl) (fun _ _ _ h => h.elim) (Or.inl ⟨by rfl, ?_⟩) HT4.2 ?_
      rotate_left
      · (intro w hSw; (try dsimp only at hSw); go_simp <;> with_reducible rfl)
      try simp only [Act.put, List.getElem_toArray, List.getElem_cons_succ, List.getElem_cons_zero, List.setIfInBounds_toArray, List.set_cons_zero, List.set_cons_succ]
      refine wpAnyL_take (i := 6) (v := ?_) rfl (by kernel_rfl) (by kernel_rfl) (by kernel_rfl) (by kernel_rfl) (fun _ _ _ h => h.elim) (Or.inl ⟨by rfl, ?_⟩) HT4.2 ?_
      rotate_left
      · (intro w hSw; (try dsimp only at hSw); go_simp <;> with_reducible rfl)
      try simp only [Act.put, List.getElem_toArray, List.getElem_cons_succ, List.getElem_cons_zero, List.setIfInBounds_toArray, List.set_cons_zero, List.set_cons_succ]
      refine wpAnyL_ready (rs := [7]) (by kernel_rfl) (by simp) ?_
      refine AllL.cons rfl (fun K hK => ?_) AllL.nil
      go_simp
      have hJ5 := HT4.1.below (below_box V.drew (.cells #[.int .i64 (tenH S : Nat), .int .u32 (findG S.M (tenH S : Int) 29 1), .int .u8 1] 37))
      refine hK.out _ _ (fun _ => HJC.out _ hJ5) ?_
      clear hK K
      try simp only [Act.put, List.getElem_toArray, List.getElem_cons_succ, List.getElem_cons_zero, List.setIfInBounds_toArray, List.set_cons_zero, List.set_cons_succ]
      refine wpAnyL_ready (rs := [8]) (by kernel_rfl) (by simp) ?_
      refine AllL.cons rfl (fun K hK => ?_) AllL.nil
      rw [if_pos (by rfl)]
      refine wp_append_any _ (.tmp 70) (.tmp 72) 25 rfl w0.heap.size 37 i0 (.agg #[.int .i64 0, .int .u32 0, .int .u8 0]) 3 16 Tryz.underlying25 hi hz0 hz1 hz2 rfl (by decide) (.slice A (S.o (tenH S)).length c) (S.o (tenH S)).length ((S.o (tenH S)).flatMap hdR) rfl (by have := hJ5.1.at_.rows _ hn3; rw [HV.out] at this; exact this) (V.drew.heap.size + 1) (some ⟨V.drew.heap.size, 0, none⟩) 1 1 (hdR (hOf S)) rfl (reads_of_blk (Blk.new V.drew 37 _) rfl rfl) (by simp [hdR, Value.oneCell']) (by have := HOL.out (tenH S); unfold maxLen; omega) (by have := HOL.out (tenH S); omega) (by have := HT4.1.1.at_.bel.size; simp at this ⊢; omega) ?_
      intro u w1 hown1 hgrow1 hat1
      have hown2 : w1.ownsRow w0.heap.size 37 3 u ((S.o (tenH S)).length + 1) ((S.o (tenH S) ++ [hOf S]).flatMap hdR) := by rw [List.flatMap_append, List.flatMap_singleton]; exact hown1
      have hav : (Value.slice A (S.o (tenH S)).length c).ownBlock = (v (tenH S)).ownBlock := by rw [HV.out]
      rw [hav] at hgrow1 hat1
      obtain ⟨hT, hq4⟩ := HT4.1.1.at_.app hn3 hown2 hgrow1 hat1
      have hr11 := HR.out
      have q11 : Blk w1 b11 37 (hdA (tenH S : Nat) (findG S.M (tenH S : Int) 29 1)) := hJ5.2.grown hgrow1 (fun e => hr11.2.1 _ hn3 e.symm)
      have HT6 := Lib.hid (And.intro hT (HT4.1.1.app hn3 hT hgrow1))
      have e4' : w1.cell? ⟨b4, tenH S, none⟩ = some (.slice A (S.o (tenH S)).length c) := by rw [hq4.cell, three_at hn3, HV.out]
      have S6 : w1.cell? ⟨b11, 0, none⟩ = some (.int .i64 (tenH S : Nat)) ∧ w1.cell? ⟨b11, 1, none⟩ = some (.int .u32 (findG S.M (tenH S : Int) 29 1)) ∧ w1.cell? ⟨b11, 2, none⟩ = some (.int .u8 1) ∧ w1.cell? ⟨b4, tenH S, none⟩ = some (.slice A (S.o (tenH S)).length c) := ⟨q11.cell 0, q11.cell 1, q11.cell 2, e4'⟩
      have f4 := hq4.frozen (tenH S)
      refine hK.out _ _ (fun _ => S6) ?_
      clear hK K hown1 hown2 hat1 hav hT hq4 q11 hJ5
      obtain ⟨g', cap', rfl⟩ := ownsRow_succ (by have := HT6.out.1.rows _ hn3; simp only [updF_self] at this; rw [List.length_append] at this; exact this)
      try simp only [Act.put, List.getElem_toArray, List.getElem_cons_succ, List.getElem_cons_zero, List.setIfInBounds_toArray, List.set_cons_zero, List.set_cons_succ]
      refine wpAnyL_take (i := 9) (v := ?_) rfl (by kernel_rfl) (by kernel_rfl) (by kernel_rfl) (by kernel_rfl) (fun _ _ _ h => h.elim) (Or.inl ⟨by rfl, ?_⟩) S6 ?_
      rotate_left
      · (intro w hSw; (try dsimp only at hSw); go_simp <;> with_reducible rfl)
      try simp only [Act.put, List.getElem_toArray, List.getElem_cons_succ, List.getElem_cons_zero, List.setIfInBounds_toArray, List.set_cons_zero, List.set_cons_succ]
      refine wpAnyL_ready (rs := [10]) (by kernel_rfl) (by simp) ?_
      refine AllL.cons rfl (fun K hK => ?_) AllL.nil
      go_simp
      refine hK.out _ _ (fun h => Bool.noConfusion (show true = false from h)) ?_
      clear hK K
      refine wpAnyL_done (by kernel_rfl) ?_ _
      refine NoPanic.normal ?_
      refine HK0.out _ _ ?_
      have hZ : {S with o := oldN S} = { S with o := updF S.o (tenH S) (S.o (tenH S) ++ [hOf S]) } := by rw [HE.out]
      refine HQ.out _ _ _ _ _ _ _ _ _ _ _ _ _ _ _ _ _ _ _ _ _ _ (updF v (tenH S) (.slice (some ⟨g', 0, none⟩) ((S.o (tenH S)).length + 1) cap')) _ ?_
      rw [hZ]
      exact HT6.out.2
end Go.Proofs.YtkgflepgkhnclaaGreatDoor
namespace Go.Proofs.YtkgflepgkhnclaaGreatDoor
open Go.RowKit Go.Shelf
set_option linter.unusedVariables false
set_option linter.unusedSimpArgs false
attribute [local go_sem] run_store_complex

theorem below_setsI {B : Nat} {w W : World} (h : Below B w W) {b : Nat} (hb : B ≤ b) (o : Nat) (vs : List Value) : Below B w (W.setCells b o vs) := by
  obtain ⟨h1, h2, h3, h4, h5⟩ := sets_same b vs o W
  exact ⟨h1.trans h.os, h2.trans h.tape, h3.trans h.output, by have := h.size; omega, fun i hi => (h5 i (by omega)).trans (h.block i hi)⟩
theorem doN_st {w : World} {p : Nat} {M : Mdl} {T : Ows} (hm : ModelAt w p M T) (r : Req) : StOk (doN M r).2.st := by
  unfold doN
  split
  · exact operateN_st M r
  split
  · exact tellN_st hm r
  split
  · exact createN_st M r
  split
  · exact removeN_st M r
  split
  · exact issueN_st M r
  split
  · exact revokeN_st M r
  · exact st0_ok
set_option maxHeartbeats 6400000 in
set_option maxRecDepth 100000 in
theorem tn_do {w0 wx : World} (p b4 b6 b9 b10 c1' c2' : Nat) (A1 A2 : Option Addr) (S : Tn) (T : Ows) (v : Nat → Value) (vd ve : Value) (es : List Ent) (r : Req) (l1 l2 : List Kv) {u0 u1 u2 u7 u8 u11 u12 u13 u14 u15 u16 u17 u18 u19 u20 u21 u22 u23 u24 u25 u26 u27 u28 u29 u30 u31 u32 u33 u34 u35 u36 u37 u38 u39 u40 u41 u42 u43 u44 u45 u46 u47 u48 u49 u50 u51 u52 u53 u54 u55 u56 u57 u58 u59 u60 u61 u62 u63 u64 u65 u66 u67 u68 u69 u70 u71 u72 u73 u74 u75 u76 u77 u78 u79 u80 u81 u82 u83 u84 u85 u86 u87 u88 u89 u90 u91 u92 u93 u94 u95 u96 u97 u98 u99 u100 u101 u102 u103 u104 u105 u106 u107 u108 u109 u110 u111 u112 u113 u114 u115 u116 u117 u118 u119 u120 u121 u122 u123 u124 u125 u126 u127 u128 u129 u130 u131 u132 u133 u134 u135 u136 u137 u138 u139 u140 u141 u142 u143 u144 u145 u146 u147 u148 u149 u150 u151 u152 u153 u154 u155 u156 u157 u158 u159 u160 u161 u162 u163 u164 u165 u166 u167 u168 u169 u170 u171 u172 u173 u174 u175 u176 u177 u178 u179 u180 u181 : Value} {Q : Exit → Act → World → Prop} (hI : TnIn w0 wx p b4 b6 b9 b10 S T v vd ve es r l1 l2 A1 A2 c1' c2') (hr : r.ok) (hsm : Small S.M)
    (hQ : ∀ (s75 s76 s77 : Value) (b12 : Nat) (T' : Ows) (A : Option Addr) (c : Nat) (W' : World), TnIn w0 W' p b4 b6 b9 b10 { S with M := (doN S.M r).1 } T' v vd ve es r l1 l2 A1 A2 c1' c2' → Blk W' b12 52 ((doN S.M r).2.cells A c).toArray → Code.wp Tryz.prog (part Tryz.f3 [1, 1, 1, 1, 1, 0, 1, 2, 2, 1, 1, 0, 2, 1, 1, 1, 1, 1, 1, 1]) Q ⟨#[u0, u1, u2, .pointer (some ⟨p, 0, none⟩), .pointer (some ⟨b4, 0, none⟩), vd, .pointer (some ⟨b6, 0, none⟩), u7, u8, .pointer (some ⟨b9, 0, none⟩), .pointer (some ⟨b10, 0, none⟩), u11, .pointer (some ⟨b12, 0, none⟩), u13, u14, u15, u16, u17, u18, u19, u20, u21, u22, u23, u24, u25, u26, u27, u28, u29, u30, u31, u32, u33, u34, u35, u36, u37, u38, u39, u40, u41, u42, u43, u44, u45, u46, u47, u48, u49, u50, u51, u52, u53, u54, u55, u56, u57, u58, u59, u60, u61, u62, u63, u64, u65, u66, u67, u68, u69, u70, u71, u72, u73, u74, s75, s76, s77, u78, u79, u80, u81, u82, u83, u84, u85, u86, u87, u88, u89, u90, u91, u92, u93, u94, u95, u96, u97, u98, u99, u100, u101, u102, u103, u104, u105, u106, u107, u108, u109, u110, u111, u112, u113, u114, u115, u116, u117, u118, u119, u120, u121, u122, u123, u124, u125, u126, u127, u128, u129, u130, u131, u132, u133, u134, u135, u136, u137, u138, u139, u140, u141, u142, u143, u144, u145, u146, u147, u148, u149, u150, u151, u152, u153, u154, u155, u156, u157, u158, u159, u160, u161, u162, u163, u164, u165, u166, u167, u168, u169, u170, u171, u172, u173, u174, u175, u176, u177, u178, u179, u180, u181], []⟩ W') :
    Code.wp Tryz.prog (part Tryz.f3 [1, 1, 1, 1, 1, 0, 1, 2, 2, 1, 1, 0, 2, 1, 1, 1, 1, 1, 1]) Q ⟨#[u0, u1, u2, .pointer (some ⟨p, 0, none⟩), .pointer (some ⟨b4, 0, none⟩), vd, .pointer (some ⟨b6, 0, none⟩), u7, u8, .pointer (some ⟨b9, 0, none⟩), .pointer (some ⟨b10, 0, none⟩), u11, u12, u13, u14, u15, u16, u17, u18, u19, u20, u21, u22, u23, u24, u25, u26, u27, u28, u29, u30, u31, u32, u33, u34, u35, u36, u37, u38, u39, u40, u41, u42, u43, u44, u45, u46, u47, u48, u49, u50, u51, u52, u53, u54, u55, u56, u57, u58, u59, u60, u61, u62, u63, u64, u65, u66, u67, u68, u69, u70, u71, u72, u73, u74, u75, u76, u77, u78, u79, u80, u81, u82, u83, u84, u85, u86, u87, u88, u89, u90, u91, u92, u93, u94, u95, u96, u97, u98, u99, u100, u101, u102, u103, u104, u105, u106, u107, u108, u109, u110, u111, u112, u113, u114, u115, u116, u117, u118, u119, u120, u121, u122, u123, u124, u125, u126, u127, u128, u129, u130, u131, u132, u133, u134, u135, u136, u137, u138, u139, u140, u141, u142, u143, u144, u145, u146, u147, u148, u149, u150, u151, u152, u153, u154, u155, u156, u157, u158, u159, u160, u161, u162, u163, u164, u165, u166, u167, u168, u169, u170, u171, u172, u173, u174, u175, u176, u177, u178, u179, u180, u181], []⟩ wx := by
  conv => arg 2; whnf
  have HQ := Lib.hid hQ
  clear hQ
  have HI := Lib.hid hI
  have HD := Lib.hid (Do_m hI.at_.mdl r hr hsm)
  have HS := Lib.hid (doN_st hI.at_.mdl r)
  obtain ⟨c0, c1, c2, c3, c4, c5, c6, c7, c8, c9, c10, c11⟩ := req_cells hI.req
  clear hI hr hsm
  refine wp_seq_k fun K0 hK => ?_
  have HK0 := Lib.hid hK
  clear hK
  go_wp2_with fail
  refine HD.out.mono ?_
  intro e w4 hE
  obtain ⟨A, c, T', rfl, hT, hk⟩ := HI.out.at_.do_ hE
  have hin : TnIn w0 w4 p b4 b6 b9 b10 { S with M := (doN S.M r).1 } T' v vd ve es r l1 l2 A1 A2 c1' c2' :=
    ⟨hT, hk.blk HI.out.req (by simp [TnT]), hk.blk HI.out.prs (by simp [TnT]), hk.own HI.out.pr1 (by simp [TnT]), hk.own HI.out.pr2 (by simp [TnT])⟩
  have HN := Lib.hid hin
  clear hE hT hk hin c0 c1 c2 c3 c4 c5 c6 c7 c8 c9 c10 c11 HD
  have hq12 : Blk (w4.alloc (.cells zeroA 52)) w4.heap.size 52 zeroA := Blk.new _ _ _
  have hlen := ans_len HS.out A c
  go_wp2_with (refine wpList_store_mid rfl 52 (.tmp 12) (.tmp 77) rfl w4.heap.size 0 ((doN S.M r).2.cells A c).toArray rfl rfl (by rw [hlen]; exact there_blk hq12 (Nat.le_refl 17)) (by rw [hlen]; exact infoAns) (ans_one HS.out _ _) ?_)
  have hqq := blk_setAll hq12 hlen.symm
  refine HK0.out _ _ ?_
  refine HQ.out _ _ _ _ _ _ _ _ (HN.out.below (below_setsI (below_box w4 _) (Nat.le_refl _) 0 _)) hqq
end Go.Proofs.YtkgflepgkhnclaaGreatDoor
namespace Go.Proofs.YtkgflepgkhnclaaGreatDoor
open Go.RowKit Go.Shelf
set_option linter.unusedVariables false
set_option linter.unusedSimpArgs false

theorem TnIn.limits {w0 W : World} {p b4 b6 b9 b10 : Nat} {S : Tn} {T : Ows} {v : Nat → Value} {vd ve : Value} {es : List Ent} {r : Req} {l1 l2 : List Kv} {A1 A2 : Option Addr} {c1 c2 : Nat} (h : TnIn w0 W p b4 b6 b9 b10 S T v vd ve es r l1 l2 A1 A2 c1 c2) {n : Nat} (hn : n < 3) (x y : Int) :
    TnIn w0 ((W.setCell ⟨b6, n * 2, none⟩ (.int .u64 x)).setCell ⟨b6, n * 2 + 1, none⟩ (.int .u64 y)) p b4 b6 b9 b10 { S with lk := updF S.lk n x, lb := updF S.lb n y } T v vd ve es r l1 l2 A1 A2 c1 c2 ∧
    ∀ {i : Nat} {t : TypeId} {cs : Array Value}, Blk W i t cs → t ≠ 30 → Blk ((W.setCell ⟨b6, n * 2, none⟩ (.int .u64 x)).setCell ⟨b6, n * 2 + 1, none⟩ (.int .u64 y)) i t cs := by
  have hs : ∀ {i : Nat} {t : TypeId} {cs : Array Value}, Blk W i t cs → t ≠ 30 → ((W.setCell ⟨b6, n * 2, none⟩ (.int .u64 x)).setCell ⟨b6, n * 2 + 1, none⟩ (.int .u64 y)).heap[i]? = W.heap[i]? := fun {i t cs} hb h2 => by
    have n4 : i ≠ b6 := fun e => by subst e; have h3 := h.at_.lim; unfold Blk at h3 hb; rw [hb] at h3; injection h3 with h3; injection h3 with _ h3 _; exact h2 h3
    rw [Below.heap_setCell _ _ _ i n4, Below.heap_setCell _ _ _ i n4]
  have ho : ∀ {size m base : Nat} {y' : Value} {xs : List Value}, W.ownsRow base 57 size y' m xs → ((W.setCell ⟨b6, n * 2, none⟩ (.int .u64 x)).setCell ⟨b6, n * 2 + 1, none⟩ (.int .u64 y)).ownsRow base 57 size y' m xs := fun hr => own_same hr (fun g e => by
    obtain ⟨-, -, cs, hb⟩ := own_at hr e
    exact hs hb (by decide))
  exact ⟨⟨h.at_.limits hn x y, (hs h.req (by decide)).trans h.req, (hs h.prs (by decide)).trans h.prs, ho h.pr1, ho h.pr2⟩, fun hb h2 => (hs hb h2).trans hb⟩
set_option maxHeartbeats 6400000 in
set_option maxRecDepth 100000 in
theorem tn_lims {w0 wx : World} (p b4 b6 b9 b10 b12 c1' c2' : Nat) (A1 A2 : Option Addr) (S : Tn) (T : Ows) (v : Nat → Value) (vd ve : Value) (es : List Ent) (r : Req) (l1 l2 : List Kv) (er : Int) (acs : Array Value) {u0 u1 u2 u7 u8 u11 u13 u14 u15 u16 u17 u18 u19 u20 u21 u22 u23 u24 u25 u26 u27 u28 u29 u30 u31 u32 u33 u34 u35 u36 u37 u38 u39 u40 u41 u42 u43 u44 u45 u46 u47 u48 u49 u50 u51 u52 u53 u54 u55 u56 u57 u58 u59 u60 u61 u62 u63 u64 u65 u66 u67 u68 u69 u70 u71 u72 u73 u74 u75 u76 u77 u78 u79 u80 u81 u82 u83 u84 u85 u86 u87 u88 u89 u90 u91 u92 u93 u94 u95 u96 u97 u98 u99 u100 u101 u102 u103 u104 u105 u106 u107 u108 u109 u110 u111 u112 u113 u114 u115 u116 u117 u118 u119 u120 u121 u122 u123 u124 u125 u126 u127 u128 u129 u130 u131 u132 u133 u134 u135 u136 u137 u138 u139 u140 u141 u142 u143 u144 u145 u146 u147 u148 u149 u150 u151 u152 u153 u154 u155 u156 u157 u158 u159 u160 u161 u162 u163 u164 u165 u166 u167 u168 u169 u170 u171 u172 u173 u174 u175 u176 u177 u178 u179 u180 u181 : Value} {Q : Exit → Act → World → Prop} (hI : TnIn w0 wx p b4 b6 b9 b10 S T v vd ve es r l1 l2 A1 A2 c1' c2') (hb : Blk wx b12 52 acs) (ha : acs[0]? = some (.int .i64 er)) (ht : er = 0 → r.deed = 7 → ∃ n : Nat, r.tenant = n ∧ n < 3)
    (hQ : ∀ (s78 s79 s80 s81 s82 s83 s84 s85 s86 s87 s88 s89 s90 : Value) (W' : World), TnIn w0 W' p b4 b6 b9 b10 ({ S with lk := if er = 0 ∧ r.deed = 7 then updF S.lk r.tenant.toNat r.qk else S.lk, lb := if er = 0 ∧ r.deed = 7 then updF S.lb r.tenant.toNat r.qb else S.lb } : Tn) T v vd ve es r l1 l2 A1 A2 c1' c2' → Blk W' b12 52 acs → Code.wp Tryz.prog (part Tryz.f3 [1, 1, 1, 1, 1, 0, 1, 2, 2, 1, 1, 0, 2, 1, 1, 1, 1, 1, 1, 1, 1]) Q ⟨#[u0, u1, u2, .pointer (some ⟨p, 0, none⟩), .pointer (some ⟨b4, 0, none⟩), vd, .pointer (some ⟨b6, 0, none⟩), u7, u8, .pointer (some ⟨b9, 0, none⟩), .pointer (some ⟨b10, 0, none⟩), u11, .pointer (some ⟨b12, 0, none⟩), u13, u14, u15, u16, u17, u18, u19, u20, u21, u22, u23, u24, u25, u26, u27, u28, u29, u30, u31, u32, u33, u34, u35, u36, u37, u38, u39, u40, u41, u42, u43, u44, u45, u46, u47, u48, u49, u50, u51, u52, u53, u54, u55, u56, u57, u58, u59, u60, u61, u62, u63, u64, u65, u66, u67, u68, u69, u70, u71, u72, u73, u74, u75, u76, u77, s78, s79, s80, s81, s82, s83, s84, s85, s86, s87, s88, s89, s90, u91, u92, u93, u94, u95, u96, u97, u98, u99, u100, u101, u102, u103, u104, u105, u106, u107, u108, u109, u110, u111, u112, u113, u114, u115, u116, u117, u118, u119, u120, u121, u122, u123, u124, u125, u126, u127, u128, u129, u130, u131, u132, u133, u134, u135, u136, u137, u138, u139, u140, u141, u142, u143, u144, u145, u146, u147, u148, u149, u150, u151, u152, u153, u154, u155, u156, u157, u158, u159, u160, u161, u162, u163, u164, u165, u166, u167, u168, u169, u170, u171, u172, u173, u174, u175, u176, u177, u178, u179, u180, u181], []⟩ W') :
    Code.wp Tryz.prog (part Tryz.f3 [1, 1, 1, 1, 1, 0, 1, 2, 2, 1, 1, 0, 2, 1, 1, 1, 1, 1, 1, 1]) Q ⟨#[u0, u1, u2, .pointer (some ⟨p, 0, none⟩), .pointer (some ⟨b4, 0, none⟩), vd, .pointer (some ⟨b6, 0, none⟩), u7, u8, .pointer (some ⟨b9, 0, none⟩), .pointer (some ⟨b10, 0, none⟩), u11, .pointer (some ⟨b12, 0, none⟩), u13, u14, u15, u16, u17, u18, u19, u20, u21, u22, u23, u24, u25, u26, u27, u28, u29, u30, u31, u32, u33, u34, u35, u36, u37, u38, u39, u40, u41, u42, u43, u44, u45, u46, u47, u48, u49, u50, u51, u52, u53, u54, u55, u56, u57, u58, u59, u60, u61, u62, u63, u64, u65, u66, u67, u68, u69, u70, u71, u72, u73, u74, u75, u76, u77, u78, u79, u80, u81, u82, u83, u84, u85, u86, u87, u88, u89, u90, u91, u92, u93, u94, u95, u96, u97, u98, u99, u100, u101, u102, u103, u104, u105, u106, u107, u108, u109, u110, u111, u112, u113, u114, u115, u116, u117, u118, u119, u120, u121, u122, u123, u124, u125, u126, u127, u128, u129, u130, u131, u132, u133, u134, u135, u136, u137, u138, u139, u140, u141, u142, u143, u144, u145, u146, u147, u148, u149, u150, u151, u152, u153, u154, u155, u156, u157, u158, u159, u160, u161, u162, u163, u164, u165, u166, u167, u168, u169, u170, u171, u172, u173, u174, u175, u176, u177, u178, u179, u180, u181], []⟩ wx := by
  conv => arg 2; whnf
  have HQ := Lib.hid hQ
  clear hQ
  have HI := Lib.hid (And.intro hI hb)
  obtain ⟨c0, c1, c2, c3, c4, c5, c6, c7, c8, c9, c10, c11⟩ := req_cells hI.req
  have d0 : wx.cell? ⟨b12, 0, none⟩ = some (.int .i64 er) := by rw [hb.cell]; exact ha
  have HT := Lib.hid ht
  clear ht ha hb
  refine wp_seq_k fun K0 hK => ?_
  have HK0 := Lib.hid hK
  clear hK
  by_cases h1 : er = 0
  · by_cases h7 : r.deed = 7
    · obtain ⟨n, hn, hn3⟩ := HT.out h1 h7
      have HN := Lib.hid (And.intro h1 h7)
      rw [hn] at c8
      have f0 := hI.at_.lim.frozen (n * 2)
      have f1 := hI.at_.lim.frozen (n * 2 + 1)
      have g0 : wx.cell? ⟨b6, n * 2, none⟩ = some (.int .u64 (S.lk n)) := by rw [hI.at_.lim.cell]; exact (six_at hn3 S.lk S.lb).1
      have g1 : wx.cell? ⟨b6, n * 2 + 1, none⟩ = some (.int .u64 (S.lb n)) := by rw [hI.at_.lim.cell]; exact (six_at hn3 S.lk S.lb).2
      have hz : (er == 0) = true := by rw [h1]; rfl
      have h7' : (r.deed == 7) = true := by rw [h7]; rfl
      have hq1 : (0 : Int) ≤ (n : Int) := by omega
      have hq2 : (n : Int) < 3 := by omega
      have HNN := Lib.hid hn
      clear hI h1 h7 hn
      go_wp2
      refine HK0.out _ _ ?_
      have hl := HI.out.1.limits hn3 r.qk r.qb
      refine HQ.out _ _ _ _ _ _ _ _ _ _ _ _ _ _ ?_ (hl.2 HI.out.2 (by decide))
      have hZ : ({ S with lk := if er = 0 ∧ r.deed = 7 then updF S.lk r.tenant.toNat r.qk else S.lk, lb := if er = 0 ∧ r.deed = 7 then updF S.lb r.tenant.toNat r.qb else S.lb } : Tn) = { S with lk := updF S.lk n r.qk, lb := updF S.lb n r.qb } := by rw [if_pos HN.out, if_pos HN.out, HNN.out, Int.toNat_natCast]
      rw [hZ]
      exact hl.1
    · have HN := Lib.hid (fun e : er = 0 ∧ r.deed = 7 => h7 e.2)
      have hz : (er == 0) = true := by rw [h1]; rfl
      have h7' : (r.deed == 7) = false := by simpa using h7
      clear h1 h7 hI
      go_wp2
      refine HK0.out _ _ ?_
      have hZ : ({ S with lk := if er = 0 ∧ r.deed = 7 then updF S.lk r.tenant.toNat r.qk else S.lk, lb := if er = 0 ∧ r.deed = 7 then updF S.lb r.tenant.toNat r.qb else S.lb } : Tn) = S := by rw [if_neg HN.out, if_neg HN.out]
      refine HQ.out _ _ _ _ _ _ _ _ _ _ _ _ _ _ ?_ HI.out.2
      rw [hZ]
      exact HI.out.1
  · have HN := Lib.hid (fun e : er = 0 ∧ r.deed = 7 => h1 e.1)
    have hz : (er == 0) = false := by simpa using h1
    clear h1 hI
    go_wp2
    refine HK0.out _ _ ?_
    have hZ : ({ S with lk := if er = 0 ∧ r.deed = 7 then updF S.lk r.tenant.toNat r.qk else S.lk, lb := if er = 0 ∧ r.deed = 7 then updF S.lb r.tenant.toNat r.qb else S.lb } : Tn) = S := by rw [if_neg HN.out, if_neg HN.out]
    refine HQ.out _ _ _ _ _ _ _ _ _ _ _ _ _ _ ?_ HI.out.2
    rw [hZ]
    exact HI.out.1
end Go.Proofs.YtkgflepgkhnclaaGreatDoor
namespace Go.Proofs.YtkgflepgkhnclaaGreatDoor
open Go.RowKit Go.Shelf
set_option linter.unusedVariables false
set_option linter.unusedSimpArgs false

theorem TnIn.app_d {w0 W w1 : World} {p b4 b6 b9 b10 : Nat} {S : Tn} {T : Ows} {v : Nat → Value} {vd ve u : Value} {es : List Ent} {r : Req} {l1 l2 : List Kv} {A1 A2 : Option Addr} {c1 c2 : Nat} {l : List Hd} (h : TnIn w0 W p b4 b6 b9 b10 S T v vd ve es r l1 l2 A1 A2 c1 c2)
    (hT : TnAt w0 w1 p b4 b6 { S with d := S.d ++ l } T v u ve es) (hg : W.grownBy w1 vd.ownBlock) :
    TnIn w0 w1 p b4 b6 b9 b10 { S with d := S.d ++ l } T v u ve es r l1 l2 A1 A2 c1 c2 ∧
    ∀ {i : Nat} {t : TypeId} {cs : Array Value}, Blk W i t cs → t ≠ 37 → Blk w1 i t cs := by
  have hs : ∀ {i : Nat} {t : TypeId} {cs : Array Value}, Blk W i t cs → t ≠ 37 → w1.heap[i]? = W.heap[i]? := fun {i t cs} hb h2 =>
    hg.block i hb.lt (fun e => own_blk_ne h.at_.row_d hb (Ne.symm h2) e.symm)
  have ho : ∀ {size m base : Nat} {y' : Value} {xs : List Value}, W.ownsRow base 57 size y' m xs → w1.ownsRow base 57 size y' m xs := fun hr => own_same hr (fun g e => by
    obtain ⟨-, -, cs, hb⟩ := own_at hr e
    exact hs hb (by decide))
  exact ⟨⟨hT, (hs h.req (by decide)).trans h.req, (hs h.prs (by decide)).trans h.prs, ho h.pr1, ho h.pr2⟩, fun hb h2 => (hs hb h2).trans hb⟩
theorem hdR_one (x : Hd) : ∀ u ∈ hdR x, u.oneCell' = true := by simp [hdR, Value.oneCell']
set_option maxHeartbeats 6400000 in
set_option maxRecDepth 100000 in
theorem tn_dead_ {w0 wx : World} (p b4 b6 b9 b10 b12 c1' c2' : Nat) (A1 A2 : Option Addr) (S : Tn) (T : Ows) (v : Nat → Value) (vd ve : Value) (es : List Ent) (r : Req) (l1 l2 : List Kv) (er : Int) (acs : Array Value) {u0 u1 u2 u7 u8 u11 u13 u14 u15 u16 u17 u18 u19 u20 u21 u22 u23 u24 u25 u26 u27 u28 u29 u30 u31 u32 u33 u34 u35 u36 u37 u38 u39 u40 u41 u42 u43 u44 u45 u46 u47 u48 u49 u50 u51 u52 u53 u54 u55 u56 u57 u58 u59 u60 u61 u62 u63 u64 u65 u66 u67 u68 u69 u70 u71 u72 u73 u74 u75 u76 u77 u78 u79 u80 u81 u82 u83 u84 u85 u86 u87 u88 u89 u90 u91 u92 u93 u94 u95 u96 u97 u98 u99 u100 u101 u102 u103 u104 u105 u106 u107 u108 u109 u110 u111 u112 u113 u114 u115 u116 u117 u118 u119 u120 u121 u122 u123 u124 u125 u126 u127 u128 u129 u130 u131 u132 u133 u134 u135 u136 u137 u138 u139 u140 u141 u142 u143 u144 u145 u146 u147 u148 u149 u150 u151 u152 u153 u154 u155 u156 u157 u158 u159 u160 u161 u162 u163 u164 u165 u166 u167 u168 u169 u170 u171 u172 u173 u174 u175 u176 u177 u178 u179 u180 u181 : Value} {Q : Exit → Act → World → Prop} (hI : TnIn w0 wx p b4 b6 b9 b10 S T v vd ve es r l1 l2 A1 A2 c1' c2') (hb : Blk wx b12 52 acs) (ha : acs[0]? = some (.int .i64 er)) (ht : er = 0 → (r.deed = 10 ∨ r.deed = 8) → ∃ n : Nat, r.tenant = n ∧ n < 3) (hol : ∀ t, (S.o t).length ≤ 30) (hdl : S.d.length ≤ 1000)
    (hQ : ∀ (s91 s92 s93 s94 s95 s96 s97 s98 s99 s100 s101 s102 s103 s104 s105 s106 s107 s108 s109 : Value) (vd' : Value) (W' : World), TnIn w0 W' p b4 b6 b9 b10 ({ S with d := if er = 0 ∧ (r.deed = 10 ∨ r.deed = 8) then S.d ++ S.o r.tenant.toNat else S.d } : Tn) T v vd' ve es r l1 l2 A1 A2 c1' c2' → Blk W' b12 52 acs → Code.wp Tryz.prog (part Tryz.f3 [1, 1, 1, 1, 1, 0, 1, 2, 2, 1, 1, 0, 2, 1, 1, 1, 1, 1, 1, 1, 1, 1]) Q ⟨#[u0, u1, u2, .pointer (some ⟨p, 0, none⟩), .pointer (some ⟨b4, 0, none⟩), vd', .pointer (some ⟨b6, 0, none⟩), u7, u8, .pointer (some ⟨b9, 0, none⟩), .pointer (some ⟨b10, 0, none⟩), u11, .pointer (some ⟨b12, 0, none⟩), u13, u14, u15, u16, u17, u18, u19, u20, u21, u22, u23, u24, u25, u26, u27, u28, u29, u30, u31, u32, u33, u34, u35, u36, u37, u38, u39, u40, u41, u42, u43, u44, u45, u46, u47, u48, u49, u50, u51, u52, u53, u54, u55, u56, u57, u58, u59, u60, u61, u62, u63, u64, u65, u66, u67, u68, u69, u70, u71, u72, u73, u74, u75, u76, u77, u78, u79, u80, u81, u82, u83, u84, u85, u86, u87, u88, u89, u90, s91, s92, s93, s94, s95, s96, s97, s98, s99, s100, s101, s102, s103, s104, s105, s106, s107, s108, s109, u110, u111, u112, u113, u114, u115, u116, u117, u118, u119, u120, u121, u122, u123, u124, u125, u126, u127, u128, u129, u130, u131, u132, u133, u134, u135, u136, u137, u138, u139, u140, u141, u142, u143, u144, u145, u146, u147, u148, u149, u150, u151, u152, u153, u154, u155, u156, u157, u158, u159, u160, u161, u162, u163, u164, u165, u166, u167, u168, u169, u170, u171, u172, u173, u174, u175, u176, u177, u178, u179, u180, u181], []⟩ W') :
    Code.wp Tryz.prog (part Tryz.f3 [1, 1, 1, 1, 1, 0, 1, 2, 2, 1, 1, 0, 2, 1, 1, 1, 1, 1, 1, 1, 1]) Q ⟨#[u0, u1, u2, .pointer (some ⟨p, 0, none⟩), .pointer (some ⟨b4, 0, none⟩), vd, .pointer (some ⟨b6, 0, none⟩), u7, u8, .pointer (some ⟨b9, 0, none⟩), .pointer (some ⟨b10, 0, none⟩), u11, .pointer (some ⟨b12, 0, none⟩), u13, u14, u15, u16, u17, u18, u19, u20, u21, u22, u23, u24, u25, u26, u27, u28, u29, u30, u31, u32, u33, u34, u35, u36, u37, u38, u39, u40, u41, u42, u43, u44, u45, u46, u47, u48, u49, u50, u51, u52, u53, u54, u55, u56, u57, u58, u59, u60, u61, u62, u63, u64, u65, u66, u67, u68, u69, u70, u71, u72, u73, u74, u75, u76, u77, u78, u79, u80, u81, u82, u83, u84, u85, u86, u87, u88, u89, u90, u91, u92, u93, u94, u95, u96, u97, u98, u99, u100, u101, u102, u103, u104, u105, u106, u107, u108, u109, u110, u111, u112, u113, u114, u115, u116, u117, u118, u119, u120, u121, u122, u123, u124, u125, u126, u127, u128, u129, u130, u131, u132, u133, u134, u135, u136, u137, u138, u139, u140, u141, u142, u143, u144, u145, u146, u147, u148, u149, u150, u151, u152, u153, u154, u155, u156, u157, u158, u159, u160, u161, u162, u163, u164, u165, u166, u167, u168, u169, u170, u171, u172, u173, u174, u175, u176, u177, u178, u179, u180, u181], []⟩ wx := by
  conv => arg 2; whnf
  have HQ := Lib.hid hQ
  clear hQ
  have HI := Lib.hid (And.intro hI hb)
  obtain ⟨c0, c1, c2, c3, c4, c5, c6, c7, c8, c9, c10, c11⟩ := req_cells hI.req
  have d0 : wx.cell? ⟨b12, 0, none⟩ = some (.int .i64 er) := by rw [hb.cell]; exact ha
  have HT := Lib.hid ht
  clear ht ha hb
  refine wp_seq_k fun K0 hK => ?_
  have HK0 := Lib.hid hK
  clear hK
  by_cases h1 : er = 0
  · by_cases h10 : r.deed = 10
    · skip
      obtain ⟨n, hn, hn3⟩ := HT.out h1 (.inl h10)
      have HN : Hid (er = 0 ∧ (r.deed = 10 ∨ r.deed = 8)) := Lib.hid ⟨h1, (.inl h10)⟩
      rw [hn] at c8
      have hz : (er == 0) = true := by rw [h1]; rfl
      have h10' : (r.deed == 10) = true := by rw [h10]; rfl
      have hq1 : (0 : Int) ≤ (n : Int) := by omega
      have hq2 : (n : Int) < 3 := by omega
      obtain ⟨A, c, hv, -, -, -⟩ := own_form (hI.at_.rows n hn3)
      obtain ⟨Ad, cd, hvd, -, -, -⟩ := own_form hI.at_.row_d
      have hrd : Reads wx wx.heap.size 3 A (S.o n).length ((S.o n).flatMap hdR) := Reads.of_own (by have := hI.at_.rows n hn3; rw [hv] at this; exact this)
      have g0 : wx.cell? ⟨b4, n, none⟩ = some (.slice A (S.o n).length c) := by rw [hI.at_.old.cell, three_at hn3, hv]
      have HNN := Lib.hid hn
      have HRD := Lib.hid hrd
      have hlo := hol n
      have hld := hdl
      obtain ⟨i0, hi, hz0, hz1, hz2⟩ := info_parts infoHd
      clear hI h1 h10 hn hrd hv hol hdl
      subst hvd
      go_wp2_with (at_builtin; refine wpList_append_any _ rfl (.tmp 104) (.tmp 108) 25 rfl w0.heap.size 37 i0 (.agg #[.int .i64 0, .int .u32 0, .int .u8 0]) 3 16 Tryz.underlying25 hi hz0 hz1 hz2 rfl (by decide) (.slice Ad S.d.length cd) S.d.length (S.d.flatMap hdR) rfl HI.out.1.at_.row_d wx.heap.size A (S.o n).length c ((S.o n).flatMap hdR) rfl HRD.out (flat_one hdR_one _) (by unfold maxLen; omega) (by omega) HI.out.1.at_.bel.size ?_; intro u w1 hown1 hgrow1 hat1; have HA := Lib.hid (And.intro hown1 (And.intro hgrow1 hat1)); clear hown1 hgrow1 hat1)
      refine HK0.out _ _ ?_
      have hown2 : w1.ownsRow w0.heap.size 37 3 u (S.d.length + (S.o n).length) ((S.d ++ S.o n).flatMap hdR) := by rw [List.flatMap_append]; exact HA.out.1
      have hT := HI.out.1.app_d (HI.out.1.at_.app_d hown2 HA.out.2.1 HA.out.2.2) HA.out.2.1
      refine HQ.out _ _ _ _ _ _ _ _ _ _ _ _ _ _ _ _ _ _ _ u _ ?_ (hT.2 HI.out.2 (by decide))
      have hZ : ({ S with d := if er = 0 ∧ (r.deed = 10 ∨ r.deed = 8) then S.d ++ S.o r.tenant.toNat else S.d } : Tn) = ({ S with d := S.d ++ S.o n } : Tn) := by rw [if_pos HN.out, HNN.out, Int.toNat_natCast]
      rw [hZ]
      exact hT.1
    · by_cases h8 : r.deed = 8
      · skip
        obtain ⟨n, hn, hn3⟩ := HT.out h1 (.inr h8)
        have HN : Hid (er = 0 ∧ (r.deed = 10 ∨ r.deed = 8)) := Lib.hid ⟨h1, (.inr h8)⟩
        rw [hn] at c8
        have hz : (er == 0) = true := by rw [h1]; rfl
        have h10' : (r.deed == 10) = false := by simpa using h10
        have h8' : (r.deed == 8) = true := by rw [h8]; rfl
        have hq1 : (0 : Int) ≤ (n : Int) := by omega
        have hq2 : (n : Int) < 3 := by omega
        obtain ⟨A, c, hv, -, -, -⟩ := own_form (hI.at_.rows n hn3)
        obtain ⟨Ad, cd, hvd, -, -, -⟩ := own_form hI.at_.row_d
        have hrd : Reads wx wx.heap.size 3 A (S.o n).length ((S.o n).flatMap hdR) := Reads.of_own (by have := hI.at_.rows n hn3; rw [hv] at this; exact this)
        have g0 : wx.cell? ⟨b4, n, none⟩ = some (.slice A (S.o n).length c) := by rw [hI.at_.old.cell, three_at hn3, hv]
        have HNN := Lib.hid hn
        have HRD := Lib.hid hrd
        have hlo := hol n
        have hld := hdl
        obtain ⟨i0, hi, hz0, hz1, hz2⟩ := info_parts infoHd
        clear hI h1 h10 h8 hn hrd hv hol hdl
        subst hvd
        go_wp2_with (at_builtin; refine wpList_append_any _ rfl (.tmp 104) (.tmp 108) 25 rfl w0.heap.size 37 i0 (.agg #[.int .i64 0, .int .u32 0, .int .u8 0]) 3 16 Tryz.underlying25 hi hz0 hz1 hz2 rfl (by decide) (.slice Ad S.d.length cd) S.d.length (S.d.flatMap hdR) rfl HI.out.1.at_.row_d wx.heap.size A (S.o n).length c ((S.o n).flatMap hdR) rfl HRD.out (flat_one hdR_one _) (by unfold maxLen; omega) (by omega) HI.out.1.at_.bel.size ?_; intro u w1 hown1 hgrow1 hat1; have HA := Lib.hid (And.intro hown1 (And.intro hgrow1 hat1)); clear hown1 hgrow1 hat1)
        refine HK0.out _ _ ?_
        have hown2 : w1.ownsRow w0.heap.size 37 3 u (S.d.length + (S.o n).length) ((S.d ++ S.o n).flatMap hdR) := by rw [List.flatMap_append]; exact HA.out.1
        have hT := HI.out.1.app_d (HI.out.1.at_.app_d hown2 HA.out.2.1 HA.out.2.2) HA.out.2.1
        refine HQ.out _ _ _ _ _ _ _ _ _ _ _ _ _ _ _ _ _ _ _ u _ ?_ (hT.2 HI.out.2 (by decide))
        have hZ : ({ S with d := if er = 0 ∧ (r.deed = 10 ∨ r.deed = 8) then S.d ++ S.o r.tenant.toNat else S.d } : Tn) = ({ S with d := S.d ++ S.o n } : Tn) := by rw [if_pos HN.out, HNN.out, Int.toNat_natCast]
        rw [hZ]
        exact hT.1
      · have HN := Lib.hid (fun e : er = 0 ∧ (r.deed = 10 ∨ r.deed = 8) => e.2.elim h10 h8)
        have hz : (er == 0) = true := by rw [h1]; rfl
        have h10' : (r.deed == 10) = false := by simpa using h10
        have h8' : (r.deed == 8) = false := by simpa using h8
        clear h1 h10 h8 hI
        go_wp2
        refine HK0.out _ _ ?_
        have hZ : ({ S with d := if er = 0 ∧ (r.deed = 10 ∨ r.deed = 8) then S.d ++ S.o r.tenant.toNat else S.d } : Tn) = S := by rw [if_neg HN.out]
        refine HQ.out _ _ _ _ _ _ _ _ _ _ _ _ _ _ _ _ _ _ _ vd _ ?_ HI.out.2
        rw [hZ]
        exact HI.out.1
  · have HN := Lib.hid (fun e : er = 0 ∧ (r.deed = 10 ∨ r.deed = 8) => h1 e.1)
    have hz : (er == 0) = false := by simpa using h1
    clear h1 hI
    go_wp2
    refine HK0.out _ _ ?_
    have hZ : ({ S with d := if er = 0 ∧ (r.deed = 10 ∨ r.deed = 8) then S.d ++ S.o r.tenant.toNat else S.d } : Tn) = S := by rw [if_neg HN.out]
    refine HQ.out _ _ _ _ _ _ _ _ _ _ _ _ _ _ _ _ _ _ _ vd _ ?_ HI.out.2
    rw [hZ]
    exact HI.out.1
end Go.Proofs.YtkgflepgkhnclaaGreatDoor
namespace Go.Proofs.YtkgflepgkhnclaaGreatDoor
open Go.RowKit Go.Shelf
set_option linter.unusedVariables false
set_option linter.unusedSimpArgs false

set_option maxHeartbeats 6400000 in
set_option maxRecDepth 100000 in
theorem tn_good {w0 wx : World} (p b4 b6 b9 b10 b12 c1' c2' : Nat) (A1 A2 : Option Addr) (S : Tn) (T : Ows) (v : Nat → Value) (vd ve : Value) (es : List Ent) (r : Req) (l1 l2 : List Kv) (acs : Array Value) {u0 u1 u2 u7 u8 u11 u13 u14 u15 u16 u17 u18 u19 u20 u21 u22 u23 u24 u25 u26 u27 u28 u29 u30 u31 u32 u33 u34 u35 u36 u37 u38 u39 u40 u41 u42 u43 u44 u45 u46 u47 u48 u49 u50 u51 u52 u53 u54 u55 u56 u57 u58 u59 u60 u61 u62 u63 u64 u65 u66 u67 u68 u69 u70 u71 u72 u73 u74 u75 u76 u77 u78 u79 u80 u81 u82 u83 u84 u85 u86 u87 u88 u89 u90 u91 u92 u93 u94 u95 u96 u97 u98 u99 u100 u101 u102 u103 u104 u105 u106 u107 u108 u109 u110 u111 u112 u113 u114 u115 u116 u117 u118 u119 u120 u121 u122 u123 u124 u125 u126 u127 u128 u129 u130 u131 u132 u133 u134 u135 u136 u137 u138 u139 u140 u141 u142 u143 u144 u145 u146 u147 u148 u149 u150 u151 u152 u153 u154 u155 u156 u157 u158 u159 u160 u161 u162 u163 u164 u165 u166 u167 u168 u169 u170 u171 u172 u173 u174 u175 u176 u177 u178 u179 u180 u181 : Value} {Q : Exit → Act → World → Prop} (hI : TnIn w0 wx p b4 b6 b9 b10 S T v vd ve es r l1 l2 A1 A2 c1' c2') (hb : Blk wx b12 52 acs) (hdl : S.d.length ≤ 1000000) (hany : S.d.any (goodN S.M) = false)
    (hQ : ∀ (s110 s111 s112 s113 : Value) (W' : World), TnIn w0 W' p b4 b6 b9 b10 S T v vd ve es r l1 l2 A1 A2 c1' c2' → Blk W' b12 52 acs → Code.wp Tryz.prog (part Tryz.f3 [1, 1, 1, 1, 1, 0, 1, 2, 2, 1, 1, 0, 2, 1, 1, 1, 1, 1, 1, 1, 1, 1, 1]) Q ⟨#[u0, u1, u2, .pointer (some ⟨p, 0, none⟩), .pointer (some ⟨b4, 0, none⟩), vd, .pointer (some ⟨b6, 0, none⟩), u7, u8, .pointer (some ⟨b9, 0, none⟩), .pointer (some ⟨b10, 0, none⟩), u11, .pointer (some ⟨b12, 0, none⟩), u13, u14, u15, u16, u17, u18, u19, u20, u21, u22, u23, u24, u25, u26, u27, u28, u29, u30, u31, u32, u33, u34, u35, u36, u37, u38, u39, u40, u41, u42, u43, u44, u45, u46, u47, u48, u49, u50, u51, u52, u53, u54, u55, u56, u57, u58, u59, u60, u61, u62, u63, u64, u65, u66, u67, u68, u69, u70, u71, u72, u73, u74, u75, u76, u77, u78, u79, u80, u81, u82, u83, u84, u85, u86, u87, u88, u89, u90, u91, u92, u93, u94, u95, u96, u97, u98, u99, u100, u101, u102, u103, u104, u105, u106, u107, u108, u109, s110, s111, s112, s113, u114, u115, u116, u117, u118, u119, u120, u121, u122, u123, u124, u125, u126, u127, u128, u129, u130, u131, u132, u133, u134, u135, u136, u137, u138, u139, u140, u141, u142, u143, u144, u145, u146, u147, u148, u149, u150, u151, u152, u153, u154, u155, u156, u157, u158, u159, u160, u161, u162, u163, u164, u165, u166, u167, u168, u169, u170, u171, u172, u173, u174, u175, u176, u177, u178, u179, u180, u181], []⟩ W') :
    Code.wp Tryz.prog (part Tryz.f3 [1, 1, 1, 1, 1, 0, 1, 2, 2, 1, 1, 0, 2, 1, 1, 1, 1, 1, 1, 1, 1, 1]) Q ⟨#[u0, u1, u2, .pointer (some ⟨p, 0, none⟩), .pointer (some ⟨b4, 0, none⟩), vd, .pointer (some ⟨b6, 0, none⟩), u7, u8, .pointer (some ⟨b9, 0, none⟩), .pointer (some ⟨b10, 0, none⟩), u11, .pointer (some ⟨b12, 0, none⟩), u13, u14, u15, u16, u17, u18, u19, u20, u21, u22, u23, u24, u25, u26, u27, u28, u29, u30, u31, u32, u33, u34, u35, u36, u37, u38, u39, u40, u41, u42, u43, u44, u45, u46, u47, u48, u49, u50, u51, u52, u53, u54, u55, u56, u57, u58, u59, u60, u61, u62, u63, u64, u65, u66, u67, u68, u69, u70, u71, u72, u73, u74, u75, u76, u77, u78, u79, u80, u81, u82, u83, u84, u85, u86, u87, u88, u89, u90, u91, u92, u93, u94, u95, u96, u97, u98, u99, u100, u101, u102, u103, u104, u105, u106, u107, u108, u109, u110, u111, u112, u113, u114, u115, u116, u117, u118, u119, u120, u121, u122, u123, u124, u125, u126, u127, u128, u129, u130, u131, u132, u133, u134, u135, u136, u137, u138, u139, u140, u141, u142, u143, u144, u145, u146, u147, u148, u149, u150, u151, u152, u153, u154, u155, u156, u157, u158, u159, u160, u161, u162, u163, u164, u165, u166, u167, u168, u169, u170, u171, u172, u173, u174, u175, u176, u177, u178, u179, u180, u181], []⟩ wx := by
  conv => arg 2; whnf
  have HQ := Lib.hid hQ
  clear hQ
  have HI := Lib.hid (And.intro hI hb)
  obtain ⟨Ad, cd, hvd, -, -, -⟩ := own_form hI.at_.row_d
  have hrow := hI.at_.row_d
  subst hvd
  have HC := Lib.hid (containsGood hI.at_.mdl Ad cd S.d wx.heap.size hdl (Nat.le_refl _) (Reads.of_own hrow))
  rw [hany] at HC
  clear hI hb hany hdl hrow
  refine wp_seq_k fun K0 hK => ?_
  have HK0 := Lib.hid hK
  clear hK
  go_wp2_with (go_at_call 12; refine HC.out.mono ?_; rintro e w2 ⟨rfl, hb2⟩; have HB2 := Lib.hid hb2; clear hb2)
  refine HK0.out _ _ ?_
  exact HQ.out _ _ _ _ _ (HI.out.1.below HB2.out) (HI.out.2.below HB2.out HI.out.2.lt)
end Go.Proofs.YtkgflepgkhnclaaGreatDoor
namespace Go.Proofs.YtkgflepgkhnclaaGreatDoor
open Go.RowKit Go.Shelf
set_option linter.unusedVariables false
set_option linter.unusedSimpArgs false

set_option maxHeartbeats 6400000 in
set_option maxRecDepth 100000 in
theorem tn_cmp {wx : World} (b9 b10 b12 t c ct : Nat) (A At : Option Addr) (r : Req) (l lt : List Kv) (er : Int) (acs : Array Value) {u0 u1 u2 u3 u4 u5 u6 u7 u8 u11 u15 u16 u17 u18 u19 u20 u21 u22 u23 u24 u25 u26 u27 u28 u29 u30 u31 u32 u33 u34 u35 u36 u37 u38 u39 u40 u41 u42 u43 u44 u45 u46 u47 u48 u49 u50 u51 u52 u53 u54 u55 u56 u57 u58 u59 u60 u61 u62 u63 u64 u65 u66 u67 u68 u69 u70 u71 u72 u73 u74 u75 u76 u77 u78 u79 u80 u81 u82 u83 u84 u85 u86 u87 u88 u89 u90 u91 u92 u93 u94 u95 u96 u97 u98 u99 u100 u101 u102 u103 u104 u105 u106 u107 u108 u109 u110 u111 u112 u113 u114 u115 u116 u117 u118 u119 u120 u121 u122 u123 u124 u125 u126 u127 u128 u129 u130 u131 u132 u133 u134 u135 u136 u137 u138 u139 u140 u141 u142 u143 u144 u145 u146 u147 u148 u149 u150 u151 u152 u153 u154 u155 u156 u157 u158 u159 u160 u161 u162 u163 u164 u165 u166 u167 u168 u169 u170 u171 u172 u173 u174 u175 u176 u177 u178 u179 u180 u181 : Value} {Q : Exit → Act → World → Prop} (hreq : Blk wx b9 39 r.row.toArray) (hb : Blk wx b12 52 acs) (ha : acs[0]? = some (.int .i64 er)) (ht : t < 3) (hp : wx.cell? ⟨b10, t, none⟩ = some (.slice At lt.length ct)) (hrt : Reads wx wx.heap.size 2 At lt.length (lt.flatMap pairR)) (hr : Reads wx wx.heap.size 2 A l.length (l.flatMap pairR)) (hlt : lt.length ≤ 1000000) (hl : l.length ≤ 1000000) (hs : er ≠ 0 ∨ r.deed = 1 ∨ r.deed = 5 ∨ r.deed = 6 → lt = l)
    (hQ : ∀ (s15 s17 s118 s119 s120 s121 s122 s123 s124 s125 s126 s127 s128 s129 s130 s131 s132 s133 s134 s135 s136 s137 s138 s139 s140 s141 s142 s143 s144 s145 s146 s147 s148 s149 s150 s151 s152 s153 s154 s155 s156 s157 s158 s159 s160 s161 s162 s163 s164 s165 s166 s167 s168 s169 s170 s171 s172 s173 s174 s175 s176 s177 s178 s179 : Value) (W' : World) (nn : Nat), W' = wx.drewN nn → Code.wp Tryz.prog (part Tryz.f3 [1, 1, 1, 1, 1, 0, 1, 2, 2, 1, 1, 0, 2, 1, 1, 1, 1, 1, 1, 1, 1, 1, 1, 1, 2, 2, 1, 0, 2, 1, 1]) Q ⟨#[u0, u1, u2, u3, u4, u5, u6, u7, u8, .pointer (some ⟨b9, 0, none⟩), .pointer (some ⟨b10, 0, none⟩), u11, .pointer (some ⟨b12, 0, none⟩), .int .i64 (t : Nat), .slice A l.length c, s15, u16, s17, u18, u19, u20, u21, u22, u23, u24, u25, u26, u27, u28, u29, u30, u31, u32, u33, u34, u35, u36, u37, u38, u39, u40, u41, u42, u43, u44, u45, u46, u47, u48, u49, u50, u51, u52, u53, u54, u55, u56, u57, u58, u59, u60, u61, u62, u63, u64, u65, u66, u67, u68, u69, u70, u71, u72, u73, u74, u75, u76, u77, u78, u79, u80, u81, u82, u83, u84, u85, u86, u87, u88, u89, u90, u91, u92, u93, u94, u95, u96, u97, u98, u99, u100, u101, u102, u103, u104, u105, u106, u107, u108, u109, u110, u111, u112, u113, u114, u115, u116, u117, s118, s119, s120, s121, s122, s123, s124, s125, s126, s127, s128, s129, s130, s131, s132, s133, s134, s135, s136, s137, s138, s139, s140, s141, s142, s143, s144, s145, s146, s147, s148, s149, s150, s151, s152, s153, s154, s155, s156, s157, s158, s159, s160, s161, s162, s163, s164, s165, s166, s167, s168, s169, s170, s171, s172, s173, s174, s175, s176, s177, s178, s179, u180, u181], []⟩ W') :
    Code.wp Tryz.prog (part Tryz.f3 [1, 1, 1, 1, 1, 0, 1, 2, 2, 1, 1, 0, 2, 1, 1, 1, 1, 1, 1, 1, 1, 1, 1, 1, 2, 2, 1, 0, 2, 1]) Q ⟨#[u0, u1, u2, u3, u4, u5, u6, u7, u8, .pointer (some ⟨b9, 0, none⟩), .pointer (some ⟨b10, 0, none⟩), u11, .pointer (some ⟨b12, 0, none⟩), .int .i64 (t : Nat), .slice A l.length c, u15, u16, u17, u18, u19, u20, u21, u22, u23, u24, u25, u26, u27, u28, u29, u30, u31, u32, u33, u34, u35, u36, u37, u38, u39, u40, u41, u42, u43, u44, u45, u46, u47, u48, u49, u50, u51, u52, u53, u54, u55, u56, u57, u58, u59, u60, u61, u62, u63, u64, u65, u66, u67, u68, u69, u70, u71, u72, u73, u74, u75, u76, u77, u78, u79, u80, u81, u82, u83, u84, u85, u86, u87, u88, u89, u90, u91, u92, u93, u94, u95, u96, u97, u98, u99, u100, u101, u102, u103, u104, u105, u106, u107, u108, u109, u110, u111, u112, u113, u114, u115, u116, u117, u118, u119, u120, u121, u122, u123, u124, u125, u126, u127, u128, u129, u130, u131, u132, u133, u134, u135, u136, u137, u138, u139, u140, u141, u142, u143, u144, u145, u146, u147, u148, u149, u150, u151, u152, u153, u154, u155, u156, u157, u158, u159, u160, u161, u162, u163, u164, u165, u166, u167, u168, u169, u170, u171, u172, u173, u174, u175, u176, u177, u178, u179, u180, u181], []⟩ wx := by
  conv => arg 2; whnf
  have HQ := Lib.hid hQ
  clear hQ
  obtain ⟨c0, c1, c2, c3, c4, c5, c6, c7, c8, c9, c10, c11⟩ := req_cells hreq
  have d0 : wx.cell? ⟨b12, 0, none⟩ = some (.int .i64 er) := by rw [hb.cell]; exact ha
  have hq1 : (0 : Int) ≤ (t : Int) := by omega
  have hq2 : (t : Int) < 3 := by omega
  have hS : Hid (er ≠ 0 ∨ r.deed = 1 ∨ r.deed = 5 ∨ r.deed = 6 → lt = l) := Lib.hid hs
  have hc := pairs_eq At A ct c lt l wx.heap.size wx.heap.size wx hlt hl hrt hr
  have HCC := Lib.hid hc
  clear hreq hb ha hs hc hrt hr
  refine wp_seq_k fun K0 hK => ?_
  have HK0 := Lib.hid hK
  clear hK
  by_cases h0 : er = 0
  · have hz : (er != 0) = false := by rw [h0]; rfl
    by_cases h1 : r.deed = 1
    · have HC : Hid (Calls Tryz.prog 13 #[.slice At lt.length ct, .slice A l.length c] wx (SameEnd true wx)) := Lib.hid (by have := HCC.out; rwa [decide_eq_true (hS.out (.inr (.inl h1)))] at this)
      have g1 : (r.deed == 1) = true := by rw [h1]; rfl
      clear h0 h1 hS HCC
      go_wp2_with (go_at_call 13; refine HC.out.mono ?_; rintro e w2 ⟨rfl, nn, rfl⟩)
      refine HK0.out _ _ ?_
      exact HQ.out _ _ _ _ _ _ _ _ _ _ _ _ _ _ _ _ _ _ _ _ _ _ _ _ _ _ _ _ _ _ _ _ _ _ _ _ _ _ _ _ _ _ _ _ _ _ _ _ _ _ _ _ _ _ _ _ _ _ _ _ _ _ _ _ _ nn rfl
    · have g1 : (r.deed == 1) = false := by simpa using h1
      by_cases h5 : r.deed = 5
      · have HC : Hid (Calls Tryz.prog 13 #[.slice At lt.length ct, .slice A l.length c] wx (SameEnd true wx)) := Lib.hid (by have := HCC.out; rwa [decide_eq_true (hS.out (.inr (.inr (.inl h5))))] at this)
        have g5 : (r.deed == 5) = true := by rw [h5]; rfl
        clear h0 h1 h5 hS HCC
        go_wp2_with (go_at_call 13; refine HC.out.mono ?_; rintro e w2 ⟨rfl, nn, rfl⟩)
        refine HK0.out _ _ ?_
        exact HQ.out _ _ _ _ _ _ _ _ _ _ _ _ _ _ _ _ _ _ _ _ _ _ _ _ _ _ _ _ _ _ _ _ _ _ _ _ _ _ _ _ _ _ _ _ _ _ _ _ _ _ _ _ _ _ _ _ _ _ _ _ _ _ _ _ _ nn rfl
      · have g5 : (r.deed == 5) = false := by simpa using h5
        by_cases h6 : r.deed = 6
        · have HC : Hid (Calls Tryz.prog 13 #[.slice At lt.length ct, .slice A l.length c] wx (SameEnd true wx)) := Lib.hid (by have := HCC.out; rwa [decide_eq_true (hS.out (.inr (.inr (.inr h6))))] at this)
          have g6 : (r.deed == 6) = true := by rw [h6]; rfl
          clear h0 h1 h5 h6 hS HCC
          go_wp2_with (go_at_call 13; refine HC.out.mono ?_; rintro e w2 ⟨rfl, nn, rfl⟩)
          refine HK0.out _ _ ?_
          exact HQ.out _ _ _ _ _ _ _ _ _ _ _ _ _ _ _ _ _ _ _ _ _ _ _ _ _ _ _ _ _ _ _ _ _ _ _ _ _ _ _ _ _ _ _ _ _ _ _ _ _ _ _ _ _ _ _ _ _ _ _ _ _ _ _ _ _ nn rfl
        · have g6 : (r.deed == 6) = false := by simpa using h6
          clear h0 h1 h5 h6 hS HCC
          go_wp2_with fail
          refine HK0.out _ _ ?_
          exact HQ.out _ _ _ _ _ _ _ _ _ _ _ _ _ _ _ _ _ _ _ _ _ _ _ _ _ _ _ _ _ _ _ _ _ _ _ _ _ _ _ _ _ _ _ _ _ _ _ _ _ _ _ _ _ _ _ _ _ _ _ _ _ _ _ _ _ 0 rfl
  · have hz : (er != 0) = true := by simpa using h0
    have HC : Hid (Calls Tryz.prog 13 #[.slice At lt.length ct, .slice A l.length c] wx (SameEnd true wx)) := Lib.hid (by have := HCC.out; rwa [decide_eq_true (hS.out (.inl h0))] at this)
    clear h0 hS HCC
    go_wp2_with (go_at_call 13; refine HC.out.mono ?_; rintro e w2 ⟨rfl, nn, rfl⟩)
    refine HK0.out _ _ ?_
    exact HQ.out _ _ _ _ _ _ _ _ _ _ _ _ _ _ _ _ _ _ _ _ _ _ _ _ _ _ _ _ _ _ _ _ _ _ _ _ _ _ _ _ _ _ _ _ _ _ _ _ _ _ _ _ _ _ _ _ _ _ _ _ _ _ _ _ _ nn rfl
end Go.Proofs.YtkgflepgkhnclaaGreatDoor
namespace Go.Proofs.YtkgflepgkhnclaaGreatDoor
open Go.RowKit Go.Shelf
set_option linter.unusedVariables false
set_option linter.unusedSimpArgs false

theorem sizeL_take {l : List Kv} {k : Nat} (hk : k < l.length) : sizeL (l.take (k + 1)) = sizeL (l.take k) + (l[k].1.size + l[k].2.size) := by
  rw [List.take_succ_eq_append_getElem hk]
  unfold sizeL
  rw [List.map_append, List.sum_append]
  simp only [List.map_cons, List.map_nil, List.sum_cons, List.sum_nil, sizeP]
  omega
theorem sizeL_take_le : ∀ (l : List Kv) (k : Nat), sizeL (l.take k) ≤ sizeL l
  | [], k => by simp [sizeL]
  | x :: l, 0 => by simp [sizeL]
  | x :: l, k + 1 => by
    have := sizeL_take_le l k
    unfold sizeL at *
    simp only [List.take_succ_cons, List.map_cons, List.sum_cons]
    omega
set_option maxHeartbeats 6400000 in
set_option maxRecDepth 100000 in
theorem tn_sum {wx : World} (b6 t c : Nat) (A : Option Addr) (l : List Kv) (lk lb : Nat → Int) {u0 u1 u2 u3 u4 u5 u7 u8 u9 u10 u11 u12 u15 u16 u17 u18 u19 u20 u21 u22 u23 u24 u25 u26 u27 u28 u29 u30 u31 u32 u33 u34 u35 u36 u37 u38 u39 u40 u41 u42 u43 u44 u45 u46 u47 u48 u49 u50 u51 u52 u53 u54 u55 u56 u57 u58 u59 u60 u61 u62 u63 u64 u65 u66 u67 u68 u69 u70 u71 u72 u73 u74 u75 u76 u77 u78 u79 u80 u81 u82 u83 u84 u85 u86 u87 u88 u89 u90 u91 u92 u93 u94 u95 u96 u97 u98 u99 u100 u101 u102 u103 u104 u105 u106 u107 u108 u109 u110 u111 u112 u113 u114 u115 u116 u117 u118 u119 u120 u121 u122 u123 u124 u125 u126 u127 u128 u129 u130 u131 u132 u133 u134 u135 u136 u137 u138 u139 u140 u141 u142 u143 u144 u145 u146 u147 u148 u149 u150 u151 u152 u153 u154 u155 u156 u157 u158 u159 u160 u161 u162 u163 u164 u165 u166 u167 u168 u169 u170 u171 u172 u173 u174 u175 u176 u177 u178 u179 u180 u181 : Value} {Q : Exit → Act → World → Prop} (ht : t < 3) (hr : Reads wx wx.heap.size 2 A l.length (l.flatMap pairR)) (hlim : Blk wx b6 30 #[.int .u64 (lk 0), .int .u64 (lb 0), .int .u64 (lk 1), .int .u64 (lb 1), .int .u64 (lk 2), .int .u64 (lb 2)]) (hl : (l.length : Int) ≤ lk t ∧ l.length ≤ 9) (hsz : (sizeL l : Int) ≤ lb t ∧ sizeL l ≤ 90)
    (hQ : ∀ (s15 s17 s118 s119 s120 s121 s122 s123 s124 s125 s126 s127 s128 s129 s130 s131 s132 s133 s134 s135 s136 s137 s138 s139 s140 s141 s142 s143 s144 s145 s146 s147 s148 s149 s150 s151 s152 s153 s154 s155 s156 s157 s158 s159 s160 s161 s162 s163 s164 s165 s166 s167 s168 s169 s170 s171 s172 s173 s174 s175 s176 s177 s178 s179 : Value) (W' : World), Below wx.heap.size wx W' → Q .normal ⟨#[u0, u1, u2, u3, u4, u5, .pointer (some ⟨b6, 0, none⟩), u7, u8, u9, u10, u11, u12, .int .i64 (t : Nat), .slice A l.length c, s15, u16, s17, u18, u19, u20, u21, u22, u23, u24, u25, u26, u27, u28, u29, u30, u31, u32, u33, u34, u35, u36, u37, u38, u39, u40, u41, u42, u43, u44, u45, u46, u47, u48, u49, u50, u51, u52, u53, u54, u55, u56, u57, u58, u59, u60, u61, u62, u63, u64, u65, u66, u67, u68, u69, u70, u71, u72, u73, u74, u75, u76, u77, u78, u79, u80, u81, u82, u83, u84, u85, u86, u87, u88, u89, u90, u91, u92, u93, u94, u95, u96, u97, u98, u99, u100, u101, u102, u103, u104, u105, u106, u107, u108, u109, u110, u111, u112, u113, u114, u115, u116, u117, s118, s119, s120, s121, s122, s123, s124, s125, s126, s127, s128, s129, s130, s131, s132, s133, s134, s135, s136, s137, s138, s139, s140, s141, s142, s143, s144, s145, s146, s147, s148, s149, s150, s151, s152, s153, s154, s155, s156, s157, s158, s159, s160, s161, s162, s163, s164, s165, s166, s167, s168, s169, s170, s171, s172, s173, s174, s175, s176, s177, s178, s179, u180, u181], []⟩ W') :
    Code.wp Tryz.prog (part Tryz.f3 [1, 1, 1, 1, 1, 0, 1, 2, 2, 1, 1, 0, 2, 1, 1, 1, 1, 1, 1, 1, 1, 1, 1, 1, 2, 2, 1, 0, 2, 1, 1]) Q ⟨#[u0, u1, u2, u3, u4, u5, .pointer (some ⟨b6, 0, none⟩), u7, u8, u9, u10, u11, u12, .int .i64 (t : Nat), .slice A l.length c, u15, u16, u17, u18, u19, u20, u21, u22, u23, u24, u25, u26, u27, u28, u29, u30, u31, u32, u33, u34, u35, u36, u37, u38, u39, u40, u41, u42, u43, u44, u45, u46, u47, u48, u49, u50, u51, u52, u53, u54, u55, u56, u57, u58, u59, u60, u61, u62, u63, u64, u65, u66, u67, u68, u69, u70, u71, u72, u73, u74, u75, u76, u77, u78, u79, u80, u81, u82, u83, u84, u85, u86, u87, u88, u89, u90, u91, u92, u93, u94, u95, u96, u97, u98, u99, u100, u101, u102, u103, u104, u105, u106, u107, u108, u109, u110, u111, u112, u113, u114, u115, u116, u117, u118, u119, u120, u121, u122, u123, u124, u125, u126, u127, u128, u129, u130, u131, u132, u133, u134, u135, u136, u137, u138, u139, u140, u141, u142, u143, u144, u145, u146, u147, u148, u149, u150, u151, u152, u153, u154, u155, u156, u157, u158, u159, u160, u161, u162, u163, u164, u165, u166, u167, u168, u169, u170, u171, u172, u173, u174, u175, u176, u177, u178, u179, u180, u181], []⟩ wx := by
  conv => arg 2; whnf
  have HQ := Lib.hid hQ
  clear hQ
  have HI := Lib.hid (And.intro hr (And.intro hlim (And.intro hl hsz)))
  have hl9 := hl.2
  have hs90 := hsz.2
  have hq1 : (0 : Int) ≤ (t : Int) := by omega
  have hq2 : (t : Int) < 3 := by omega
  have ht' := ht
  have HX := Lib.hid (And.intro hl.1 hsz.1)
  clear hr hlim hl hsz
  go_wp2_with fail
  go_loopw [15, 149] (fun s i wr => ∃ k : Nat, k ≤ l.length ∧ i = .int .i64 (k : Nat) ∧ s = .int .i64 (sizeL (l.take k) : Nat) ∧ Hid (Below wx.heap.size wx wr)) (fun _ i _ => l.length - (intOf i).toNat)
  case atStart => exact ⟨0, by omega, rfl, by simp [sizeL], Lib.hid (Below.refl _ _)⟩
  case round =>
    obtain ⟨k, hk, rfl, rfl, hw⟩ := hrel
    by_cases hlt : k < l.length
    · obtain ⟨ad, rfl, hab, hc⟩ := row_cells pairR_one (HI.out.1.below hw.out) rfl hlt
      have hst := sizeL_take hlt
      have hsl := sizeL_take_le l (k + 1)
      generalize l[k] = x at hc hst
      have q0 : wr.cell? (ad.add (k * 2)) = some (.string x.1) := by have := hc 0 _ rfl; rwa [add_of_add] at this
      have q1 : wr.cell? ⟨(ad.add (k * 2)).block, (ad.add (k * 2)).off + 1, none⟩ = some (.string x.2) := hc 1 _ rfl
      have i1 : (0 : Int) ≤ (k : Int) := by omega
      have i2 : (k : Int) < (l.length : Int) := by omega
      have b1 : (sizeL (l.take k) : Int) + ((x.1.size : Int) + (x.2.size : Int)) ≤ 90 := by omega
      have HST := Lib.hid hst
      clear hc hst hsl
      go_wp2_with fail
      go_roundw
      case rel =>
        refine ⟨k + 1, by omega, by go_num, ?_, Lib.hid (hw.out.alloc hw.out.size _)⟩
        rw [HST.out]
        go_num
      case measure => simp [intOf]; omega
    · obtain rfl : k = l.length := by omega
      have hlm := HI.out.2.1.below hw.out HI.out.2.1.lt
      have g0 : wr.cell? ⟨b6, t * 2, none⟩ = some (.int .u64 (lk t)) := by rw [hlm.cell]; exact (six_at ht lk lb).1
      have g1 : wr.cell? ⟨b6, t * 2 + 1, none⟩ = some (.int .u64 (lb t)) := by rw [hlm.cell]; exact (six_at ht lk lb).2
      have hg1 : ¬ (lk t < (l.length : Int)) := by have := HX.out.1; omega
      have hg2 : ¬ (lb t < (sizeL l : Int)) := by have := HX.out.2; omega
      rw [List.take_length]
      clear hlm
      go_wp2_with fail
      exact HQ.out _ _ _ _ _ _ _ _ _ _ _ _ _ _ _ _ _ _ _ _ _ _ _ _ _ _ _ _ _ _ _ _ _ _ _ _ _ _ _ _ _ _ _ _ _ _ _ _ _ _ _ _ _ _ _ _ _ _ _ _ _ _ _ _ _ hw.out
end Go.Proofs.YtkgflepgkhnclaaGreatDoor
