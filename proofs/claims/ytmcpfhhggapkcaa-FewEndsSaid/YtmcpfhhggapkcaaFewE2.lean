/-
  Layer 7: FewEnds' first loop: rows of each room, filled from either end and emptied.
-/
import Derived.Test.YtmcpfhhggapkcaaFewF1
namespace Go.Proofs.Ytmcpfhhggapkcaa
open Go.RowKit Go.Shelf
set_option linter.unusedVariables false
set_option linter.unusedSimpArgs false

theorem infoDeed : (Try.prog.info? 57).map (fun i => (i.zero, i.size, i.bytes)) = some (some (.agg #[.int .i64 0, .int .u8 0, .int .i64 0, .int .i64 0, .int .u32 0]), 5, 40) := by kernel_rfl
def rooms17 : List Int := [-9223372036854775808, -1, 0, 1, 3, 4, 5, 15, 16, 17, 47, 48, 49, 255, 256, 257, 9223372036854775807]
def nums9 : List Int := [-9223372036854775808, -1, 0, 1, 100, 254, 255, 256, 9223372036854775807]
/-- What abides in the first part. -/
def EndsI (w : World) (B g0 g1 g2 : Nat) (W : World) : Prop := Blk W g0 4 #[.bool false] ∧ Blk W g1 3 (rooms17.map (Value.int .i64)).toArray ∧ Blk W g2 3 (nums9.map (Value.int .i64)).toArray ∧ Below w.heap.size w W ∧ B ≤ W.heap.size
theorem ends_grown {w W W' : World} {B g0 g1 g2 : Nat} {row : Option Nat} (h : EndsI w B g0 g1 g2 W) (hlt : g0 < B ∧ g1 < B ∧ g2 < B ∧ w.heap.size ≤ B) (hg : W.grownBy W' row) (hr : ∀ r, row = some r → B ≤ r) : EndsI w B g0 g1 g2 W' := by
  obtain ⟨h1, h2, h3, h4, h5⟩ := h
  exact ⟨h1.grown hg (fun e => by have := hr _ e.symm; omega), h2.grown hg (fun e => by have := hr _ e.symm; omega), h3.grown hg (fun e => by have := hr _ e.symm; omega), h4.grown hg h4.size (fun r e => by have := hr r e; omega), Nat.le_trans h5 hg.size⟩
theorem ends_alloc {w W : World} {B g0 g1 g2 : Nat} (h : EndsI w B g0 g1 g2 W) (hlt : g0 < B ∧ g1 < B ∧ g2 < B ∧ w.heap.size ≤ B) (o : Obj) : EndsI w B g0 g1 g2 (W.alloc o) := ends_grown h hlt (World.grownBy_alloc W o none) (fun r e => by cases e)
theorem ends_below {w W W' : World} {B g0 g1 g2 : Nat} (h : EndsI w B g0 g1 g2 W) (hlt : g0 < B ∧ g1 < B ∧ g2 < B ∧ w.heap.size ≤ B) (hb : Below W.heap.size W W') : EndsI w B g0 g1 g2 W' := ends_grown (row := none) h hlt ⟨hb.os, hb.tape, hb.output, hb.size, fun k hk _ => hb.block k hk⟩ (fun r e => by cases e)
theorem deds_snoc (ds : List Ded) (d : Ded) : (ds ++ [d]).flatMap Ded.row = ds.flatMap Ded.row ++ d.row := by simp
theorem oks_snoc {ds : List Ded} {d : Ded} (h : ∀ x ∈ ds, x.ok) (hd : d.ok) : ∀ x ∈ ds ++ [d], x.ok := by
  intro x hx
  rcases List.mem_append.1 hx with hx | hx
  · exact h x hx
  · simp at hx; subst hx; exact hd
theorem ints_at {W : World} {g k : Nat} {t : TypeId} {l : List Int} (h : Blk W g t (l.map (Value.int .i64)).toArray) (hk : k < l.length) : ∃ x, W.cell? ⟨g, k, none⟩ = some (.int .i64 x) :=
  ⟨l[k], by rw [h.cell k, List.getElem?_toArray, List.getElem?_map, List.getElem?_eq_getElem hk]; rfl⟩
/-- The nine operations at the end. -/
def nine : List Ded := [⟨2, 255, 0, (7, 0)⟩, ⟨2, 0, 0, (8, 0)⟩, ⟨5, 200, 0, (0, 0)⟩, ⟨3, 255, 0, (0, 0)⟩, ⟨3, 255, 0, (0, 0)⟩, ⟨3, 1, 0, (0, 0)⟩, ⟨2, 1, 0, (0, 0)⟩, ⟨0, 1, 0, (0, 0)⟩, ⟨4, 0, 0, (0, 0)⟩]
theorem nine_ok : ∀ d ∈ nine, d.ok := by
  intro d hd
  simp only [nine, List.mem_cons, List.not_mem_nil, or_false] at hd
  rcases hd with rfl | rfl | rfl | rfl | rfl | rfl | rfl | rfl | rfl <;> exact ⟨by decide, by decide, by decide⟩

set_option maxHeartbeats 6400000 in
set_option maxRecDepth 100000 in
theorem ends_loop (B g0 g1 g2 : Nat) {u3 u4 u5 u6 u7 u8 u9 u10 u11 u12 u13 u14 u15 u16 u17 u18 u19 u20 u21 u22 u23 u24 u25 u26 u27 u28 u29 u30 u31 u32 u33 u34 u35 u36 u37 u38 u39 u40 u41 u42 u43 u44 u45 u46 u47 u48 u49 u50 u51 u52 u53 u54 u55 u56 u57 u58 u59 u60 u61 u62 u63 u64 u65 u66 u67 u68 u69 u70 u71 u72 u73 u74 u75 u76 u77 u78 u79 u80 u81 u82 u83 u84 u85 u86 u87 u88 u89 u90 u91 u92 u93 u94 u95 u96 u97 u98 u99 u100 u101 u102 u103 u104 u105 u106 u107 u108 u109 u110 u111 u112 u113 u114 u115 u116 u117 u118 u119 u120 u121 u122 u123 u124 u125 u126 u127 u128 u129 u130 u131 u132 u133 u134 u135 u136 u137 u138 u139 u140 u141 u142 u143 u144 u145 u146 u147 u148 u149 u150 u151 u152 u153 u154 u155 u156 u157 u158 u159 u160 u161 u162 u163 u164 u165 u166 u167 u168 u169 u170 u171 u172 u173 u174 u175 u176 u177 u178 u179 u180 u181 u182 u183 u184 u185 u186 u187 u188 u189 u190 u191 u192 u193 u194 u195 u196 u197 u198 u199 u200 u201 u202 u203 u204 u205 u206 u207 : Value} (w wx : World) {Q : Exit → Act → World → Prop} (hlt : g0 < B ∧ g1 < B ∧ g2 < B ∧ w.heap.size ≤ B) (hI : EndsI w B g0 g1 g2 wx)
    (hQ : ∀ (y3 y4 y5 y6 y7 y24 y25 y26 y27 y28 y29 y30 y31 y32 y33 y34 y35 y36 y37 y38 y39 y40 y41 y42 y43 y44 y45 y46 y47 y48 y49 y50 y51 y52 y53 y54 y55 y56 y57 y58 y59 y60 y61 y62 y63 y64 y65 y66 y67 y68 y69 y70 y71 y72 y73 y74 y75 y76 y77 y78 y79 y80 y81 y82 : Value) (W : World), EndsI w B g0 g1 g2 W → Q .normal ⟨#[.pointer (some ⟨g0, 0, none⟩), .slice (some ⟨g1, 0, none⟩) 17 17, .slice (some ⟨g2, 0, none⟩) 9 9, y3, y4, y5, y6, y7, u8, u9, u10, u11, u12, u13, u14, u15, u16, u17, u18, u19, u20, u21, u22, u23, y24, y25, y26, y27, y28, y29, y30, y31, y32, y33, y34, y35, y36, y37, y38, y39, y40, y41, y42, y43, y44, y45, y46, y47, y48, y49, y50, y51, y52, y53, y54, y55, y56, y57, y58, y59, y60, y61, y62, y63, y64, y65, y66, y67, y68, y69, y70, y71, y72, y73, y74, y75, y76, y77, y78, y79, y80, y81, y82, u83, u84, u85, u86, u87, u88, u89, u90, u91, u92, u93, u94, u95, u96, u97, u98, u99, u100, u101, u102, u103, u104, u105, u106, u107, u108, u109, u110, u111, u112, u113, u114, u115, u116, u117, u118, u119, u120, u121, u122, u123, u124, u125, u126, u127, u128, u129, u130, u131, u132, u133, u134, u135, u136, u137, u138, u139, u140, u141, u142, u143, u144, u145, u146, u147, u148, u149, u150, u151, u152, u153, u154, u155, u156, u157, u158, u159, u160, u161, u162, u163, u164, u165, u166, u167, u168, u169, u170, u171, u172, u173, u174, u175, u176, u177, u178, u179, u180, u181, u182, u183, u184, u185, u186, u187, u188, u189, u190, u191, u192, u193, u194, u195, u196, u197, u198, u199, u200, u201, u202, u203, u204, u205, u206, u207], []⟩ W) :
    Code.wp Try.prog (part Try.f7 [1, 1, 1, 0]) Q ⟨#[.pointer (some ⟨g0, 0, none⟩), .slice (some ⟨g1, 0, none⟩) 17 17, .slice (some ⟨g2, 0, none⟩) 9 9, u3, u4, u5, u6, u7, u8, u9, u10, u11, u12, u13, u14, u15, u16, u17, u18, u19, u20, u21, u22, u23, u24, u25, u26, u27, u28, u29, u30, u31, u32, u33, u34, u35, u36, u37, u38, u39, u40, u41, u42, u43, u44, u45, u46, u47, u48, u49, u50, u51, u52, u53, u54, u55, u56, u57, u58, u59, u60, u61, u62, u63, u64, u65, u66, u67, u68, u69, u70, u71, u72, u73, u74, u75, u76, u77, u78, u79, u80, u81, u82, u83, u84, u85, u86, u87, u88, u89, u90, u91, u92, u93, u94, u95, u96, u97, u98, u99, u100, u101, u102, u103, u104, u105, u106, u107, u108, u109, u110, u111, u112, u113, u114, u115, u116, u117, u118, u119, u120, u121, u122, u123, u124, u125, u126, u127, u128, u129, u130, u131, u132, u133, u134, u135, u136, u137, u138, u139, u140, u141, u142, u143, u144, u145, u146, u147, u148, u149, u150, u151, u152, u153, u154, u155, u156, u157, u158, u159, u160, u161, u162, u163, u164, u165, u166, u167, u168, u169, u170, u171, u172, u173, u174, u175, u176, u177, u178, u179, u180, u181, u182, u183, u184, u185, u186, u187, u188, u189, u190, u191, u192, u193, u194, u195, u196, u197, u198, u199, u200, u201, u202, u203, u204, u205, u206, u207], []⟩ wx := by
  conv => arg 2; whnf
  obtain ⟨i0, hi, hz0, hz1, hz2⟩ := info_parts infoDeed
  have HQ := Lib.hid hQ
  have HI := Lib.hid hI
  have HLT := Lib.hid hlt
  clear hQ hI hlt
  go_wp2_with fail
  go_loopw [3] (fun i wr => ∃ k : Nat, k ≤ 17 ∧ i = .int .i64 k ∧ Hid (EndsI w B g0 g1 g2 wr)) (fun i _ => 17 - (intOf i).toNat)
  case atStart => exact ⟨0, by omega, rfl, HI⟩
  case round =>
    obtain ⟨i, hi17, rfl, HW⟩ := hrel
    have j1 : (0 : Int) ≤ (i : Int) := by omega
    by_cases hi' : i < 17
    · have j2 : (i : Int) < 17 := by omega
      go_wp2_with fail
      have hB0 := HW.out.2.2.2.2
      go_loopw [4, 5] (fun s n wn => ∃ (k : Nat) (ds : List Ded), k ≤ 18 ∧ n = .int .i64 k ∧ ds.length = k ∧ Hid (wn.ownsRow B 57 5 s k (ds.flatMap Ded.row) ∧ EndsI w B g0 g1 g2 wn ∧ (∀ d ∈ ds, d.ok))) (fun _ n _ => 18 - (intOf n).toNat)
      case atStart => exact ⟨0, [], by omega, rfl, rfl, Lib.hid ⟨World.ownsRow_nil _ _ _ _, HW.out, fun d h => by cases h⟩⟩
      case round =>
        obtain ⟨k, ds, hk, rfl, hdl, HO⟩ := hrel
        have k1 : (0 : Int) ≤ (k : Int) := by omega
        have hown := HO.out.1
        have hB1 := HO.out.2.1.2.2.2.2
        obtain ⟨A, c, rfl, hA0, hnc, hcm⟩ := own_form hown
        by_cases hk18 : k < 18
        · have k2 : (k : Int) < 18 := by omega
          have w1_ : IntKind.u8.wrap (k : Int) = (k : Int) := IntWalk.u8_in _ (by omega)
          have w2_ : IntKind.u32.wrap (i : Int) = (i : Int) := IntWalk.u32_in _ (by omega)
          have w3_ : IntKind.i64.wrap ((k : Int) * 13) = (k : Int) * 13 := IntWalk.i64_in _ (by omega)
          have w4_ : IntKind.i64.wrap (255 - (k : Int) * 13) = 255 - (k : Int) * 13 := IntWalk.i64_in _ (by omega)
          have w5_ : IntKind.u8.wrap (255 - (k : Int) * 13) = 255 - (k : Int) * 13 := IntWalk.u8_in _ (by omega)
          by_cases hev : i % 2 = 0
          · have hm : (i : Int).tmod 2 = 0 := by rw [Int.tmod_eq_emod_of_nonneg (by omega)]; omega
            go_wp2_with (at_builtin; refine wpList_append_own _ rfl _ _ 48 rfl B 57 i0 (.agg #[.int .i64 0, .int .u8 0, .int .i64 0, .int .i64 0, .int .u32 0]) 5 40 Try.underlying48 hi hz0 hz1 hz2 rfl (by decide) _ _ _ rfl (hown.alloc _) ⟨wr.heap.size, 0, none⟩ 1 1 [.int .i64 0, .int .u8 (255 - (k : Int) * 13), .int .i64 0, .int .i64 (k : Int), .int .u32 (i : Int)] rfl rfl (World.news_of_block (cs := #[.int .i64 0, .int .u8 (255 - (k : Int) * 13), .int .i64 0, .int .i64 (k : Int), .int .u32 (i : Int)]) (t := 57) (fr := (0, 0)) (heap_alloc_new wr _)) (by simp [Value.oneCell']) (by unfold maxLen; omega) (by omega) (by simp; omega) ?_; intro v' w1 hown' hgrow _; have hlt1 := hown.lt; obtain ⟨g', cap', rfl⟩ := ownsRow_succ hown'; have HN := Lib.hid (And.intro hown' (ends_grown (ends_alloc HO.out.2.1 HLT.out _) HLT.out hgrow (fun r e => (hlt1 r e).1))); clear hown' hgrow hlt1)
            go_roundw
            case rel => exact ⟨k + 1, ds ++ [⟨0, 255 - k * 13, 0, ((k : Int), (i : Int))⟩], by omega, by go_num, by simp; omega, Lib.hid ⟨by rw [deds_snoc]; have := HN.out.1; simpa [Ded.row, show ((255 - k * 13 : Nat) : Int) = 255 - (k : Int) * 13 by omega] using this, HN.out.2, oks_snoc HO.out.2.2 ⟨by dsimp only; omega, by dsimp only; omega, by dsimp only; omega⟩⟩⟩
            case measure => simp [intOf]; omega
          · have hm : (i : Int).tmod 2 = 1 := by rw [Int.tmod_eq_emod_of_nonneg (by omega)]; omega
            go_wp2_with (at_builtin; refine wpList_append_own _ rfl _ _ 48 rfl B 57 i0 (.agg #[.int .i64 0, .int .u8 0, .int .i64 0, .int .i64 0, .int .u32 0]) 5 40 Try.underlying48 hi hz0 hz1 hz2 rfl (by decide) _ _ _ rfl (hown.alloc _) ⟨wr.heap.size, 0, none⟩ 1 1 [.int .i64 0, .int .u8 (k : Int), .int .i64 0, .int .i64 (k : Int), .int .u32 (i : Int)] rfl rfl (World.news_of_block (cs := #[.int .i64 0, .int .u8 (k : Int), .int .i64 0, .int .i64 (k : Int), .int .u32 (i : Int)]) (t := 57) (fr := (0, 0)) (heap_alloc_new wr _)) (by simp [Value.oneCell']) (by unfold maxLen; omega) (by omega) (by simp; omega) ?_; intro v' w1 hown' hgrow _; have hlt1 := hown.lt; obtain ⟨g', cap', rfl⟩ := ownsRow_succ hown'; have HN := Lib.hid (And.intro hown' (ends_grown (ends_alloc HO.out.2.1 HLT.out _) HLT.out hgrow (fun r e => (hlt1 r e).1))); clear hown' hgrow hlt1)
            go_roundw
            case rel => exact ⟨k + 1, ds ++ [⟨0, k, 0, ((k : Int), (i : Int))⟩], by omega, by go_num, by simp; omega, Lib.hid ⟨by rw [deds_snoc]; exact HN.out.1, HN.out.2, oks_snoc HO.out.2.2 ⟨by dsimp only; omega, by dsimp only; omega, by dsimp only; omega⟩⟩⟩
            case measure => simp [intOf]; omega
        · obtain rfl : k = 18 := by omega
          have k2 : ¬ ((18 : Int) < 18) := by omega
          have HS := Lib.hid (And.intro hdl HO.out)
          clear HO hown hA0 hnc hcm hB1
          go_wp2_with fail
          go_loopw [4, 7] (fun s n wn => ∃ (k : Nat) (ds : List Ded), k ≤ 9 ∧ n = .int .i64 k ∧ ds.length = 18 + k ∧ Hid (wn.ownsRow B 57 5 s (18 + k) (ds.flatMap Ded.row) ∧ EndsI w B g0 g1 g2 wn ∧ (∀ d ∈ ds, d.ok))) (fun _ n _ => 9 - (intOf n).toNat)
          case atStart => exact ⟨0, ds, by omega, rfl, HS.out.1, Lib.hid HS.out.2⟩
          case round =>
            clear HS hdl ds
            obtain ⟨k, ds, hk, rfl, hdl, HO⟩ := hrel
            have k1 : (0 : Int) ≤ (k : Int) := by omega
            have hown := HO.out.1
            have hB1 := HO.out.2.1.2.2.2.2
            obtain ⟨A, c, rfl, hA0, hnc, hcm⟩ := own_form hown
            by_cases hk9 : k < 9
            · have k2 : (k : Int) < 9 := by omega
              obtain ⟨x, hx⟩ : ∃ x, wr.cell? ⟨g2, k, none⟩ = some (.int .i64 x) := ints_at HO.out.2.1.2.2.1 (by simp [nums9]; omega)
              go_wp2_with (at_builtin; refine wpList_append_own _ rfl _ _ 48 rfl B 57 i0 (.agg #[.int .i64 0, .int .u8 0, .int .i64 0, .int .i64 0, .int .u32 0]) 5 40 Try.underlying48 hi hz0 hz1 hz2 rfl (by decide) _ _ _ rfl (hown.alloc _) ⟨wr.heap.size, 0, none⟩ 1 1 [.int .i64 4, .int .u8 0, .int .i64 x, .int .i64 0, .int .u32 0] rfl rfl (World.news_of_block (cs := #[.int .i64 4, .int .u8 0, .int .i64 x, .int .i64 0, .int .u32 0]) (t := 57) (fr := (0, 0)) (heap_alloc_new wr _)) (by simp [Value.oneCell']) (by unfold maxLen; omega) (by omega) (by simp; omega) ?_; intro v' w1 hown' hgrow _; have hlt1 := hown.lt; obtain ⟨g', cap', rfl⟩ := ownsRow_succ hown'; have HN := Lib.hid (And.intro hown' (ends_grown (ends_alloc HO.out.2.1 HLT.out _) HLT.out hgrow (fun r e => (hlt1 r e).1))); clear hown' hgrow hlt1)
              go_roundw
              case rel => exact ⟨k + 1, ds ++ [⟨4, 0, x, (0, 0)⟩], by omega, by go_num, by simp; omega, Lib.hid ⟨by rw [deds_snoc]; exact HN.out.1, HN.out.2, oks_snoc HO.out.2.2 ⟨by dsimp only; omega, by dsimp only; omega, by dsimp only; omega⟩⟩⟩
              case measure => simp [intOf]; omega
            · obtain rfl : k = 9 := by omega
              have k2 : ¬ ((9 : Int) < 9) := by omega
              obtain ⟨x, hx⟩ : ∃ x, wr.cell? ⟨g1, i, none⟩ = some (.int .i64 x) := ints_at HO.out.2.1.2.1 (by simp [rooms17]; omega)
              have HX := Lib.hid hx
              have hl1 := HO.out.2.1.2.1.lt
              clear hx
              go_wp2_with (at_builtin; refine wpList_append_own _ rfl _ _ 48 rfl B 57 i0 (.agg #[.int .i64 0, .int .u8 0, .int .i64 0, .int .i64 0, .int .u32 0]) 5 40 Try.underlying48 hi hz0 hz1 hz2 rfl (by decide) _ _ _ rfl (hown.alloc _) ⟨wr.heap.size, 0, none⟩ 9 9 [.int .i64 2, .int .u8 255, .int .i64 0, .int .i64 7, .int .u32 0, .int .i64 2, .int .u8 0, .int .i64 0, .int .i64 8, .int .u32 0, .int .i64 5, .int .u8 200, .int .i64 0, .int .i64 0, .int .u32 0, .int .i64 3, .int .u8 255, .int .i64 0, .int .i64 0, .int .u32 0, .int .i64 3, .int .u8 255, .int .i64 0, .int .i64 0, .int .u32 0, .int .i64 3, .int .u8 1, .int .i64 0, .int .i64 0, .int .u32 0, .int .i64 2, .int .u8 1, .int .i64 0, .int .i64 0, .int .u32 0, .int .i64 0, .int .u8 1, .int .i64 0, .int .i64 0, .int .u32 0, .int .i64 4, .int .u8 0, .int .i64 0, .int .i64 0, .int .u32 0] rfl rfl (World.news_of_block (cs := #[.int .i64 2, .int .u8 255, .int .i64 0, .int .i64 7, .int .u32 0, .int .i64 2, .int .u8 0, .int .i64 0, .int .i64 8, .int .u32 0, .int .i64 5, .int .u8 200, .int .i64 0, .int .i64 0, .int .u32 0, .int .i64 3, .int .u8 255, .int .i64 0, .int .i64 0, .int .u32 0, .int .i64 3, .int .u8 255, .int .i64 0, .int .i64 0, .int .u32 0, .int .i64 3, .int .u8 1, .int .i64 0, .int .i64 0, .int .u32 0, .int .i64 2, .int .u8 1, .int .i64 0, .int .i64 0, .int .u32 0, .int .i64 0, .int .u8 1, .int .i64 0, .int .i64 0, .int .u32 0, .int .i64 4, .int .u8 0, .int .i64 0, .int .i64 0, .int .u32 0]) (t := 57) (fr := (0, 0)) (heap_alloc_new wr _)) (by simp [Value.oneCell']) (by unfold maxLen; omega) (by omega) (by simp; omega) ?_; intro v' w1 hown' hgrow _; have hlt1 := hown.lt; obtain ⟨g', cap', rfl⟩ := ownsRow_succ hown'; have HN := Lib.hid (And.intro hown' (ends_grown (ends_alloc HO.out.2.1 HLT.out _) HLT.out hgrow (fun r e => (hlt1 r e).1))); have hx2 : w1.cell? ⟨g1, i, none⟩ = some (.int .i64 x) := (HN.out.2.2.1.cell i).trans (by have := HO.out.2.1.2.1.cell i; rw [HX.out] at this; exact this.symm); clear hown' hgrow hlt1)
              have hl36 : (ds ++ nine).length = 36 := by rw [List.length_append, hdl]; rfl
              have hrd : Reads w1 w1.heap.size 5 (some ⟨g', 0, none⟩) (ds ++ nine).length ((ds ++ nine).flatMap Ded.row) := by
                rw [hl36, List.flatMap_append]
                exact Reads.of_own HN.out.1
              have hoks : ∀ d ∈ ds ++ nine, d.ok := fun d hd => by
                rcases List.mem_append.1 hd with h | h
                · exact HO.out.2.2 d h
                · exact nine_ok d h
              have hFD := FewDoes_any x (ds ++ nine) (some ⟨g', 0, none⟩) cap' w1 hrd hoks (by rw [hl36]; decide)
              rw [hl36] at hFD
              have HFD := Lib.hid hFD
              clear hFD hrd hoks hl36
              refine HFD.out.mono ?_
              rintro e w2 ⟨rfl, hb2⟩
              have HE := Lib.hid (ends_below HN.out.2 HLT.out hb2)
              clear HFD hb2 HN HO HX hx2 hown
              go_wp2
              go_roundw
              case rel => exact ⟨i + 1, by omega, by go_num, HE⟩
              case measure => simp [intOf]; omega
    · obtain rfl : i = 17 := by omega
      have j2 : ¬ ((17 : Int) < 17) := by omega
      go_wp2_with fail
      exact HQ.out _ _ _ _ _ _ _ _ _ _ _ _ _ _ _ _ _ _ _ _ _ _ _ _ _ _ _ _ _ _ _ _ _ _ _ _ _ _ _ _ _ _ _ _ _ _ _ _ _ _ _ _ _ _ _ _ _ _ _ _ _ _ _ _  _ HW.out
end Go.Proofs.Ytmcpfhhggapkcaa
