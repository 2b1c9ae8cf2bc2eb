/-
  Walks: LiveSmall, its last parts.
-/
import Derived.Test.YtocmmcbhonhgnaaLiveBoundsW
import Derived.Test.YtocmmcbhonhgnaaTail
namespace Go.Proofs.Ytocmmcbhonhgnaa
open Go.RowKit
set_option linter.unusedVariables false

/-- The requests of the second part. -/
def smallReqs (a32 a a16 : ByteArray) : List Req := [
  ⟨2, 0, 0, 0, ⟨#[]⟩, a32, ⟨#[]⟩, 0, 0, 0, 0, 0⟩, ⟨2, 0, 0, 0, ⟨#[]⟩, a, ⟨#[]⟩, 0, 0, 0, 0, 0⟩, ⟨1, 0, 0, 0, ⟨#[]⟩, ⟨#[]⟩, a, 0, 0, 0, 0, 0⟩, ⟨1, 0, 0, 0, ⟨#[]⟩, ⟨#[]⟩, a32, 0, 0, 0, 0, 0⟩,
  ⟨5, 0, 0, 0, ⟨#[]⟩, ⟨#[]⟩, ⟨#[]⟩, 4096, 0, 0, 0, 0⟩, ⟨5, 0, 0, 0, ⟨#[]⟩, ⟨#[]⟩, ⟨#[]⟩, 4097, 0, 0, 0, 0⟩, ⟨5, 0, 0, 0, ⟨#[]⟩, ⟨#[]⟩, ⟨#[]⟩, -1, 0, 0, 0, 0⟩, ⟨1, 0, 0, 0, ⟨#[]⟩, ⟨#[]⟩, ⟨#[]⟩, -1, 0, 0, 0, 0⟩,
  ⟨1, 0, 0, 0, a16, ⟨#[]⟩, ⟨#[]⟩, 0, 0, 0, 0, 0⟩, ⟨3, 0, 0, 0, a16, ⟨#[]⟩, ⟨#[]⟩, 0, 0, 0, 0, 0⟩]

theorem row_len (r : Req) : r.row.length = 12 := rfl
theorem rows_at : ∀ (l : List Req) (k : Nat) (r : Req), l[k]? = some r → ∀ j, j < 12 → (l.flatMap Req.row)[k * 12 + j]? = r.row[j]?
  | [], _, _, h => by simp at h
  | x :: l, 0, r, h => by
    simp only [List.getElem?_cons_zero, Option.some.injEq] at h
    subst h
    intro j hj
    simp only [List.flatMap_cons]
    rw [List.getElem?_append_left (by rw [row_len]; omega), Nat.zero_mul, Nat.zero_add]
  | x :: l, k + 1, r, h => by
    intro j hj
    simp only [List.getElem?_cons_succ] at h
    simp only [List.flatMap_cons]
    rw [List.getElem?_append_right (by rw [row_len]; omega), row_len, show (k + 1) * 12 + j - 12 = k * 12 + j by omega]
    exact rows_at l k r h j hj
/-- A request of a row of requests that lies in a block of its own. -/
theorem reqs_at {W : World} {g : Nat} {ty : TypeId} {l : List Req} (h : Blk W g ty (l.flatMap Req.row).toArray) {k : Nat} (hk : k < l.length) : ∃ r : Req, ∀ j, j < 12 → W.cell? ⟨g, k * 12 + j, none⟩ = r.row[j]? := by
  refine ⟨l[k], fun j hj => ?_⟩
  rw [h.cell, List.getElem?_toArray, rows_at l k _ (List.getElem?_eq_getElem hk) j hj]

set_option maxHeartbeats 3200000 in
set_option maxRecDepth 100000 in
theorem small5  {u0 u1 u2 u3 u4 u5 u6 u7 u8 u9 u10 u11 u12 u13 u14 u15 u16 u17 u18 u19 u20 u21 u22 u23 u24 u25 u26 u27 u28 u29 u30 u31 u32 u33 u34 u35 u36 u37 u38 u39 u40 u41 u42 u43 u44 u45 u46 u47 u48 u49 u50 u51 u52 u53 u54 u55 u56 u57 u58 u59 u60 u61 u62 u63 u64 u65 u66 u67 u68 u69 u70 u71 u72 u73 u74 u75 u76 u77 u78 u79 u80 u81 u82 u83 u84 u85 u86 u87 u88 u89 u90 u91 u92 u93 u94 u95 u96 u97 u98 u99 u100 u101 u102 u103 u104 u105 u106 u107 u108 u109 u110 u111 u112 u113 u114 u115 u116 u117 u118 u119 u120 u121 u122 u123 u124 u125 u126 u127 u128 u129 u130 : Value} (w wx : World) (hbel : Below w.heap.size w wx) :
    Code.wp Try.prog (bodyTail Try.f5 5) (bodyPost Try.prog Try.f5 (BoolEnd true w)) ⟨#[u0, u1, u2, u3, u4, u5, u6, u7, u8, u9, u10, u11, u12, u13, u14, u15, u16, u17, u18, u19, u20, u21, u22, u23, u24, u25, u26, u27, u28, u29, u30, u31, u32, u33, u34, u35, u36, u37, u38, u39, u40, u41, u42, u43, u44, u45, u46, u47, u48, u49, u50, u51, u52, u53, u54, u55, u56, u57, u58, u59, u60, u61, u62, u63, u64, u65, u66, u67, u68, u69, u70, u71, u72, u73, u74, u75, u76, u77, u78, u79, u80, u81, u82, u83, u84, u85, u86, u87, u88, u89, u90, u91, u92, u93, u94, u95, u96, u97, u98, u99, u100, u101, u102, u103, u104, u105, u106, u107, u108, u109, u110, u111, u112, u113, u114, u115, u116, u117, u118, u119, u120, u121, u122, u123, u124, u125, u126, u127, u128, u129, u130], []⟩ wx := by
  conv => arg 2; whnf
  go_wp2_with fail
  refine (awake_any _).mono ?_
  rintro e w1 ⟨rfl, hb⟩
  go_wp2
  go_ret
  exact ⟨rfl, below_trans hbel hb⟩

set_option maxHeartbeats 3200000 in
set_option maxRecDepth 100000 in
theorem small4b (l : List Req) (g : Nat) {u1 u2 u3 u4 u5 u6 u7 u8 u9 u10 u11 u12 u13 u14 u15 u16 u17 u18 u19 u20 u21 u22 u23 u24 u25 u26 u27 u28 u29 u30 u31 u32 u33 u34 u35 u36 u37 u38 u39 u40 u41 u42 u43 u44 u45 u46 u47 u48 u49 u50 u51 u52 u53 u54 u55 u56 u57 u58 u59 u60 u61 u62 u63 u64 u65 u66 u67 u68 u69 u70 u71 u72 u73 u74 u75 u76 u77 u78 u79 u80 u81 u82 u83 u84 u85 u86 u87 u88 u89 u90 u91 u92 u93 u94 u95 u96 u97 u98 u99 u103 u104 u105 u106 u107 u108 u109 u110 u111 u112 u113 u114 u115 u116 u117 u118 u119 u120 u121 u122 u123 u124 u125 u126 u127 u128 u129 u130 : Value} (w wx : World) (K : Act → World → Prop) (HK : Hid (∀ a w', Code.wp Try.prog (bodyTail Try.f5 5) (bodyPost Try.prog Try.f5 (BoolEnd true w)) a w' → K a w'))
    (hlen : l.length = 10) (hrows : Blk wx g 31 (l.flatMap Req.row).toArray) (hbel : Below w.heap.size w wx) :
    Code.wp Try.prog (codeRest (codeHead (bodyTail Try.f5 4))) (Exit.then K (bodyPost Try.prog Try.f5 (BoolEnd true w))) ⟨#[.bool false, u1, u2, u3, u4, u5, u6, u7, u8, u9, u10, u11, u12, u13, u14, u15, u16, u17, u18, u19, u20, u21, u22, u23, u24, u25, u26, u27, u28, u29, u30, u31, u32, u33, u34, u35, u36, u37, u38, u39, u40, u41, u42, u43, u44, u45, u46, u47, u48, u49, u50, u51, u52, u53, u54, u55, u56, u57, u58, u59, u60, u61, u62, u63, u64, u65, u66, u67, u68, u69, u70, u71, u72, u73, u74, u75, u76, u77, u78, u79, u80, u81, u82, u83, u84, u85, u86, u87, u88, u89, u90, u91, u92, u93, u94, u95, u96, u97, u98, u99, .slice (some ⟨g, 0, none⟩) 10 10, .int .i64 10, .int .i64 0, u103, u104, u105, u106, u107, u108, u109, u110, u111, u112, u113, u114, u115, u116, u117, u118, u119, u120, u121, u122, u123, u124, u125, u126, u127, u128, u129, u130], []⟩ wx := by
  conv => arg 2; whnf
  have HL := Lib.hid hlen
  clear hlen
  go_wp2_with fail
  go_loopw [102] (fun i wr => ∃ k : Nat, k ≤ 10 ∧ i = .int .i64 k ∧ Blk wr g 31 (l.flatMap Req.row).toArray ∧ Below w.heap.size w wr) (fun i _ => 10 - (intOf i).toNat)
  case atStart => exact ⟨0, by omega, rfl, hrows, hbel⟩
  case round =>
    obtain ⟨k, hk, rfl, hrows, hbel⟩ := hrel
    by_cases hlt : k < 10
    · have hdk : decide ((k : Int) < 10) = true := by simp; omega
      obtain ⟨r, hr⟩ := reqs_at hrows (k := k) (by rw [HL.out]; exact hlt)
      have c0 := hr 0 (by omega)
      have c1 := hr 1 (by omega)
      have c2 := hr 2 (by omega)
      have c3 := hr 3 (by omega)
      have c4 := hr 4 (by omega)
      have c5 := hr 5 (by omega)
      have c6 := hr 6 (by omega)
      have c7 := hr 7 (by omega)
      have c8 := hr 8 (by omega)
      have c9 := hr 9 (by omega)
      have c10 := hr 10 (by omega)
      have c11 := hr 11 (by omega)
      simp [Req.row] at c0 c1 c2 c3 c4 c5 c6 c7 c8 c9 c10 c11
      clear hr
      go_wp2_with fail
      obtain ⟨wo, rfl⟩ : ∃ wo : World, wo = wr := ⟨_, rfl⟩
      have hbox := req_box r wo 31
      generalize hW1 : (wo.alloc (Obj.cells #[.int .i64 r.deed, .int .i64 r.ten, .int .u32 r.gen, .int .u8 r.rig, .string r.key, .string r.val, .string r.old, .int .i64 r.lim, .int .i64 r.tenant, .int .u64 r.qk, .int .u64 r.qb, .int .u8 r.rights] 31)) = W1 at hbox ⊢
      have hrows1 : Blk W1 g 31 (l.flatMap Req.row).toArray := by rw [← hW1]; exact hrows.alloc _
      have hbel1 : Below w.heap.size w W1 := by rw [← hW1]; exact below_alloc hbel _
      have hb1 := hbox.lt
      have hs1 : W1.heap.size = wo.heap.size + 1 := by rw [← hW1]; simp
      generalize wo.heap.size = b1 at hbox hb1 hs1 ⊢
      have hmets : Blk (W1.alloc (.cells #[.int .i64 0, .int .i64 1, .int .i64 4000, .int .i64 4096, .int .i64 1099511627776] 3)) W1.heap.size 3 #[.int .i64 0, .int .i64 1, .int .i64 4000, .int .i64 4096, .int .i64 1099511627776] := Blk.new _ _ _
      have hbox2 := hbox.alloc (.cells #[.int .i64 0, .int .i64 1, .int .i64 4000, .int .i64 4096, .int .i64 1099511627776] 3)
      have hrows2 := hrows1.alloc (.cells #[.int .i64 0, .int .i64 1, .int .i64 4000, .int .i64 4096, .int .i64 1099511627776] 3)
      have hbel2 := below_alloc hbel1 (.cells #[.int .i64 0, .int .i64 1, .int .i64 4000, .int .i64 4096, .int .i64 1099511627776] 3)
      rw [hs1] at hmets
      generalize (W1.alloc (Obj.cells #[.int .i64 0, .int .i64 1, .int .i64 4000, .int .i64 4096, .int .i64 1099511627776] 3)) = W2 at hmets hbox2 hrows2 hbel2 ⊢
      clear hrows hbel hrows1 hbel1 hW1 c0 c1 c2 c3 c4 c5 c6 c7 c8 c9 c10 c11 hbox hs1 hb1
      go_wp2_with fail
      go_loopw [108] (fun i wr => ∃ q : Nat, q ≤ 5 ∧ i = .int .i64 q ∧ Blk wr g 31 (l.flatMap Req.row).toArray ∧ Blk wr b1 31 r.row.toArray ∧ Blk wr (b1 + 1) 3 #[.int .i64 0, .int .i64 1, .int .i64 4000, .int .i64 4096, .int .i64 1099511627776] ∧ Below w.heap.size w wr) (fun i _ => 5 - (intOf i).toNat)
      case atStart => exact ⟨0, by omega, rfl, hrows2, hbox2, hmets, hbel2⟩
      case round =>
        obtain ⟨q, hq, rfl, hrows3, hbox3, hmets3, hbel3⟩ := hrel
        by_cases hql : q < 5
        · obtain ⟨x, hx⟩ : ∃ x : Int, wr.cell? ⟨b1 + 1, q, none⟩ = some (.int .i64 x) := by
            rw [hmets3.cell]
            match q, hql with
            | 0, _ => exact ⟨_, rfl⟩
            | 1, _ => exact ⟨_, rfl⟩
            | 2, _ => exact ⟨_, rfl⟩
            | 3, _ => exact ⟨_, rfl⟩
            | 4, _ => exact ⟨_, rfl⟩
          obtain ⟨h0, h1, h2, h3, h4, h5, h6, h7, h8, h9, h10, h11⟩ := req_cells hbox3
          go_wp2_with fail
          refine (bounds_any r 0 x _).mono ?_
          rintro e w4 ⟨rfl, hb⟩
          have hbox4 := hbox3.below hb hbox3.lt
          have hmets4 := hmets3.below hb hmets3.lt
          have hrows4 := hrows3.below hb hrows3.lt
          have hbel4 := below_trans hbel3 hb
          clear hb hbox3 hmets3 hrows3 hbel3 h0 h1 h2 h3 h4 h5 h6 h7 h8 h9 h10 h11
          obtain ⟨h0, h1, h2, h3, h4, h5, h6, h7, h8, h9, h10, h11⟩ := req_cells hbox4
          go_wp2_with fail
          refine (bounds_any r 28 x _).mono ?_
          rintro e w5 ⟨rfl, hb⟩
          have hbox5 := hbox4.below hb hbox4.lt
          have hmets5 := hmets4.below hb hmets4.lt
          have hrows5 := hrows4.below hb hrows4.lt
          have hbel5 := below_trans hbel4 hb
          clear hb hbox4 hmets4 hrows4 hbel4 h0 h1 h2 h3 h4 h5 h6 h7 h8 h9 h10 h11
          obtain ⟨h0, h1, h2, h3, h4, h5, h6, h7, h8, h9, h10, h11⟩ := req_cells hbox5
          go_wp2_with fail
          refine (bounds_any r 29 x _).mono ?_
          rintro e w6 ⟨rfl, hb⟩
          have hbox6 := hbox5.below hb hbox5.lt
          have hmets6 := hmets5.below hb hmets5.lt
          have hrows6 := hrows5.below hb hrows5.lt
          have hbel6 := below_trans hbel5 hb
          clear hb hbox5 hmets5 hrows5 hbel5 h0 h1 h2 h3 h4 h5 h6 h7 h8 h9 h10 h11
          go_wp2
          go_roundw
          case rel => first | exact ⟨q + 1, by omega, by go_num, hrows6, hbox6, hmets6, hbel6⟩ | ((repeat apply Exists.intro); exact ⟨⟨q + 1, by omega, by go_num, hrows6, hbox6, hmets6, hbel6⟩, rfl⟩)
          case measure => simp [intOf]; omega
        · obtain rfl : q = 5 := by omega
          go_wp2
          go_roundw
          case rel => exact ⟨k + 1, by omega, by go_num, hrows3, hbel3⟩
          case measure => simp [intOf]; omega
    · obtain rfl : k = 10 := by omega
      go_wp2_with fail
      exact HK.out _ _ (small5 w _ hbel)

end Go.Proofs.Ytocmmcbhonhgnaa
