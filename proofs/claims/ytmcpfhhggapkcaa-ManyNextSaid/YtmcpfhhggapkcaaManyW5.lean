/-
  Layer 8: New.
-/
import Derived.Test.YtmcpfhhggapkcaaManyW4
import Derived.Laws.MakeOwn
namespace Go.Proofs.Ytmcpfhhggapkcaa
open Go.RowKit Go.Shelf
set_option linter.unusedVariables false
set_option linter.unusedSimpArgs false

def zeroIdx : List Value := (List.range 256).map (fun _ => .int .u16 0) ++ [.slice none 0 0, .slice none 0 0]
theorem infoIdx : (Try.prog.info? 88).map (fun i => (i.zero, i.size)) = some (some (.agg zeroIdx.toArray), 258) := by kernel_rfl
theorem infoMany : (Try.prog.info? 90).map (fun i => (i.zero, i.size)) = some (some (.agg zeroIdx.toArray), 258) := by kernel_rfl
theorem zero_of {t : TypeId} {z : Value} {n : Nat} (h : (Try.prog.info? t).map (fun i => (i.zero, i.size)) = some (some z, n)) (V : World) : (zeroValue t).run Try.prog V = .ok z V := by
  cases hq : Try.prog.info? t with
  | none => simp [hq] at h
  | some i =>
    rw [hq] at h
    simp only [Option.map_some, Option.some.injEq, Prod.mk.injEq] at h
    simp [zeroValue, typeInfo, hq, h.1]
theorem infoRef2 : (Try.prog.info? 31).map (fun i => (i.zero, i.size, i.bytes)) = some (some (.agg #[.int .i64 0, .int .u32 0]), 2, 16) := by kernel_rfl
theorem infoBool1 : (Try.prog.info? 4).map (fun i => (i.zero, i.size, i.bytes)) = some (some (.bool false), 1, 1) := by kernel_rfl
def oNew : ManyO := ⟨fun _ => 0, fun _ => (0, 0), fun _ => false⟩
theorem made_refs {n : Nat} (h : n = 48 ∨ n = 256) : madeCells (Value.agg #[.int .i64 0, .int .u32 0]).cells (n * 2) = (rcells oNew n).toArray := by
  rcases h with rfl | rfl <;> kernel_rfl
theorem made_bools {n : Nat} (h : n = 48 ∨ n = 256) : madeCells (Value.bool false).cells (n * 1) = (ucells oNew n).toArray := by
  rcases h with rfl | rfl <;> kernel_rfl
theorem fold_zip (L : List Value) : ∀ (A Z : List Value), L.length = Z.length → (L.zipIdx A.length).foldl (fun (cs : Array Value) x => cs.setIfInBounds x.2 x.1) (A ++ Z).toArray = (A ++ L).toArray := by
  induction L with
  | nil =>
    intro A Z h
    rw [List.eq_nil_of_length_eq_zero h.symm]
    rfl
  | cons x L ih =>
    intro A Z h
    cases Z with
    | nil => cases h
    | cons z Z =>
      rw [List.zipIdx_cons, List.foldl_cons]
      have h1 : (A ++ z :: Z).toArray.setIfInBounds A.length x = ((A ++ [x]) ++ Z).toArray := by
        rw [List.setIfInBounds_toArray, List.set_append_right _ _ (Nat.le_refl _), Nat.sub_self, List.set_cons_zero]
        simp
      have h2 := ih (A ++ [x]) Z (by simpa using h)
      simp only [List.length_append, List.length_cons, List.length_nil, Nat.zero_add] at h2
      dsimp only
      rw [h1, h2]
      simp
theorem fold_all (L Z : List Value) (h : L.length = Z.length) : L.zipIdx.foldl (fun (cs : Array Value) x => cs.setIfInBounds x.2 x.1) Z.toArray = L.toArray := by
  have := fold_zip L [] Z h
  simpa using this
theorem idx_made (gr gu room : Nat) : (zeroIdx.set 256 (.slice (some ⟨gr, 0, none⟩) room room)).set 257 (.slice (some ⟨gu, 0, none⟩) room room) = mcells oNew gr gu room := by
  unfold zeroIdx mcells oNew
  rw [List.set_append_right _ _ (by simp), List.set_append_right _ _ (by simp)]
  simp
theorem idx_len : zeroIdx.length = 258 := by simp [zeroIdx]
set_option maxHeartbeats 3200000 in
set_option maxRecDepth 100000 in
theorem new_tail (room : Nat) (w : World) (hroom : room = 48 ∨ room = 256) {u1 u2 u3 u4 u5 u6 u7 u8 u9 u10 u11 u12 u13 u14 u15 u16 : Value} {Q : Exit → Act → World → Prop}
    (hQ : ∀ (y10 y11 y12 y13 y14 y15 y16 : Value) (g gr gu : Nat) (W : World), ManyAt W g gr gu room noKids → w.heap.size ≤ g → w.heap.size ≤ gr → w.heap.size ≤ gu → Below w.heap.size w W → Q .ret ⟨#[.int .i64 (room : Int), u1, .pointer (some ⟨g, 0, none⟩), .int .i64 0, u4, u5, u6, u7, u8, u9, y10, y11, y12, y13, y14, y15, y16], []⟩ W) :
    Code.wp Try.prog (part Try.f38 [1, 1]) Q ⟨#[.int .i64 (room : Int), u1, u2, u3, u4, u5, u6, u7, u8, u9, u10, u11, u12, u13, u14, u15, u16], []⟩ w := by
  conv => arg 2; whnf
  have HQ := Lib.hid hQ
  clear hQ
  have hz1 := zero_of infoIdx
  have hz2 := zero_of infoMany
  obtain ⟨i1, hi1, ha1, hb1, hc1⟩ := info_parts infoRef2
  obtain ⟨i2, hi2, ha2, hb2, hc2⟩ := info_parts infoBool1
  have hr0 : room ≤ 256 ∧ 0 < room := by omega
  have hm1 : ∀ V : World, (Instr.makeSlice 85 (.int .i64 (room : Int)) (.int .i64 (room : Int))).run Try.prog V = .ok (.slice (some ⟨V.heap.size, 0, none⟩) room room) (V.alloc (.cells (rcells oNew room).toArray 31)) := fun V => by
    have := run_make (P := Try.prog) V 85 31 i1 _ Try.underlying85 hi1 ha1 .i64 .i64 (room : Int) (room : Int) (by omega) (Int.le_refl _) (by rw [hc1]; omega) (by omega)
    rw [Int.toNat_natCast, hb1, made_refs hroom] at this
    exact this
  have hm2 : ∀ V : World, (Instr.makeSlice 86 (.int .i64 (room : Int)) (.int .i64 (room : Int))).run Try.prog V = .ok (.slice (some ⟨V.heap.size, 0, none⟩) room room) (V.alloc (.cells (ucells oNew room).toArray 4)) := fun V => by
    have := run_make (P := Try.prog) V 86 4 i2 _ Try.underlying86 hi2 ha2 .i64 .i64 (room : Int) (room : Int) (by omega) (Int.le_refl _) (by rw [hc2]; omega) (by omega)
    rw [Int.toNat_natCast, hb2, made_bools hroom] at this
    exact this
  obtain ⟨R, hR⟩ : ∃ R : List Value, R = rcells oNew room := ⟨_, rfl⟩
  obtain ⟨U, hU⟩ : ∃ U : List Value, U = ucells oNew room := ⟨_, rfl⟩
  obtain ⟨Z, hZ⟩ : ∃ Z : List Value, Z = zeroIdx := ⟨_, rfl⟩
  have hne : (Z.toArray = #[]) = False := by rw [hZ]; simp [zeroIdx]
  have hlen : Z.length = 258 := by rw [hZ]; exact idx_len
  rw [← hR] at hm1
  rw [← hU] at hm2
  rw [← hZ] at hz1 hz2
  have HZ := Lib.hid (And.intro hR (And.intro hU (And.intro hZ hr0)))
  clear hroom hr0 hR hU hZ hi1 ha1 hb1 hc1 hi2 ha2 hb2 hc2
  go_wp2_with fail
  go_region
  · go_wp2
    obtain ⟨hR, hU, hZ, hr0⟩ := HZ.out
    subst hR hU hZ
    refine HQ.out _ _ _ _ _ _ _ _ w.heap.size (w.heap.size + 1) _ ⟨oNew, rep_new room, ⟨?_, ?_, ?_⟩, hr0.2, hr0.1⟩ (by omega) (Nat.le_refl _) (by omega) ?_
    · have h := Blk.new ((w.alloc (.cells (rcells oNew room).toArray 31)).alloc (.cells (ucells oNew room).toArray 4)) 90 (mcells oNew w.heap.size (w.heap.size + 1) room).toArray
      rw [fold_all _ _ (by simp [zeroIdx]), idx_made]
      simpa using h.drew
    · exact (((Blk.new w _ _).alloc _).alloc _).drew
    · have h := Blk.new (w.alloc (.cells (rcells oNew room).toArray 31)) 4 (ucells oNew room).toArray
      rw [show (w.alloc (.cells (rcells oNew room).toArray 31)).heap.size = w.heap.size + 1 by simp] at h
      exact (h.alloc _).drew
    · have b1 := below_box w (.cells (rcells oNew room).toArray 31)
      have b2 := b1.alloc b1.size (.cells (ucells oNew room).toArray 4)
      exact (b2.alloc b2.size _).drew
  · go_wp2
    obtain ⟨hR, hU, hZ, hr0⟩ := HZ.out
    subst hR hU hZ
    refine HQ.out _ _ _ _ _ _ _ _ (w.heap.size + 1) w.heap.size _ ⟨oNew, rep_new room, ⟨?_, ?_, ?_⟩, hr0.2, hr0.1⟩ (by omega) (by omega) (Nat.le_refl _) ?_
    · have h := Blk.new ((w.alloc (.cells (ucells oNew room).toArray 4)).alloc (.cells (rcells oNew room).toArray 31)) 90 (mcells oNew (w.heap.size + 1) w.heap.size room).toArray
      rw [fold_all _ _ (by simp [zeroIdx]), idx_made]
      simpa using h.drew
    · have h := Blk.new (w.alloc (.cells (ucells oNew room).toArray 4)) 31 (rcells oNew room).toArray
      rw [show (w.alloc (.cells (ucells oNew room).toArray 4)).heap.size = w.heap.size + 1 by simp] at h
      exact (h.alloc _).drew
    · exact (((Blk.new w _ _).alloc _).alloc _).drew
    · have b1 := below_box w (.cells (ucells oNew room).toArray 4)
      have b2 := b1.alloc b1.size (.cells (rcells oNew room).toArray 31)
      exact (b2.alloc b2.size _).drew
def NewMEnd (room : Nat) (w : World) (e : Ending) (w' : World) : Prop := ∃ g gr gu, e = .returned (.tuple #[.pointer (some ⟨g, 0, none⟩), .int .i64 0]) ∧ ManyAt w' g gr gu room noKids ∧ w.heap.size ≤ g ∧ w.heap.size ≤ gr ∧ w.heap.size ≤ gu ∧ Below w.heap.size w w'
set_option maxRecDepth 100000 in
theorem New_m (room : Nat) (w : World) (hroom : room = 48 ∨ room = 256) : Calls Try.prog 38 #[.int .i64 (room : Int)] w (NewMEnd room w) := by
  have hrb : ((room : Int) != 48) = false ∨ ((room : Int) != 48) = true ∧ ((room : Int) != 256) = false := by
    rcases hroom with rfl | rfl
    · exact .inl rfl
    · exact .inr ⟨rfl, rfl⟩
  have HR := Lib.hid hroom
  clear hroom
  rcases hrb with hrb | ⟨hrb, hrb2⟩
  all_goals
    go_enter Try.func38, Try.ntmps38
    refine wp_seq_k fun K0 hK => ?_
    have HK0 := Lib.hid hK
    clear hK
    go_wp2_with fail
    refine HK0.out _ _ ?_
    clear HK0
    refine wp_seq_k fun K1 hK => ?_
    have HK1 := Lib.hid hK
    clear hK
    go_wp2_with fail
    refine HK1.out _ _ ?_
    clear HK1
    refine new_tail room w HR.out ?_
    intros
    rename_i g gr gu W h1 h2 h3 h4 h5
    go_ret2
    exact ⟨g, gr, gu, rfl, h1, h2, h3, h4, h5⟩
end Go.Proofs.Ytmcpfhhggapkcaa
