/-
  Walks of layer 29: adds, Is, Way, Bound.
-/
import Derived.Test.YtocmmcbhonhgnaaCodeW
import Derived.Test.YtocmmcbhonhgnaaEncW
import Derived.Test.YtocmmcbhonhgnaaMap
namespace Go.Proofs.Ytocmmcbhonhgnaa
open Go.RowKit
set_option linter.unusedVariables false

def addsMap : List (Int × Value) := [(1, .int .i64 0), (2, .int .i64 3), (4, .int .i64 3), (3, .int .i64 6), (5, .int .i64 0)]

def AddsEnd (w : World) (e : Ending) (w' : World) : Prop := e = .returned (.map (some w.heap.size)) ∧ IntMap .i64 w' w.heap.size addsMap ∧ Below w.heap.size w w'

set_option maxHeartbeats 400000 in
theorem adds_any (w : World) : Calls Try.prog 23 #[] w (AddsEnd w) := by
  have hmm := @run_makeMap Try.prog
  have m0 := IntMap.made .i64 w
  have b0 : Below w.heap.size w (w.alloc (.map #[] 0)) := (Below.refl _ _).alloc (Nat.le_refl _) _
  go_enter Try.func23, Try.ntmps23
  go_wp2_with (refine wpList_insert_lit w w.heap.size rfl _ _ _ _ rfl 22 3 .i64 .i64 Try.underlying52 Try.underlying22 rfl _ _ rfl (by assumption) (by assumption) (Nat.le_refl _) _ rfl (by rfl) _ rfl ?_; intro wa ma ba)
  go_ret
  exact ⟨rfl, ma, ba⟩

theorem adds_look (d : Int) : look (.int .i64 0) d addsMap = .int .i64 (addOf d) := by
  unfold addsMap look addOf
  by_cases h1 : d = 1 <;> by_cases h2 : d = 2 <;> by_cases h3 : d = 3 <;> by_cases h4 : d = 4 <;> by_cases h5 : d = 5 <;> simp [look, Ne.symm, *] <;> omega
theorem adds_has (d : Int) : hasKey d addsMap = (decide (1 ≤ d) && decide (d ≤ 5)) := by
  unfold hasKey addsMap
  rw [Bool.eq_iff_iff]
  simp
  omega

theorem zeroInt (w : World) : (zeroValue 3).run Try.prog w = .ok (.int .i64 0) w := by kernel_rfl
theorem adds_lookup {w : World} {b : Nat} (h : IntMap .i64 w b addsMap) (d : Int) : (Instr.lookup 52 (.map (some b)) (.int .i64 d) true).run Try.prog w = .ok (.tuple #[.int .i64 (addOf d), .bool (decide (1 ≤ d) && decide (d ≤ 5))]) w := by
  have := run_lookup_intmap (P := Try.prog) (n := d) h Try.underlying52 Try.underlying22 rfl (zeroInt w) true
  rw [adds_look, adds_has] at this
  simpa using this
theorem adds_lookup1 {w : World} {b : Nat} (h : IntMap .i64 w b addsMap) (d : Int) : (Instr.lookup 52 (.map (some b)) (.int .i64 d) false).run Try.prog w = .ok (.int .i64 (addOf d)) w := by
  have := run_lookup_intmap (P := Try.prog) (n := d) h Try.underlying52 Try.underlying22 rfl (zeroInt w) false
  rw [adds_look] at this
  simpa using this

def BoolEnd (b : Bool) (w : World) (e : Ending) (w' : World) : Prop := e = .returned (.bool b) ∧ Below w.heap.size w w'
def IntEnd (n : Int) (w : World) (e : Ending) (w' : World) : Prop := e = .returned (.int .i64 n) ∧ Below w.heap.size w w'

set_option maxHeartbeats 800000 in
theorem is_any (r : Req) (w : World) : Calls Try.prog 12 #[r.v] w (BoolEnd (isB r) w) := by
  go_enter Try.func12, Try.ntmps12
  go_wp2_with fail
  generalize hbox : (w.alloc (Obj.cells _ 31)) = W
  have hblk : Blk W w.heap.size 31 r.row.toArray := by rw [← hbox]; exact Blk.new _ _ _
  have hbel : Below w.heap.size w W := by rw [← hbox]; exact (Below.refl _ _).alloc (Nat.le_refl _) _
  have hsz := hblk.lt
  have h0 := hblk.cell 0
  simp [Req.row] at h0
  clear hbox
  go_region_held3 (fun w' => w'.cell? ⟨w.heap.size, 0, none⟩ = some (.int .i64 r.deed)) (first | go_keep | exact hq)
      (first | (go_at_call 23; refine (adds_any _).mono ?_; rintro e w1 ⟨rfl, hm, hb⟩; have hlk := adds_lookup (b := W.heap.size) hm r.deed; have hq := (hb.cell (p := ⟨w.heap.size, 0, none⟩) (by simpa using hsz)).trans h0))
  have hblk1 : Blk w1 w.heap.size 31 r.row.toArray := hblk.drew.below hb (by simpa using hsz)
  have hbel1 : Below w.heap.size w w1 := hbel.drew.trans (hb.mono (by simp; omega))
  have c4 := hblk1.cell 4
  have c5 := hblk1.cell 5
  have c6 := hblk1.cell 6
  have c7 := hblk1.cell 7
  simp [Req.row] at c4 c5 c6 c7
  clear hblk hbel hsz h0 hm hb hlk hblk1
  have HB := Lib.hid hbel1
  clear hbel1
  go_wp2
  all_goals go_ret
  all_goals refine ⟨ret_bool ?_, HB.out⟩
  all_goals (rw [Bool.eq_iff_iff]; simp [isB]; omega)

theorem way_no (r : Req) (w : World) (his : isB r = false) : Calls Try.prog 13 #[r.v] w (IntEnd (wayOf r) w) := by
  have e : wayOf r = 0 := by simp [wayOf, his]
  have HE := Lib.hid e
  have HI := Lib.hid his
  clear e his
  go_enter Try.func13, Try.ntmps13
  go_wp2_with fail
  refine (is_any r _).mono ?_
  rintro e w1 ⟨rfl, hb⟩
  rw [HI.out]
  go_wp2
  go_ret
  exact ⟨ret_int HE.out.symm, below_trans (below_box w _) hb⟩

set_option maxHeartbeats 800000 in
theorem way_scan (r : Req) (w : World) (his : isB r = true) (h5 : r.deed = 5) : Calls Try.prog 13 #[r.v] w (IntEnd (wayOf r) w) := by
  have e : wayOf r = 139 := by simp [wayOf, his, h5]
  have HE := Lib.hid e
  have HI := Lib.hid his
  have h5b : (r.deed != 5) = false := by simp [h5]
  have H5 := Lib.hid h5
  have a5 : addOf 5 = 0 := by decide
  clear e his h5
  go_enter Try.func13, Try.ntmps13
  go_wp2_with fail
  refine (is_any r _).mono ?_
  rintro e w1 ⟨rfl, hb⟩
  rw [HI.out]
  have hblk := (req_box r w 31).below hb (by simp)
  have hbel := below_trans (below_box w _) hb
  have hsz := hblk.lt
  obtain ⟨h0, h4⟩ : w1.cell? ⟨w.heap.size, 0, none⟩ = some (.int .i64 r.deed) ∧ w1.cell? ⟨w.heap.size, 4, none⟩ = some (.string r.key) := ⟨hblk.cell 0, hblk.cell 4⟩
  clear hb
  go_wp2_with fail
  go_region_held3 (fun w' => w'.cell? ⟨w.heap.size, 0, none⟩ = some (.int .i64 r.deed)) (first | go_keep | exact hq)
      (first | (go_at_call 23; refine (adds_any _).mono ?_; rintro e w2 ⟨rfl, hm, hb⟩; have hlk := adds_lookup1 (b := w1.heap.size) hm r.deed; have hq := (hb.cell (p := ⟨w.heap.size, 0, none⟩) (by simpa using hsz)).trans h0))
  go_wp2
  go_ret
  exact ⟨ret_int (by rw [HE.out, H5.out]; rfl), hbel.drew.trans (hb.mono (by simp; omega))⟩

set_option maxHeartbeats 800000 in
theorem way_key (r : Req) (w : World) (his : isB r = true) (h5 : r.deed ≠ 5) : Calls Try.prog 13 #[r.v] w (IntEnd (wayOf r) w) := by
  have e : wayOf r = 4 * ((encode r.key.data.toList).length : Int) + 3 + addOf r.deed := by simp [wayOf, his, h5]
  have HE := Lib.hid e
  have HI := Lib.hid his
  have h5b : (r.deed != 5) = true := by simp [h5]
  have hk : r.key.size ≤ 16 := by simp [isB] at his; omega
  have hl := encode_len r.key hk
  have hadd : 0 ≤ addOf r.deed ∧ addOf r.deed ≤ 6 := by unfold addOf; split <;> (try split) <;> (try split) <;> omega
  clear e his h5
  generalize hc : encode r.key.data.toList = c at HE hl
  have HC := Lib.hid hc
  clear hc
  go_enter Try.func13, Try.ntmps13
  go_wp2_with fail
  refine (is_any r _).mono ?_
  rintro e w1 ⟨rfl, hb⟩
  rw [HI.out]
  have hblk := (req_box r w 31).below hb (by simp)
  have hbel := below_trans (below_box w _) hb
  have hsz := hblk.lt
  obtain ⟨h0, h4⟩ : w1.cell? ⟨w.heap.size, 0, none⟩ = some (.int .i64 r.deed) ∧ w1.cell? ⟨w.heap.size, 4, none⟩ = some (.string r.key) := ⟨hblk.cell 0, hblk.cell 4⟩
  clear hb
  go_wp2_with fail
  refine (encode_any r.key _ hk).mono ?_
  rintro e w2 ⟨rfl, hb2⟩
  rw [HC.out]
  have hblk2 := hblk.below hb2 hsz
  have hbel2 := below_trans hbel hb2
  have hsz2 := hblk2.lt
  have h02 : w2.cell? ⟨w.heap.size, 0, none⟩ = some (.int .i64 r.deed) := hblk2.cell 0
  clear hb2 hblk hbel hsz h0 h4
  have s1 : IntKind.i64.wrap (4 * (c.length : Int)) = 4 * (c.length : Int) := IntWalk.i64_in _ (by omega)
  have s2 : IntKind.i64.wrap (4 * (c.length : Int) + 3) = 4 * (c.length : Int) + 3 := IntWalk.i64_in _ (by omega)
  have s3 : IntKind.i64.wrap (4 * (c.length : Int) + 3 + addOf r.deed) = 4 * (c.length : Int) + 3 + addOf r.deed := IntWalk.i64_in _ (by omega)
  go_wp2_with fail
  go_region_held3 (fun w' => w'.cell? ⟨w.heap.size, 0, none⟩ = some (.int .i64 r.deed)) (first | go_keep | exact hq)
      (first | (go_at_call 23; refine (adds_any _).mono ?_; rintro e w3 ⟨rfl, hm, hb⟩; have hlk := adds_lookup1 (b := w2.heap.size) hm r.deed; have hq := (hb.cell (p := ⟨w.heap.size, 0, none⟩) (by simpa using hsz2)).trans h02))
  go_wp2
  go_ret
  exact ⟨ret_int (by rw [HE.out]), hbel2.drew.trans (hb.mono (by simp; omega))⟩

theorem way_any (r : Req) (w : World) : Calls Try.prog 13 #[r.v] w (IntEnd (wayOf r) w) := by
  cases his : isB r with
  | false => exact way_no r w his
  | true =>
    by_cases h5 : r.deed = 5
    · exact way_scan r w his h5
    · exact way_key r w his h5
end Go.Proofs.Ytocmmcbhonhgnaa
