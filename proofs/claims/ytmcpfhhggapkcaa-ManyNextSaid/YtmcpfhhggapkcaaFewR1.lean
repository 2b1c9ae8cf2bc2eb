/-
  Layer 7: the reference row.
-/
import Derived.Test.YtmcpfhhggapkcaaFewL2
namespace Go.Proofs.Ytmcpfhhggapkcaa
open Go.RowKit Go.Shelf
set_option linter.unusedVariables false
set_option linter.unusedSimpArgs false

def refIs (f : Kids) : List Value := (List.range 256).map fun b => .bool (f b).isSome
def refRs (rs : Nat → Int × Int) : List Value := ((List.range 256).map rs).flatMap rrow
def refCells (room : Int) (f : Kids) (rs : Nat → Int × Int) : List Value := .int .i64 room :: (refIs f ++ refRs rs)
theorem refIs_len (f : Kids) : (refIs f).length = 256 := by simp [refIs]
theorem refCells_is (room : Int) (f : Kids) (rs : Nat → Int × Int) {b : Nat} (hb : b < 256) : (refCells room f rs)[1 + b]? = some (.bool (f b).isSome) := by
  unfold refCells
  rw [Nat.add_comm 1 b, List.getElem?_cons_succ, List.getElem?_append_left (by rw [refIs_len]; exact hb)]
  simp [refIs, hb]
theorem refCells_rs (room : Int) (f : Kids) (rs : Nat → Int × Int) {b : Nat} (hb : b < 256) : (refCells room f rs)[257 + b * 2]? = some (.int .i64 (rs b).1) ∧ (refCells room f rs)[257 + b * 2 + 1]? = some (.int .u32 (rs b).2) := by
  obtain ⟨h1, h2⟩ := flatR_at ((List.range 256).map rs) b (rs b) (by simp [hb])
  unfold refCells
  constructor
  · rw [show 257 + b * 2 = (256 + b * 2) + 1 by omega, List.getElem?_cons_succ, List.getElem?_append_right (by rw [refIs_len]; omega), refIs_len, Nat.add_sub_cancel_left]
    exact h1
  · rw [show 257 + b * 2 + 1 = (256 + (b * 2 + 1)) + 1 by omega, List.getElem?_cons_succ, List.getElem?_append_right (by rw [refIs_len]; omega), refIs_len, Nat.add_sub_cancel_left]
    exact h2
theorem refCells_room (room : Int) (f : Kids) (rs : Nat → Int × Int) : (refCells room f rs)[0]? = some (.int .i64 room) := rfl
def setR (rs : Nat → Int × Int) (b : Nat) (r : Int × Int) : Nat → Int × Int := fun x => if x = b then r else rs x
theorem map_set_range {α : Type} (n : Nat) (f : Nat → α) (b : Nat) (v : α) : ((List.range n).map f).set b v = (List.range n).map fun x => if x = b then v else f x := by
  apply List.ext_getElem?
  intro i
  rw [List.getElem?_set]
  by_cases hi : i < n
  · by_cases h : b = i
    · subst h; simp [hi]
    · simp [h, hi, Ne.symm h]
  · by_cases h : b = i
    · subst h; simp [hi]
    · simp [h, hi]
theorem set_is {room : Int} {f f' : Kids} {rs : Nat → Int × Int} {b : Nat} {v : Bool} (hb : b < 256) (h : ∀ x, (f' x).isSome = if x = b then v else (f x).isSome) : (refCells room f rs).set (1 + b) (.bool v) = refCells room f' rs := by
  unfold refCells
  rw [Nat.add_comm 1 b, List.set_cons_succ, List.set_append_left _ _ (by rw [refIs_len]; exact hb)]
  congr 2
  unfold refIs
  rw [map_set_range]
  refine List.map_congr_left fun x _ => ?_
  rw [h x]
  split <;> rfl
theorem flatRset2 : ∀ (l : List (Int × Int)) (b : Nat) (r : Int × Int), ((l.flatMap rrow).set (b * 2) (.int .i64 r.1)).set (b * 2 + 1) (.int .u32 r.2) = (l.set b r).flatMap rrow
  | [], b, r => by simp
  | x :: l, 0, r => by simp [rrow]
  | x :: l, b + 1, r => by
    have ih := flatRset2 l b r
    rw [List.set_cons_succ, List.flatMap_cons, List.flatMap_cons, ← ih, show (b + 1) * 2 = (rrow x).length + b * 2 by simp [rrow]; omega, set_behind, Nat.add_assoc, set_behind]
theorem set_rs {room : Int} {f : Kids} {rs : Nat → Int × Int} {b : Nat} (r : Int × Int) (hb : b < 256) : ((refCells room f rs).set (257 + b * 2) (.int .i64 r.1)).set (257 + b * 2 + 1) (.int .u32 r.2) = refCells room f (setR rs b r) := by
  have h := flatRset2 ((List.range 256).map rs) b r
  rw [map_set_range] at h
  unfold refCells
  rw [show 257 + b * 2 = (256 + b * 2) + 1 by omega, List.set_cons_succ, List.set_cons_succ, show 256 + b * 2 = (refIs f).length + b * 2 by rw [refIs_len], set_behind, Nat.add_assoc, set_behind]
  unfold refRs
  rw [h]
  rfl

/-- The reference row in block g. -/
def RefAt (W : World) (g : Nat) (room : Int) (f : Kids) : Prop := ∃ rs, Blk W g 97 (refCells room f rs).toArray ∧ ∀ b r, b < 256 → f b = some r → rs b = r
theorem RefAt.below {W W' : World} {g : Nat} {room : Int} {f : Kids} (h : RefAt W g room f) (hb : Below W.heap.size W W') : RefAt W' g room f := by
  obtain ⟨o, h1, h2⟩ := h
  exact ⟨o, h1.below hb h1.lt, h2⟩
theorem RefAt.lt {W : World} {g : Nat} {room : Int} {f : Kids} (h : RefAt W g room f) : g < W.heap.size := by
  obtain ⟨o, h1, h2⟩ := h
  exact h1.lt
theorem RefAt.kept {W W' : World} {g : Nat} {row : Option Nat} {room : Int} {f : Kids} (h : RefAt W g room f) (hg : W.grownBy W' row) (hne : some g ≠ row) : RefAt W' g room f := by
  obtain ⟨o, h1, h2⟩ := h
  exact ⟨o, h1.grown hg hne, h2⟩

set_option maxHeartbeats 1600000 in
set_option maxRecDepth 100000 in
theorem rfind (g : Nat) (room : Int) (f : Kids) (b : Nat) (w : World) (h : RefAt w g room f) (hb : b < 256) :
    Calls Try.prog 48 #[.pointer (some ⟨g, 0, none⟩), .int .u8 (b : Int)] w (TwoEnd (optV (f b)) (.bool (f b).isSome) w) := by
  obtain ⟨rs, hg, hrs⟩ := h
  have c1 : w.cell? ⟨g, 1 + b, none⟩ = some (.bool (f b).isSome) := (hg.cell _).trans (by rw [List.getElem?_toArray]; exact refCells_is room f rs hb)
  have c2 : w.cell? ⟨g, 257 + b * 2, none⟩ = some (.int .i64 (rs b).1) := (hg.cell _).trans (by rw [List.getElem?_toArray]; exact (refCells_rs room f rs hb).1)
  have c3 : w.cell? ⟨g, 257 + b * 2 + 1, none⟩ = some (.int .u32 (rs b).2) := (hg.cell _).trans (by rw [List.getElem?_toArray]; exact (refCells_rs room f rs hb).2)
  have hl := hg.lt
  have i1 : (0 : Int) ≤ (b : Int) := by omega
  have i2 : (b : Int) < 256 := by omega
  have i3 : (b : Int) ≤ 255 := by omega
  have HR := Lib.hid (hrs b)
  have HG := Lib.hid hg
  clear hrs hg
  unfold optV
  generalize rs b = r at c2 c3 HR
  cases hf : f b with
  | none =>
    rw [hf] at c1
    simp only [Option.isSome_none, Option.getD_none] at c1 ⊢
    clear HR hf
    go_enter Try.func48, Try.ntmps48
    go_wp2
    refine bodyPost_ret (v := .tuple #[refV (0, 0), .bool false]) (by simp [results, Try.results48, go_sem, *]) rfl ⟨rfl, below_box w _⟩
  | some q =>
    rw [hf] at c1 HR
    obtain rfl := HR.out q hb rfl
    simp only [Option.isSome_some, Option.getD_some] at c1 ⊢
    clear HR hf
    go_enter Try.func48, Try.ntmps48
    go_wp2
    refine bodyPost_ret (v := .tuple #[refV r, .bool true]) (by simp [results, Try.results48, go_sem, *]) rfl ⟨rfl, below_box w _⟩
theorem low_succ (f : Kids) (k : Nat) : (lowK f (k + 1)).length = (lowK f k).length + (if (f k).isSome = true then 1 else 0) := by
  unfold lowK kidsIn
  rw [List.range_succ, List.filterMap_append, List.length_append]
  cases h : f k <;> simp [h]
theorem low_le (f : Kids) (k : Nat) : (lowK f k).length ≤ k := by
  unfold lowK kidsIn
  exact Nat.le_trans (List.length_filterMap_le _ _) (by simp)
theorem low_all (f : Kids) : (lowK f 256).length = cntK f := rfl
set_option maxHeartbeats 1600000 in
set_option maxRecDepth 100000 in
theorem rlen (g : Nat) (room : Int) (f : Kids) (w : World) (h : RefAt w g room f) :
    Calls Try.prog 53 #[.pointer (some ⟨g, 0, none⟩)] w (StayEnd (.int .i64 (cntK f)) w) := by
  obtain ⟨rs, hg, hrs⟩ := h
  have HC : Hid (∀ b : Nat, b < 256 → w.cell? ⟨g, 1 + b, none⟩ = some (.bool (f b).isSome)) := Lib.hid (fun b hb => (hg.cell _).trans (by rw [List.getElem?_toArray]; exact refCells_is room f rs hb))
  have hl := hg.lt
  have HA := Lib.hid (low_all f)
  clear hrs hg
  go_enter Try.func53, Try.ntmps53
  go_wp2
  go_loopw [3, 4] (fun n i wr => ∃ k : Nat, k ≤ 256 ∧ i = .int .i64 k ∧ n = .int .i64 ((lowK f k).length : Int) ∧ wr = w) (fun _ i _ => 256 - (intOf i).toNat)
  case atStart => exact ⟨0, by omega, rfl, rfl, rfl⟩
  case round =>
    obtain ⟨k, hk, rfl, rfl, rfl⟩ := hrel
    have hle := low_le f k
    have hs := low_succ f k
    obtain ⟨c, hc⟩ : ∃ c, (lowK f k).length = c := ⟨_, rfl⟩
    rw [hc] at hle hs ⊢
    have HS := Lib.hid hs
    have HCC := Lib.hid hc
    clear hs hc
    by_cases hlt : k < 256
    · have c1 := HC.out k hlt
      have i1 : (0 : Int) ≤ (k : Int) := by omega
      have i2 : (k : Int) < 256 := by omega
      generalize hi : (f k).isSome = is at c1 HS
      clear hi
      cases is with
      | true =>
        go_wp2
        go_roundw
        case rel => exact ⟨k + 1, by omega, by go_num, by rw [HS.out]; go_num, by first | rfl | trivial⟩
        case measure => simp [intOf]; omega
      | false =>
        go_wp2
        go_roundw
        case rel => exact ⟨k + 1, by omega, by go_num, by rw [HS.out]; simp, by first | rfl | trivial⟩
        case measure => simp [intOf]; omega
    · obtain rfl : k = 256 := by omega
      go_wp2
      go_ret
      exact ⟨by rw [← HA.out, HCC.out]; rfl, rfl⟩
theorem refIs_congr {room : Int} {f f' : Kids} {rs : Nat → Int × Int} (h : ∀ x, x < 256 → (f x).isSome = (f' x).isSome) : refCells room f rs = refCells room f' rs := by
  unfold refCells refIs
  congr 2
  refine List.map_congr_left fun x hx => ?_
  rw [h x (List.mem_range.1 hx)]
theorem ref_wrote {w : World} {g : Nat} {room : Int} {f : Kids} {rs : Nat → Int × Int} {b : Nat} (r : Int × Int) (hg : Blk w g 97 (refCells room f rs).toArray) (hb : b < 256) :
    Blk ((w.setCell ⟨g, 257 + b * 2, none⟩ (.int .i64 r.1)).setCell ⟨g, 257 + b * 2 + 1, none⟩ (.int .u32 r.2)) g 97 (refCells room f (setR rs b r)).toArray := by
  have h := (hg.set_ (257 + b * 2) (.int .i64 r.1)).set_ (257 + b * 2 + 1) (.int .u32 r.2)
  rw [List.setIfInBounds_toArray, List.setIfInBounds_toArray, set_rs r hb] at h
  exact h
theorem ref_marked {w : World} {g : Nat} {room : Int} {f f' : Kids} {rs : Nat → Int × Int} {b : Nat} {v : Bool} (hg : Blk w g 97 (refCells room f rs).toArray) (hb : b < 256) (h : ∀ x, (f' x).isSome = if x = b then v else (f x).isSome) :
    Blk (w.setCell ⟨g, 1 + b, none⟩ (.bool v)) g 97 (refCells room f' rs).toArray := by
  have h2 := hg.set_ (1 + b) (.bool v)
  rw [List.setIfInBounds_toArray, set_is hb h] at h2
  exact h2
theorem setR_law {f : Kids} {rs : Nat → Int × Int} (h : ∀ b r, b < 256 → f b = some r → rs b = r) (b : Nat) (r : Int × Int) : ∀ x q, x < 256 → setK f b (some r) x = some q → setR rs b r x = q := by
  intro x q hx hq
  unfold setK at hq
  unfold setR
  by_cases hxb : x = b
  · rw [if_pos hxb] at hq ⊢; injection hq
  · rw [if_neg hxb] at hq ⊢; exact h x q hx hq
theorem grown_refl (w : World) (g : Nat) : w.grownBy w (some g) := ⟨rfl, rfl, rfl, Nat.le_refl _, fun _ _ _ => rfl⟩
theorem RefAt.far {W : World} {g : Nat} {room : Int} {f : Kids} (h : RefAt W g room f) {p : Addr} (hp : g ≠ p.block) (u : Value) : RefAt (W.setCell p u) g room f := by
  obtain ⟨rs, h1, h2⟩ := h
  exact ⟨rs, h1.far hp u, h2⟩
theorem RefAt.alloc {W : World} {g : Nat} {room : Int} {f : Kids} (h : RefAt W g room f) (o : Obj) : RefAt (W.alloc o) g room f := by
  obtain ⟨rs, h1, h2⟩ := h
  exact ⟨rs, h1.alloc o, h2⟩
def RefEnd (v : Value) (g : Nat) (room : Int) (f : Kids) (w : World) (e : Ending) (w' : World) : Prop := e = .returned v ∧ RefAt w' g room f ∧ w.grownBy w' (some g)
set_option maxHeartbeats 1600000 in
set_option maxRecDepth 100000 in
theorem rturn (g : Nat) (room : Int) (f : Kids) (b : Nat) (r : Int × Int) (w : World) (h : RefAt w g room f) (hb : b < 256) :
    Calls Try.prog 49 #[.pointer (some ⟨g, 0, none⟩), .int .u8 (b : Int), refV r] w (RefEnd (.int .i64 (turnK f b r).1) g room (turnK f b r).2 w) := by
  obtain ⟨rs, hg, hrs⟩ := h
  have c1 : w.cell? ⟨g, 1 + b, none⟩ = some (.bool (f b).isSome) := (hg.cell _).trans (by rw [List.getElem?_toArray]; exact refCells_is room f rs hb)
  have c2 : w.cell? ⟨g, 257 + b * 2, none⟩ = some (.int .i64 (rs b).1) := (hg.cell _).trans (by rw [List.getElem?_toArray]; exact (refCells_rs room f rs hb).1)
  have c3 : w.cell? ⟨g, 257 + b * 2 + 1, none⟩ = some (.int .u32 (rs b).2) := (hg.cell _).trans (by rw [List.getElem?_toArray]; exact (refCells_rs room f rs hb).2)
  have hl := hg.lt
  have f2 := hg.frozen (257 + b * 2)
  have f3 := hg.frozen (257 + b * 2 + 1)
  have i1 : (0 : Int) ≤ (b : Int) := by omega
  have i2 : (b : Int) < 256 := by omega
  have i3 : (b : Int) ≤ 255 := by omega
  have HG := Lib.hid (And.intro hg hrs)
  clear hrs hg
  unfold turnK
  generalize hs : (f b).isSome = is at c1
  have HS := Lib.hid hs
  clear hs
  cases is with
  | false =>
    rw [if_neg (by simp)]
    go_enter Try.func49, Try.ntmps49
    go_wp2
    go_ret
    exact ⟨rfl, ⟨rs, HG.out.1.alloc _, HG.out.2⟩, World.grownBy_alloc w _ _⟩
  | true =>
    rw [if_pos rfl]
    go_enter Try.func49, Try.ntmps49
    have hblk := ((ref_wrote r HG.out.1 hb).alloc (.cells #[.int .i64 r.1, .int .u32 r.2] 31)).drew
    have hgr := grown_drew (grown_trans (grown_setCell (grown_setCell (grown_refl w g) (257 + b * 2) (.int .i64 r.1)) (257 + b * 2 + 1) (.int .u32 r.2)) (grown_alloc _ g (.cells #[.int .i64 r.1, .int .u32 r.2] 31)))
    have HW := Lib.hid (And.intro hblk hgr)
    clear hblk hgr
    go_wp2_with fail
    go_region
    all_goals
      go_wp2
      go_ret
      refine ⟨rfl, ⟨setR rs b r, ?_, setR_law HG.out.2 b r⟩, HW.out.2⟩
      rw [refIs_congr (f' := f) (fun x _ => by unfold setK; by_cases hx : x = b; subst hx; rw [if_pos rfl, HS.out]; rfl; rw [if_neg hx])]
      exact HW.out.1
set_option maxHeartbeats 1600000 in
set_option maxRecDepth 100000 in
theorem rput (g : Nat) (room : Int) (f : Kids) (b : Nat) (r : Int × Int) (w : World) (h : RefAt w g room f) (hb : b < 256) :
    Calls Try.prog 52 #[.pointer (some ⟨g, 0, none⟩), .int .u8 (b : Int), refV r] w (RefEnd (.int .i64 (putK room f b r).1) g room (putK room f b r).2 w) := by
  obtain ⟨rs, hg, hrs⟩ := h
  have c0 : w.cell? ⟨g, 0, none⟩ = some (.int .i64 room) := (hg.cell _).trans (by rw [List.getElem?_toArray]; exact refCells_room room f rs)
  have c1 : w.cell? ⟨g, 1 + b, none⟩ = some (.bool (f b).isSome) := (hg.cell _).trans (by rw [List.getElem?_toArray]; exact refCells_is room f rs hb)
  have c2 : w.cell? ⟨g, 257 + b * 2, none⟩ = some (.int .i64 (rs b).1) := (hg.cell _).trans (by rw [List.getElem?_toArray]; exact (refCells_rs room f rs hb).1)
  have c3 : w.cell? ⟨g, 257 + b * 2 + 1, none⟩ = some (.int .u32 (rs b).2) := (hg.cell _).trans (by rw [List.getElem?_toArray]; exact (refCells_rs room f rs hb).2)
  have hl := hg.lt
  have f1 := hg.frozen (1 + b)
  have f2 := hg.frozen (257 + b * 2)
  have f3 := hg.frozen (257 + b * 2 + 1)
  have i1 : (0 : Int) ≤ (b : Int) := by omega
  have i2 : (b : Int) < 256 := by omega
  have i3 : (b : Int) ≤ 255 := by omega
  have HG := Lib.hid (And.intro hg hrs)
  clear hrs hg
  unfold putK
  obtain ⟨c, hc⟩ : ∃ c, cntK f = c := ⟨_, rfl⟩
  have hL : ∀ V, RefAt V g room f → Calls Try.prog 53 #[.pointer (some ⟨g, 0, none⟩)] V (StayEnd (.int .i64 (c : Int)) V) := fun V h => by rw [← hc]; exact rlen g room f V h
  have hR0 : RefAt (w.alloc (.cells #[.int .i64 r.1, .int .u32 r.2] 31)).drew g room f := ⟨rs, (HG.out.1.alloc _).drew, HG.out.2⟩
  have HL := Lib.hid (hL _ hR0)
  have c00 : (w.alloc (.cells #[.int .i64 r.1, .int .u32 r.2] 31)).drew.cell? ⟨g, 0, none⟩ = some (.int .i64 room) := (World.cell?_alloc_lt w _ ⟨g, 0, none⟩ hl).trans c0
  clear hL hR0
  rw [hc]
  clear hc
  generalize hs : (f b).isSome = is at c1
  have HS := Lib.hid hs
  clear hs
  cases is with
  | true =>
    rw [if_pos rfl]
    go_enter Try.func52, Try.ntmps52
    go_wp2
    go_ret
    exact ⟨rfl, ⟨rs, HG.out.1.alloc _, HG.out.2⟩, World.grownBy_alloc w _ _⟩
  | false =>
    rw [if_neg (by simp)]
    by_cases hroom : (c : Int) = room
    · rw [if_pos hroom]
      have hrb : ((c : Int) == room) = true := beq_iff_eq.2 hroom
      clear hroom
      go_enter Try.func52, Try.ntmps52
      go_wp2_with fail
      go_region_held3 (fun V => V.cell? ⟨g, 0, none⟩ = some (.int .i64 room)) (first | exact c00 | go_keep)
        (first | (go_at_call 53; refine HL.out.mono ?_; rintro e wn ⟨rfl, rfl⟩))
      all_goals
        go_wp2
        go_ret
        exact ⟨rfl, ⟨rs, (HG.out.1.alloc _).drew, HG.out.2⟩, grown_drew (World.grownBy_alloc w _ _)⟩
    · rw [if_neg hroom]
      have hblk := (((ref_wrote r (ref_marked (f' := setK f b (some r)) (v := true) HG.out.1 hb (fun x => by unfold setK; by_cases hx : x = b; rw [if_pos hx, if_pos hx]; rfl; rw [if_neg hx, if_neg hx])) hb).alloc (.cells #[.int .i64 r.1, .int .u32 r.2] 31)).drew).drew
      have hgr := grown_drew (grown_drew (grown_trans (grown_setCell (grown_setCell (grown_setCell (grown_refl w g) (1 + b) (.bool true)) (257 + b * 2) (.int .i64 r.1)) (257 + b * 2 + 1) (.int .u32 r.2)) (grown_alloc _ g (.cells #[.int .i64 r.1, .int .u32 r.2] 31))))
      have HW := Lib.hid (And.intro hblk hgr)
      clear hblk hgr
      have hrb : ((c : Int) == room) = false := beq_eq_false_iff_ne.2 hroom
      clear hroom
      go_enter Try.func52, Try.ntmps52
      go_wp2_with fail
      go_region_held3 (fun V => V.cell? ⟨g, 0, none⟩ = some (.int .i64 room)) (first | exact c00 | go_keep)
        (first | (go_at_call 53; refine HL.out.mono ?_; rintro e wn ⟨rfl, rfl⟩))
      all_goals
        go_wp2_with fail
        go_region
        all_goals
          go_wp2
          go_ret
          refine ⟨rfl, ⟨setR rs b r, HW.out.1, setR_law HG.out.2 b r⟩, HW.out.2⟩
set_option maxHeartbeats 1600000 in
set_option maxRecDepth 100000 in
theorem rtake (g : Nat) (room : Int) (f : Kids) (b : Nat) (w : World) (h : RefAt w g room f) (hb : b < 256) :
    Calls Try.prog 50 #[.pointer (some ⟨g, 0, none⟩), .int .u8 (b : Int)] w (RefEnd (.tuple #[refV (takeK f b).1.1, .int .i64 (takeK f b).1.2]) g room (takeK f b).2 w) := by
  have hl := h.lt
  have hbx := below_box w (.cells #[.int .i64 0, .int .u32 0] 31)
  have h1 := h.below hbx
  have hF := rfind g room f b _ h1 hb
  have H0 := Lib.hid (And.intro h1 hbx)
  have hr := Blk.new w 31 #[.int .i64 0, .int .u32 0]
  have HR := Lib.hid hr
  clear h h1 hbx hr
  have i1 : (0 : Int) ≤ (b : Int) := by omega
  have i2 : (b : Int) < 256 := by omega
  have i3 : (b : Int) ≤ 255 := by omega
  unfold takeK
  cases hf : f b with
  | none =>
    dsimp only
    rw [hf] at hF
    unfold optV at hF
    simp only [Option.isSome_none, Option.getD_none] at hF
    have HF := Lib.hid hF
    clear hF hf
    go_enter Try.func50, Try.ntmps50
    go_wp2_with fail
    refine HF.out.mono ?_
    rintro e w2 ⟨rfl, hb2⟩
    have hr2 := HR.out.below hb2 HR.out.lt
    have hR2 := H0.out.1.below hb2
    have hB2 := H0.out.2.trans (hb2.mono H0.out.2.size)
    have HH := Lib.hid (And.intro hr2 (And.intro hR2 hB2))
    have e0 := hr2.cell 0
    have e1 := hr2.cell 1
    have g0 := hr2.frozen 0
    have g1 := hr2.frozen 1
    have l0 := hr2.lt
    simp at e0 e1
    clear hr2 hR2 hB2 hb2 HF
    have hrn := ((HH.out.1.set_ 0 (.int .i64 0)).set_ 1 (.int .u32 0)).alloc (.cells #[.int .i64 0, .int .u32 0] 31)
    have hRn := ((HH.out.2.1.far (p := ⟨w.heap.size, 0, none⟩) (by simp; omega) (.int .i64 0)).far (p := ⟨w.heap.size, 1, none⟩) (by simp; omega) (.int .u32 0)).alloc (.cells #[.int .i64 0, .int .u32 0] 31)
    have hBn0 := (HH.out.2.2.setCell (p := ⟨w.heap.size, 0, none⟩) (Nat.le_refl _) (.int .i64 0)).setCell (p := ⟨w.heap.size, 1, none⟩) (Nat.le_refl _) (.int .u32 0)
    have hBn := hBn0.alloc hBn0.size (.cells #[.int .i64 0, .int .u32 0] 31)
    have HN := Lib.hid (And.intro hRn hBn)
    have q0 := hrn.cell 0
    have q1 := hrn.cell 1
    simp at q0 q1
    clear hrn hRn hBn0 hBn
    go_wp2_with fail
    refine bodyPost_ret (v := .tuple #[refV (0, 0), .int .i64 5]) (by simp [results, Try.results50, go_sem, *]) rfl ⟨rfl, HN.out.1, below_grown (g := g) HN.out.2 g⟩
  | some q =>
    dsimp only
    rw [hf] at hF
    unfold optV at hF
    simp only [Option.isSome_some, Option.getD_some] at hF
    have HF := Lib.hid hF
    have HFB := Lib.hid hf
    clear hF hf
    go_enter Try.func50, Try.ntmps50
    go_wp2_with fail
    refine HF.out.mono ?_
    rintro e w2 ⟨rfl, hb2⟩
    have hr2 := HR.out.below hb2 HR.out.lt
    have hR2 := H0.out.1.below hb2
    have hB2 := H0.out.2.trans (hb2.mono H0.out.2.size)
    have HH := Lib.hid (And.intro hr2 (And.intro hR2 hB2))
    have e0 := hr2.cell 0
    have e1 := hr2.cell 1
    have g0 := hr2.frozen 0
    have g1 := hr2.frozen 1
    have l0 := hr2.lt
    obtain ⟨rs, hg, hrs⟩ := hR2
    have c1 : w2.cell? ⟨g, 1 + b, none⟩ = some (.bool (f b).isSome) := (hg.cell _).trans (by rw [List.getElem?_toArray]; exact refCells_is room f rs hb)
    have f1 := hg.frozen (1 + b)
    have l1 := hg.lt
    simp at e0 e1
    have hm := ref_marked (f' := setK f b none) (v := false) hg hb (fun x => by unfold setK; by_cases hx : x = b; rw [if_pos hx, if_pos hx]; rfl; rw [if_neg hx, if_neg hx])
    have hrm := hr2.far (p := ⟨g, 1 + b, none⟩) (by simp; omega) (.bool false)
    have hrn := ((hrm.set_ 0 (.int .i64 q.1)).set_ 1 (.int .u32 q.2)).alloc (.cells #[.int .i64 q.1, .int .u32 q.2] 31)
    have hRn := ((hm.far (p := ⟨w.heap.size, 0, none⟩) (by simp; omega) (.int .i64 q.1)).far (p := ⟨w.heap.size, 1, none⟩) (by simp; omega) (.int .u32 q.2)).alloc (.cells #[.int .i64 q.1, .int .u32 q.2] 31)
    have hBn0 := grown_setCell (below_grown (g := g) hB2 g) (1 + b) (.bool false)
    have hgo : ∀ {V : World} (i : Nat) (u : Value), w.grownBy V (some g) → w.grownBy (V.setCell ⟨w.heap.size, i, none⟩ u) (some g) := fun {V} i u h => ⟨h.os, h.tape, h.output, by simpa [World.setCell] using h.size, fun k hk hne => (Below.heap_setCell V ⟨w.heap.size, i, none⟩ u k (by simp; omega)).trans (h.block k hk hne)⟩
    have hBn := grown_trans (hgo 1 (.int .u32 q.2) (hgo 0 (.int .i64 q.1) hBn0)) (grown_alloc _ g (.cells #[.int .i64 q.1, .int .u32 q.2] 31))
    have hks : ∀ x r, x < 256 → setK f b none x = some r → rs x = r := by
      intro x r hx hr
      unfold setK at hr
      by_cases hxb : x = b
      · rw [if_pos hxb] at hr; cases hr
      · rw [if_neg hxb] at hr; exact hrs x r hx hr
    have HN := Lib.hid (And.intro hRn (And.intro hks hBn))
    have q0 := hrn.cell 0
    have q1 := hrn.cell 1
    simp at q0 q1
    rw [HFB.out] at c1
    simp only [Option.isSome_some] at c1
    have m1 : w.heap.size ≠ g := by omega
    clear hr2 hB2 hb2 HF hg hrs hm hrm hrn hRn hBn0 hgo hBn hks
    go_wp2_with fail
    refine bodyPost_ret (v := .tuple #[refV q, .int .i64 0]) (by simp [results, Try.results50, go_sem, *]) rfl ⟨rfl, ⟨rs, HN.out.1, HN.out.2.1⟩, HN.out.2.2⟩
end Go.Proofs.Ytmcpfhhggapkcaa
