/-
  Walks, layer 7: New, Pick, row.
-/
import Derived.Test.YtmcpfhhggapkcaaFewK
namespace Go.Proofs.Ytmcpfhhggapkcaa
open Go.RowKit
set_option linter.unusedVariables false
set_option linter.unusedSimpArgs false

theorem FewAt.drewN {W : World} {g : Nat} {room : Int} {f : Kids} (h : FewAt W g room f) (n : Nat) : FewAt (W.drewN n) g room f := h
theorem FewAt.drew {W : World} {g : Nat} {room : Int} {f : Kids} (h : FewAt W g room f) : FewAt W.drew g room f := h
theorem FewAt.alloc {W : World} {g : Nat} {room : Int} {f : Kids} (h : FewAt W g room f) (o : Obj) : FewAt (W.alloc o) g room f := h.below (below_box W o)
def noKids : Kids := fun _ => none
def emptyO (room : Int) : FewO := ⟨List.replicate 16 0, List.replicate 16 (0, 0), 0, room⟩
theorem empty_ok (room : Int) (h0 : 0 < room) (h1 : room ≤ 16) : (emptyO room).fits := by
  refine ⟨⟨by simp [emptyO], by simp [emptyO], by simp [emptyO], ?_⟩, h0, h1, by simp [emptyO]; omega⟩
  intro b hb
  simp [emptyO] at hb
  omega
theorem kids_no : kidsOf noKids = [] := by
  have : ∀ l : List Nat, kidsIn noKids l = [] := by
    intro l
    induction l with
    | nil => rfl
    | cons x l ih => unfold kidsIn at ih ⊢; rw [List.filterMap_cons]; simp [noKids]
  exact this _
theorem empty_rep (room : Int) : (emptyO room).rep noKids := ⟨by rw [kids_no]; rfl, by rw [kids_no]; rfl, by rw [kids_no]; rfl⟩
/-- What New comes to: a new row without kids. -/
def NewEnd (room : Int) (w : World) (e : Ending) (w' : World) : Prop := ∃ g, e = .returned (.tuple #[.pointer (some ⟨g, 0, none⟩), .int .i64 0]) ∧ FewAt w' g room noKids ∧ w.heap.size ≤ g ∧ Below w.heap.size w w'
theorem new_cells (room : Int) (w : World) : FewAt (w.alloc (.cells (emptyO room).cells.toArray 66)) w.heap.size room noKids ↔ (0 < room ∧ room ≤ 16) ∨ FewAt (w.alloc (.cells (emptyO room).cells.toArray 66)) w.heap.size room noKids := by
  constructor
  · exact fun h => .inr h
  · rintro (⟨h0, h1⟩ | h)
    · exact ⟨emptyO room, empty_ok room h0 h1, empty_rep room, rfl, Blk.new _ _ _⟩
    · exact h
theorem new_4 (w : World) : Calls Try.prog 24 #[.int .i64 4] w (NewEnd 4 w) := by
  have h := (new_cells 4 w).2 (.inl ⟨by decide, by decide⟩)
  have hb := below_box w (.cells (emptyO 4).cells.toArray 66)
  have H := Lib.hid (And.intro h hb)
  clear h hb
  go_enter Try.func24, Try.ntmps24
  go_wp2
  go_ret2
  exact ⟨w.heap.size, rfl, H.out.1, Nat.le_refl _, H.out.2⟩
theorem new_16 (w : World) : Calls Try.prog 24 #[.int .i64 16] w (NewEnd 16 w) := by
  have h := (new_cells 16 w).2 (.inl ⟨by decide, by decide⟩)
  have hb := below_box w (.cells (emptyO 16).cells.toArray 66)
  have H := Lib.hid (And.intro h hb)
  clear h hb
  go_enter Try.func24, Try.ntmps24
  go_wp2
  go_ret2
  exact ⟨w.heap.size, rfl, H.out.1, Nat.le_refl _, H.out.2⟩
theorem new_no (room : Int) (w : World) (h4 : room ≠ 4) (h16 : room ≠ 16) : Calls Try.prog 24 #[.int .i64 room] w (StayEnd (.tuple #[.pointer none, .int .i64 2]) w) := by
  have b4 : (room != 4) = true := by rw [bne_iff_ne]; exact h4
  have b16 : (room != 16) = true := by rw [bne_iff_ne]; exact h16
  clear h4 h16
  go_enter Try.func24, Try.ntmps24
  go_wp2
  go_ret2
  exact ⟨rfl, rfl⟩

def pickM (n : Int) (len : Int) : Int := if len < 1 then 0 else if n.tmod len < 0 then n.tmod len + len else n.tmod len
theorem pick_in {n len : Int} (h : 1 ≤ len) : 0 ≤ pickM n len ∧ pickM n len < len := by
  unfold pickM
  rw [if_neg (by omega)]
  have h1 := Int.tmod_lt_of_pos n (show 0 < len by omega)
  have h2 : -len < n.tmod len := by
    have := Int.lt_tmod_of_pos n (show 0 < len by omega)
    simpa using this
  split <;> omega
theorem pick_any (n len : Int) (w : World) (h1 : -9223372036854775808 ≤ n) (h2 : n ≤ 9223372036854775807) (h3 : 0 ≤ len) (h4 : len ≤ 9223372036854775807) : Calls Try.prog 12 #[.int .i64 n, .int .i64 len] w (StayEnd (.int .i64 (pickM n len)) w) := by
  by_cases hl : len < 1
  · have hm : pickM n len = 0 := by unfold pickM; rw [if_pos hl]
    have HM := Lib.hid hm
    clear hm
    go_enter Try.func12, Try.ntmps12
    go_wp2
    go_ret
    exact ⟨ret_int HM.out.symm, rfl⟩
  · have hl1 : 1 ≤ len := by omega
    have hz : (len == 0) = false := beq_eq_false_iff_ne.2 (by omega)
    have hz2 : ¬ len = 0 := by omega
    have h5 := Int.tmod_lt_of_pos n (show 0 < len by omega)
    have h6 : -len < n.tmod len := by
      have := Int.lt_tmod_of_pos n (show 0 < len by omega)
      simpa using this
    obtain ⟨r, hr⟩ : ∃ r, n.tmod len = r := ⟨_, rfl⟩
    have hm : pickM n len = if r < 0 then r + len else r := by unfold pickM; rw [if_neg hl, hr]
    rw [hr] at h5 h6
    have HM := Lib.hid hm
    clear hm hl h1 h2
    by_cases hr0 : r < 0
    · have HM2 := Lib.hid (HM.out.trans (if_pos hr0))
      go_enter Try.func12, Try.ntmps12
      go_wp2
      go_ret
      exact ⟨ret_int HM2.out.symm, rfl⟩
    · have HM2 := Lib.hid (HM.out.trans (if_neg hr0))
      have hr1 : 0 ≤ r := by omega
      clear hr0
      go_enter Try.func12, Try.ntmps12
      go_wp2
      go_ret
      exact ⟨ret_int HM2.out.symm, rfl⟩

def nrow (b : Nat) : List Value := [.int .u8 (b : Int)]
theorem nrow_len (b : Nat) : (nrow b).length = 1 := rfl
/-- A slice of bytes: a byte at an index. -/
theorem byte_at {w : World} {B k : Nat} {A : Option Addr} {l : List Nat} (h : Reads w B 1 A l.length (l.flatMap nrow)) (hk : k < l.length) : ∃ ad, A = some ad ∧ ad.block < B ∧ w.cell? (ad.add k) = some (.int .u8 (l[k] : Int)) := by
  obtain ⟨ad, u, h1, h2, h3, h4⟩ := h.at_ hk
  have hu : (l.flatMap nrow)[k]? = some (.int .u8 (l[k] : Int)) := by
    have : l.flatMap nrow = l.map (fun (b : Nat) => Value.int .u8 (b : Int)) := by
      clear h h3 hk
      induction l with
      | nil => rfl
      | cons x l ih => simp [nrow, ih]
    rw [this, List.getElem?_map, List.getElem?_eq_getElem hk]; rfl
  rw [hu] at h3
  injection h3 with h3
  exact ⟨ad, h1, h2, by rw [h3]; exact h4⟩
/-- row's kids and errors. -/
def rowStep (s : Kids × Nat) (b : Nat) : Kids × Nat := ((putK 16 s.1 b ((b : Int), 1)).2, if (putK 16 s.1 b ((b : Int), 1)).1 = 0 then s.2 else s.2 + 1)
def rowK (l : List Nat) : Kids × Nat := l.foldl rowStep (noKids, 0)
theorem rowK_snoc (l : List Nat) (b : Nat) : rowK (l ++ [b]) = rowStep (rowK l) b := by unfold rowK; rw [List.foldl_append]; rfl
theorem rowK_bad : ∀ (l : List Nat), (rowK l).2 ≤ l.length := by
  intro l
  have : ∀ (l : List Nat) (s : Kids × Nat), (l.foldl rowStep s).2 ≤ s.2 + l.length := by
    intro l
    induction l with
    | nil => intro s; simp
    | cons x l ih =>
      intro s
      have h := ih (rowStep s x)
      have h2 : (rowStep s x).2 ≤ s.2 + 1 := by unfold rowStep; dsimp only; split <;> omega
      simp only [List.foldl_cons, List.length_cons]
      omega
  have h := this l (noKids, 0)
  simpa [rowK] using h
def RowEnd (l : List Nat) (w : World) (e : Ending) (w' : World) : Prop := ∃ g, e = .returned (.tuple #[.pointer (some ⟨g, 0, none⟩), .int .i64 ((rowK l).2 : Int)]) ∧ FewAt w' g 16 (rowK l).1 ∧ w.heap.size ≤ g ∧ Below w.heap.size w w'
set_option maxHeartbeats 1600000 in
set_option maxRecDepth 100000 in
theorem row_any (l : List Nat) (A : Option Addr) (cap : Nat) (w : World) (hA : Reads w w.heap.size 1 A l.length (l.flatMap nrow)) (hl : ∀ b ∈ l, b < 256) (hlen : l.length ≤ 9223372036854775807) :
    Calls Try.prog 9 #[.slice A l.length cap] w (RowEnd l w) := by
  have HA := Lib.hid hA
  have HL := Lib.hid hl
  have HBAD := Lib.hid (fun k => rowK_bad (l.take k))
  clear hA hl
  go_enter Try.func9, Try.ntmps9
  go_wp2_with fail
  refine (new_16 w).mono ?_
  rintro e w1 ⟨g, rfl, hf, hg, hb⟩
  have H0 := Lib.hid (And.intro hf hb)
  clear hf hb
  go_wp2_with fail
  go_loopw [6, 7] (fun s i wr => ∃ k : Nat, k ≤ l.length ∧ i = .int .i64 k ∧ s = .int .i64 ((rowK (l.take k)).2 : Int) ∧ Hid (FewAt wr g 16 (rowK (l.take k)).1 ∧ Below w.heap.size w wr)) (fun _ i _ => l.length - (intOf i).toNat)
  case atStart => exact ⟨0, Nat.zero_le _, rfl, rfl, H0⟩
  case round =>
    obtain ⟨k, hk, rfl, rfl, HW⟩ := hrel
    by_cases hlt : k < l.length
    · obtain ⟨ad, rfl, hab, hc⟩ := byte_at HA.out hlt
      have c0 : wr.cell? (ad.add k) = some (.int .u8 (l[k] : Int)) := (HW.out.2.cell (p := ad.add k) (by rw [block_of_add]; exact hab)).trans hc
      have hb256 := HL.out _ (List.getElem_mem hlt)
      have htake : l.take (k + 1) = l.take k ++ [l[k]] := List.take_succ_eq_append_getElem hlt
      generalize l[k] = b at c0 hb256 htake
      have hbi : (b : Int) ≤ 255 := by omega
      have hb0 : (0 : Int) ≤ (b : Int) := by omega
      have i1 : (0 : Int) ≤ (k : Int) := by omega
      have i2 : (k : Int) < (l.length : Int) := by omega
      have hbad := HBAD.out k
      rw [List.length_take] at hbad
      obtain ⟨bd, hbd⟩ : ∃ bd, (rowK (l.take k)).2 = bd := ⟨_, rfl⟩
      rw [hbd] at hbad ⊢
      have HS : Hid (rowK (l.take (k + 1)) = rowStep (rowK (l.take k)) b) := Lib.hid (by rw [htake, rowK_snoc])
      have HBD := Lib.hid hbd
      obtain ⟨p, hp⟩ : ∃ p, putK 16 (rowK (l.take k)).1 b ((b : Int), 1) = p := ⟨_, rfl⟩
      have hput : ∀ V, FewAt V g 16 (rowK (l.take k)).1 → Calls Try.prog 10 #[.pointer (some ⟨g, 0, none⟩), .int .u8 (b : Int), .agg #[.int .i64 (b : Int), .int .u32 1]] V (FewEnd (.int .i64 (putK 16 (rowK (l.take k)).1 b ((b : Int), 1)).1) g 16 (putK 16 (rowK (l.take k)).1 b ((b : Int), 1)).2 V) := fun V h => Put_k g 16 _ b ((b : Int), 1) V h hb256
      have sw : IntKind.i64.wrap (b : Int) = (b : Int) := IntWalk.i64_in _ (by omega)
      rw [hp] at hput
      have HP := Lib.hid hput
      have HPP := Lib.hid hp
      clear hc htake hput hp hbd
      by_cases hz : p.1 = 0
      · have hzb : (p.1 != 0) = false := by rw [hz]; rfl
        have HZ := Lib.hid hz
        clear hz
        go_wp2_with fail
        go_region_with ((go_at_call 10; refine (HP.out _ HW.out.1.drew).mono ?_; rintro e wn ⟨rfl, hgn, hwn⟩))
        all_goals
          have hbn : Below w.heap.size w wn := HW.out.2.drew.grown hwn HW.out.2.size (fun k e => by cases e; exact hg)
          have HN := Lib.hid (And.intro hgn hbn)
          clear hgn hwn hbn sw
          go_wp2
          go_roundw
          case rel =>
            refine ⟨k + 1, by omega, by go_num, ?_, Lib.hid ⟨?_, HN.out.2⟩⟩
            · rw [HS.out]; unfold rowStep; rw [HPP.out, if_pos HZ.out, HBD.out]
            · rw [HS.out]; unfold rowStep; rw [HPP.out]; exact HN.out.1
          case measure => simp [intOf]; omega
      · have hzb : (p.1 != 0) = true := by rw [bne_iff_ne]; exact hz
        have HZ := Lib.hid hz
        have hbd9 : (bd : Int) ≤ 9223372036854775806 := by omega
        have hbd0 : (0 : Int) ≤ (bd : Int) := by omega
        clear hz
        go_wp2_with fail
        go_region_with ((go_at_call 10; refine (HP.out _ HW.out.1.drew).mono ?_; rintro e wn ⟨rfl, hgn, hwn⟩))
        all_goals
          have hbn : Below w.heap.size w wn := HW.out.2.drew.grown hwn HW.out.2.size (fun k e => by cases e; exact hg)
          have HN := Lib.hid (And.intro hgn hbn)
          clear hgn hwn hbn sw
          go_wp2
          go_roundw
          case rel =>
            refine ⟨k + 1, by omega, by go_num, ?_, Lib.hid ⟨?_, HN.out.2⟩⟩
            · rw [HS.out]; unfold rowStep; rw [HPP.out, if_neg HZ.out, HBD.out]; go_num
            · rw [HS.out]; unfold rowStep; rw [HPP.out]; exact HN.out.1
          case measure => simp [intOf]; omega
    · obtain rfl : k = l.length := by omega
      have hfin := HW.out.1
      rw [List.take_length] at hfin ⊢
      have HF := Lib.hid (And.intro hfin HW.out.2)
      clear hfin
      go_wp2
      go_ret2
      exact ⟨g, rfl, HF.out.1, hg, HF.out.2⟩
end Go.Proofs.Ytmcpfhhggapkcaa
