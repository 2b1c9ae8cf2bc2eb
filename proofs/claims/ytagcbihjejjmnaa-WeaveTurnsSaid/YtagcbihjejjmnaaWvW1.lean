/-
  Layer 23: weave: made, there, Len, Picks, Job, Own.
-/
import Derived.Test.YtagcbihjejjmnaaWvM
namespace Go.Proofs.Ytagcbihjejjmnaa
open Go.RowKit
set_option linter.unusedVariables false
set_option linter.unusedSimpArgs false

/-- A call that leaves the world as it was. -/
def StayW (v : Value) (w : World) (e : Ending) (w' : World) : Prop := e = .returned v ∧ w = w'
theorem made_w {W : World} {B p gl S : Nat} {J : List Jb} {k : Int} {vj : Value} {b : Nat → Nat} {r : Nat → Value} (h : WvAt W B p gl S J k vj b r) : Calls Try.prog 17 #[.pointer (some ⟨p, 0, none⟩)] W (StayW (.bool true) W) := by
  have c0 : _ = some (Value.slice (some ⟨gl, 0, none⟩) S S) := h.pb.cell 0
  have i1 : (0 : Int) < (S : Int) := by have := h.S1; omega
  have i2 : 0 < S := by have := h.S1; omega
  clear h
  go_enter Try.func17, Try.ntmps17
  go_wp2_with fail
  go_ret
  exact ⟨rfl, rfl⟩
theorem made_no (W : World) : Calls Try.prog 17 #[.pointer none] W (StayW (.bool false) W) := by
  go_enter Try.func17, Try.ntmps17
  go_wp2_with fail
  go_ret
  exact ⟨rfl, rfl⟩
theorem there_yes {W : World} {B p gl S : Nat} {J : List Jb} {k : Int} {vj : Value} {b : Nat → Nat} {r : Nat → Value} (h : WvAt W B p gl S J k vj b r) {s : Nat} (hs : s < S) : Calls Try.prog 18 #[.pointer (some ⟨p, 0, none⟩), .int .i64 (s : Nat)] W (StayW (.bool true) W) := by
  have c0 : _ = some (Value.slice (some ⟨gl, 0, none⟩) S S) := h.pb.cell 0
  have i1 : (0 : Int) ≤ (s : Int) := by omega
  have i2 : (s : Int) < (S : Int) := by omega
  clear h
  go_enter Try.func18, Try.ntmps18
  go_wp2_with fail
  go_ret
  exact ⟨rfl, rfl⟩
theorem there_no {W : World} {B p gl S : Nat} {J : List Jb} {k : Int} {vj : Value} {b : Nat → Nat} {r : Nat → Value} (h : WvAt W B p gl S J k vj b r) {s : Int} (hs : s < 0 ∨ (S : Int) ≤ s) : Calls Try.prog 18 #[.pointer (some ⟨p, 0, none⟩), .int .i64 s] W (StayW (.bool false) W) := by
  have c0 : _ = some (Value.slice (some ⟨gl, 0, none⟩) S S) := h.pb.cell 0
  clear h
  by_cases h0 : 0 ≤ s
  · have i1 : (S : Int) ≤ s := by omega
    have i2 : ¬ s < (S : Int) := by omega
    go_enter Try.func18, Try.ntmps18
    go_wp2_with fail
    go_ret
    exact ⟨rfl, rfl⟩
  · have i1 : ¬ s ≥ 0 := by omega
    go_enter Try.func18, Try.ntmps18
    go_wp2_with fail
    go_ret
    exact ⟨rfl, rfl⟩
theorem Len_w {W : World} {B p gl S : Nat} {J : List Jb} {k : Int} {vj : Value} {b : Nat → Nat} {r : Nat → Value} (h : WvAt W B p gl S J k vj b r) : Calls Try.prog 27 #[.pointer (some ⟨p, 0, none⟩)] W (StayW (.int .i64 (J.length : Nat)) W) := by
  obtain ⟨A, c, hv⟩ := h.len
  have hm := made_w h
  have c1 : W.cell? ⟨p, 1, none⟩ = some (Value.slice A J.length c) := by rw [← hv]; exact h.pb.cell 1
  have HM := Lib.hid hm
  clear h hv hm
  go_enter Try.func27, Try.ntmps27
  go_wp2_with fail
  refine HM.out.mono ?_
  rintro e w1 ⟨rfl, rfl⟩
  go_wp2_with fail
  go_ret
  exact ⟨rfl, rfl⟩
theorem Picks_w {W : World} {B p gl S : Nat} {J : List Jb} {k : Int} {vj : Value} {b : Nat → Nat} {r : Nat → Value} (h : WvAt W B p gl S J k vj b r) : Calls Try.prog 13 #[.pointer (some ⟨p, 0, none⟩)] W (StayW (.int .i64 k) W) := by
  have hm := made_w h
  have c2 : _ = some (Value.int .i64 k) := h.pb.cell 2
  have HM := Lib.hid hm
  clear h hm
  go_enter Try.func13, Try.ntmps13
  go_wp2_with fail
  refine HM.out.mono ?_
  rintro e w1 ⟨rfl, rfl⟩
  go_wp2_with fail
  go_ret
  exact ⟨rfl, rfl⟩
theorem Job_yes {W : World} {B p gl S : Nat} {J : List Jb} {k : Int} {vj : Value} {b : Nat → Nat} {r : Nat → Value} (h : WvAt W B p gl S J k vj b r) {i : Nat} (hi : i < J.length) : Calls Try.prog 12 #[.pointer (some ⟨p, 0, none⟩), .int .i64 (i : Nat)] W (StayW (.tuple #[.pointer (some ⟨b i, 0, none⟩), .bool true]) W) := by
  obtain ⟨g, c, hv, hg, hc⟩ := h.job hi
  have hm := made_w h
  have c1 : W.cell? ⟨p, 1, none⟩ = some (Value.slice (some ⟨g, 0, none⟩) J.length c) := by rw [← hv]; exact h.pb.cell 1
  have i1 : (0 : Int) ≤ (i : Int) := by omega
  have i2 : (i : Int) < (J.length : Int) := by omega
  have HM := Lib.hid hm
  clear h hv hm
  go_enter Try.func12, Try.ntmps12
  go_wp2_with fail
  refine HM.out.mono ?_
  rintro e w1 ⟨rfl, rfl⟩
  go_wp2_with fail
  go_ret2
  exact ⟨rfl, rfl⟩
theorem Job_no {W : World} {B p gl S : Nat} {J : List Jb} {k : Int} {vj : Value} {b : Nat → Nat} {r : Nat → Value} (h : WvAt W B p gl S J k vj b r) {i : Int} (hi : i < 0 ∨ (J.length : Int) ≤ i) : Calls Try.prog 12 #[.pointer (some ⟨p, 0, none⟩), .int .i64 i] W (StayW (.tuple #[.pointer none, .bool false]) W) := by
  obtain ⟨A, c, hv⟩ := h.len
  have hm := made_w h
  have c1 : W.cell? ⟨p, 1, none⟩ = some (Value.slice A J.length c) := by rw [← hv]; exact h.pb.cell 1
  have HM := Lib.hid hm
  clear h hv hm
  by_cases h0 : i < 0
  · have i1 : i < 0 := h0
    go_enter Try.func12, Try.ntmps12
    go_wp2_with fail
    refine HM.out.mono ?_
    rintro e w1 ⟨rfl, rfl⟩
    go_wp2_with fail
    go_ret2
    exact ⟨rfl, rfl⟩
  · have i1 : i ≥ (J.length : Int) := by omega
    go_enter Try.func12, Try.ntmps12
    go_wp2_with fail
    refine HM.out.mono ?_
    rintro e w1 ⟨rfl, rfl⟩
    go_wp2_with fail
    go_ret2
    exact ⟨rfl, rfl⟩
theorem Own_yes {W : World} {B p gl S : Nat} {J : List Jb} {k : Int} {vj : Value} {b : Nat → Nat} {r : Nat → Value} (h : WvAt W B p gl S J k vj b r) {s n : Nat} {l : List Nat} (hs : s < S) (hp : pendJ J s = n :: l) : Calls Try.prog 26 #[.pointer (some ⟨p, 0, none⟩), .int .i64 (s : Nat)] W (StayW (.tuple #[.int .i64 (n : Nat), .bool true]) W) := by
  obtain ⟨g, o, c, hv, hg, hc⟩ := h.first hs hp
  have hm := made_w h
  have ht := there_yes h hs
  have c0 : _ = some (Value.slice (some ⟨gl, 0, none⟩) S S) := h.pb.cell 0
  have cs := (h.l.at_ hs).1
  rw [hv] at cs
  have i1 : (0 : Int) ≤ (s : Int) := by omega
  have i2 : (s : Int) < (S : Int) := by omega
  have HM := Lib.hid (And.intro hm ht)
  clear h hv hm ht hp
  have e0 : (((l.length + 1 : Nat) : Int) == 0) = false := by simp; omega
  go_enter Try.func26, Try.ntmps26
  go_wp2_with fail
  refine HM.out.1.mono ?_
  rintro e w1 ⟨rfl, rfl⟩
  go_wp2_with fail
  refine HM.out.2.mono ?_
  rintro e w1 ⟨rfl, rfl⟩
  go_wp2_with fail
  go_ret2
  exact ⟨rfl, rfl⟩
theorem Own_none {W : World} {B p gl S : Nat} {J : List Jb} {k : Int} {vj : Value} {b : Nat → Nat} {r : Nat → Value} (h : WvAt W B p gl S J k vj b r) {s : Nat} (hs : s < S) (hp : pendJ J s = []) : Calls Try.prog 26 #[.pointer (some ⟨p, 0, none⟩), .int .i64 (s : Nat)] W (StayW (.tuple #[.int .i64 0, .bool false]) W) := by
  obtain ⟨A, c, hv⟩ := h.emp hs hp
  have hm := made_w h
  have ht := there_yes h hs
  have c0 : _ = some (Value.slice (some ⟨gl, 0, none⟩) S S) := h.pb.cell 0
  have cs := (h.l.at_ hs).1
  rw [hv] at cs
  have i1 : (0 : Int) ≤ (s : Int) := by omega
  have i2 : (s : Int) < (S : Int) := by omega
  have HM := Lib.hid (And.intro hm ht)
  clear h hv hm ht hp
  go_enter Try.func26, Try.ntmps26
  go_wp2_with fail
  refine HM.out.1.mono ?_
  rintro e w1 ⟨rfl, rfl⟩
  go_wp2_with fail
  refine HM.out.2.mono ?_
  rintro e w1 ⟨rfl, rfl⟩
  go_wp2_with fail
  go_ret2
  exact ⟨rfl, rfl⟩
theorem Own_no {W : World} {B p gl S : Nat} {J : List Jb} {k : Int} {vj : Value} {b : Nat → Nat} {r : Nat → Value} (h : WvAt W B p gl S J k vj b r) {s : Int} (hs : s < 0 ∨ (S : Int) ≤ s) : Calls Try.prog 26 #[.pointer (some ⟨p, 0, none⟩), .int .i64 s] W (StayW (.tuple #[.int .i64 0, .bool false]) W) := by
  have hm := made_w h
  have ht := there_no h hs
  have HM := Lib.hid (And.intro hm ht)
  clear h hm ht hs
  go_enter Try.func26, Try.ntmps26
  go_wp2_with fail
  refine HM.out.1.mono ?_
  rintro e w1 ⟨rfl, rfl⟩
  go_wp2_with fail
  refine HM.out.2.mono ?_
  rintro e w1 ⟨rfl, rfl⟩
  go_wp2_with fail
  go_ret2
  exact ⟨rfl, rfl⟩
end Go.Proofs.Ytagcbihjejjmnaa
