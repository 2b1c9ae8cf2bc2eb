/-
  Layer 7: FewDoes.
-/
import Derived.Test.YtmcpfhhggapkcaaFewD2
import Derived.Test.YtmcpfhhggapkcaaFewR3
namespace Go.Proofs.Ytmcpfhhggapkcaa
open Go.RowKit Go.Shelf
set_option linter.unusedVariables false
set_option linter.unusedSimpArgs false

/-- An operation. -/
structure Ded where
  what : Int
  b : Nat
  from_ : Int
  r : Int × Int
def Ded.row (d : Ded) : List Value := [.int .i64 d.what, .int .u8 (d.b : Int), .int .i64 d.from_, .int .i64 d.r.1, .int .u32 d.r.2]
theorem Ded.row_len (d : Ded) : d.row.length = 5 := rfl
structure Ded.ok (d : Ded) : Prop where
  b : d.b < 256
  lo : -9223372036854775808 ≤ d.what
  hi : d.what ≤ 9223372036854775807
theorem ded_flat : ∀ (l : List Ded) (k j : Nat) (d : Ded) (u : Value), l[k]? = some d → d.row[j]? = some u → (l.flatMap Ded.row)[k * 5 + j]? = some u
  | [], k, j, d, u, h, _ => by simp at h
  | x :: l, 0, j, d, u, h, hu => by
    simp at h; subst h
    rw [Nat.zero_mul, Nat.zero_add, List.flatMap_cons, List.getElem?_append_left (List.getElem?_eq_some_iff.1 hu).1]
    exact hu
  | x :: l, k + 1, j, d, u, h, hu => by
    have ih := ded_flat l k j d u (by simpa using h) hu
    rw [List.flatMap_cons, List.getElem?_append_right (by rw [Ded.row_len]; omega), Ded.row_len, show (k + 1) * 5 + j - 5 = k * 5 + j by omega]
    exact ih
theorem ded_at {w : World} {B k : Nat} {A : Option Addr} {l : List Ded} (h : Reads w B 5 A l.length (l.flatMap Ded.row)) (hk : k < l.length) :
    ∃ ad, A = some ad ∧ ad.block < B ∧ ∀ j u, (l[k]).row[j]? = some u → w.cell? ((ad.add (k * 5)).add j) = some u := by
  obtain ⟨ad, h1, h2, h3⟩ := h.2 (by omega)
  exact ⟨ad, h1, h2, fun j u hu => by rw [add_of_add]; exact h3 _ u (ded_flat l k j _ u (List.getElem?_eq_getElem hk) hu)⟩
theorem ded_cells {w : World} {ad : Addr} {k : Nat} {d : Ded} (h : ∀ j u, d.row[j]? = some u → w.cell? ((ad.add (k * 5)).add j) = some u) :
    w.cell? (ad.add (k * 5)) = some (.int .i64 d.what) ∧ w.cell? ⟨(ad.add (k * 5)).block, (ad.add (k * 5)).off + 1, none⟩ = some (.int .u8 (d.b : Int)) ∧ w.cell? ⟨(ad.add (k * 5)).block, (ad.add (k * 5)).off + 2, none⟩ = some (.int .i64 d.from_) ∧ w.cell? ⟨(ad.add (k * 5)).block, (ad.add (k * 5)).off + 3, none⟩ = some (.int .i64 d.r.1) ∧ w.cell? ⟨(ad.add (k * 5)).block, (ad.add (k * 5)).off + 4, none⟩ = some (.int .u32 d.r.2) :=
  ⟨h 0 _ rfl, h 1 _ rfl, h 2 _ rfl, h 3 _ rfl, h 4 _ rfl⟩
theorem below_two {a b B : Nat} {w w1 w2 : World} (h : Below B w w1) (hB : B ≤ w.heap.size) (ht : Two a b w1 w2) (ha : B ≤ a) (hb : B ≤ b) : Below B w w2 :=
  ⟨ht.os.trans h.os, ht.tape.trans h.tape, ht.output.trans h.output, Nat.le_trans h.size ht.size, fun k hk => (ht.block k (Nat.lt_of_lt_of_le hk (Nat.le_trans hB h.size)) (by omega) (by omega)).trans (h.block k hk)⟩
def RunI (w : World) (gr : Nat) (room : Int) (gk : Nat) (f : Kids) (W : World) : Prop := FewAt W gk room f ∧ RefAt W gr room f ∧ Below w.heap.size w W ∧ w.heap.size ≤ gk
theorem runI_does {w W W' : World} {gr gk gk' : Nat} {room : Int} {f f' : Kids} (h : RunI w gr room gk f W) (hr : w.heap.size ≤ gr) (h1 : FewAt W' gk' room f') (h2 : RefAt W' gr room f') (ht : Two gk gr W W') (hg : gk' = gk ∨ W.heap.size ≤ gk') : RunI w gr room gk' f' W' :=
  ⟨h1, h2, below_two h.2.2.1 (Nat.le_refl _) ht h.2.2.2 hr, by rcases hg with rfl | hg; exact h.2.2.2; exact Nat.le_trans h.2.2.1.size hg⟩
theorem runI_below {w W W' : World} {gr gk : Nat} {room : Int} {f : Kids} (h : RunI w gr room gk f W) (hb : Below W.heap.size W W') : RunI w gr room gk f W' :=
  ⟨h.1.below hb, h.2.1.below hb, h.2.2.1.trans (hb.mono h.2.2.1.size), h.2.2.2⟩

set_option maxHeartbeats 3200000 in
set_option maxRecDepth 100000 in
theorem FewDoes_any (room : Int) (l : List Ded) (A : Option Addr) (cap : Nat) (w : World) (hA : Reads w w.heap.size 5 A l.length (l.flatMap Ded.row)) (hl : ∀ d ∈ l, d.ok) (hlen : l.length ≤ 9223372036854775807) :
    Calls Try.prog 6 #[.int .i64 room, .slice A l.length cap] w (BoolEnd true w) := by
  have HA := Lib.hid hA
  have HL := Lib.hid hl
  have HAW := Lib.hid (fun V => awake_any V)
  clear hA hl
  by_cases h400 : 400 < (l.length : Int)
  · go_enter Try.func6, Try.ntmps6
    go_wp2_with fail
    refine (HAW.out _).mono ?_
    rintro e w1 ⟨rfl, hb1⟩
    go_wp2
    go_ret
    exact ⟨rfl, hb1⟩
  · have hl400 : l.length ≤ 400 := by omega
    have HRN := Lib.hid (fun V => rnew room V)
    by_cases hroom : room = 4 ∨ room = 16
    · have HN : Hid (∀ V, Calls Try.prog 24 #[.int .i64 room] V (NewEnd room V)) := Lib.hid (fun V => by rcases hroom with rfl | rfl; exact new_4 V; exact new_16 V)
      have hrb : (room == 4 || room == 16) = true := by rcases hroom with rfl | rfl <;> rfl
      rw [hrb] at HRN
      clear hrb hroom
      go_enter Try.func6, Try.ntmps6
      go_wp2_with fail
      refine (HN.out w).mono ?_
      rintro e w1 ⟨gk0, rfl, hf, hgk, hb1⟩
      have H1 := Lib.hid (And.intro hf hb1)
      clear HN hf hb1
      go_wp2_with fail
      refine (HRN.out w1).mono ?_
      rintro e w2 ⟨gr, rfl, hr, hgr, hb2⟩
      have H2 : Hid (RunI w gr room gk0 noKids w2) := Lib.hid ⟨H1.out.1.below hb2, hr, H1.out.2.trans (hb2.mono H1.out.2.size), hgk⟩
      have hgr0 : w.heap.size ≤ gr := Nat.le_trans H1.out.2.size hgr
      clear HRN hr hb2 H1 hgk hgr
      go_wp2_with fail
      go_loopw [5, 9] (fun s i wr => ∃ (k gk : Nat) (f : Kids), k ≤ l.length ∧ i = .int .i64 k ∧ s = .pointer (some ⟨gk, 0, none⟩) ∧ Hid (RunI w gr room gk f wr)) (fun _ i _ => l.length - (intOf i).toNat)
      case atStart => exact ⟨0, gk0, noKids, Nat.zero_le _, rfl, rfl, H2⟩
      case round =>
        clear H2
        obtain ⟨k, gk, f, hk, rfl, rfl, HW⟩ := hrel
        by_cases hlt : k < l.length
        · obtain ⟨ad, rfl, hab, hc⟩ := ded_at (HA.out.below HW.out.2.2.1) hlt
          have hok := HL.out _ (List.getElem_mem hlt)
          generalize l[k] = d at hc hok
          obtain ⟨c0, c1, c2, c3, c4⟩ := ded_cells hc
          have i1 : (0 : Int) ≤ (k : Int) := by omega
          have i2 : (k : Int) < (l.length : Int) := by omega
          have HD := Lib.hid (does_any gk gr room f d.what d.from_ d.b d.r wr HW.out.1 HW.out.2.1 hok.b hok.lo hok.hi)
          clear hc hok
          go_wp2_with fail
          refine HD.out.mono ?_
          rintro e wn ⟨gk', f', rfl, q1, q2, q3, q4⟩
          have HN := Lib.hid (runI_does HW.out hgr0 q1 q2 q3 q4)
          clear HD q1 q2 q3 q4 c0 c1 c2 c3 c4
          have HS := Lib.hid (same_any gk' gr room f' wn HN.out.1 HN.out.2.1)
          go_wp2_with fail
          refine HS.out.mono ?_
          rintro e wm ⟨rfl, hbm⟩
          have HM := Lib.hid (runI_below HN.out hbm)
          clear HS hbm
          go_wp2_with fail
          go_roundw
          case rel => exact ⟨k + 1, gk', f', by omega, by go_num, rfl, HM⟩
          case measure => simp [intOf]; omega
        · obtain rfl : k = l.length := by omega
          have i2 : ¬ ((l.length : Int) < (l.length : Int)) := by omega
          have HS := Lib.hid (same_any gk gr room f wr HW.out.1 HW.out.2.1)
          go_wp2_with fail
          refine HS.out.mono ?_
          rintro e wm ⟨rfl, hbm⟩
          have HM := Lib.hid (runI_below HW.out hbm)
          clear HS hbm
          go_wp2_with fail
          refine (HAW.out _).mono ?_
          rintro e wn ⟨rfl, hbn⟩
          have HN := Lib.hid (runI_below HM.out hbn)
          clear hbn
          go_wp2
          go_ret
          exact ⟨rfl, HN.out.2.2.1⟩
    · have h4 : room ≠ 4 := fun e => hroom (.inl e)
      have h16 : room ≠ 16 := fun e => hroom (.inr e)
      have HN := Lib.hid (fun V => new_no room V h4 h16)
      have hrb : (room == 4 || room == 16) = false := by simp [h4, h16]
      rw [hrb] at HRN
      clear hrb hroom h4 h16
      go_enter Try.func6, Try.ntmps6
      go_wp2_with fail
      refine (HN.out w).mono ?_
      rintro e w1 ⟨rfl, rfl⟩
      clear HN
      go_wp2_with fail
      refine (HRN.out w1).mono ?_
      rintro e w2 ⟨gr, rfl, hr, hgr, hb2⟩
      have HB := Lib.hid hb2
      clear HRN hr hb2 hgr
      go_wp2_with fail
      refine (HAW.out _).mono ?_
      rintro e w3 ⟨rfl, hb3⟩
      have HC := Lib.hid (HB.out.trans (hb3.mono HB.out.size))
      clear hb3
      go_wp2
      go_ret
      exact ⟨rfl, HC.out⟩
end Go.Proofs.Ytmcpfhhggapkcaa
