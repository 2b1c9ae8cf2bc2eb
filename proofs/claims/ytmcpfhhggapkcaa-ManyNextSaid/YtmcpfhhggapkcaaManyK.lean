/-
  Layer 8: the methods of a row of many kids, told by its kids.
-/
import Derived.Test.YtmcpfhhggapkcaaManyW2
namespace Go.Proofs.Ytmcpfhhggapkcaa
open Go.RowKit Go.Shelf
set_option linter.unusedVariables false
set_option linter.unusedSimpArgs false

/-- As many positions are used as there are kids. -/
theorem nodup_len {α : Type} [DecidableEq α] : ∀ {l m : List α}, l.Nodup → (∀ x ∈ l, x ∈ m) → l.length ≤ m.length
  | [], m, _, _ => Nat.zero_le _
  | x :: l, m, h, hs => by
    have hx : x ∈ m := hs x (by simp)
    obtain ⟨h1, h2⟩ := List.nodup_cons.1 h
    have := nodup_len (l := l) (m := m.erase x) h2 (fun y hy => (List.mem_erase_of_ne (show y ≠ x from fun e => h1 (by rw [← e]; exact hy))).2 (hs y (by simp [hy])))
    rw [List.length_erase_of_mem hx] at this
    have hpos : 0 < m.length := List.length_pos_of_mem hx
    simp only [List.length_cons]
    omega
def kidBytes (f : Kids) : List Nat := (List.range 256).filter fun b => (f b).isSome
theorem kidBytes_len (f : Kids) : (kidBytes f).length = cntK f := by
  unfold kidBytes cntK kidsOf kidsIn
  have : ∀ l : List Nat, (l.filter fun b => (f b).isSome).length = (l.filterMap fun b => (f b).map fun r => (b, r)).length := by
    intro l
    induction l with
    | nil => rfl
    | cons x l ih =>
      rw [List.filter_cons, List.filterMap_cons]
      cases h : f x <;> simp [h, ih]
  exact this _
theorem rep_used {o : ManyO} {room : Nat} {f : Kids} (h : o.rep room f) : (((List.range room).filter o.used).length = cntK f) := by
  have hat : ∀ b, b ∈ kidBytes f → ∃ p, p < room ∧ o.at_ b = p + 1 ∧ o.used p = true := by
    intro b hb
    obtain ⟨h1, h2⟩ := List.mem_filter.1 hb
    obtain ⟨r, hr⟩ := Option.isSome_iff_exists.1 h2
    obtain ⟨p, k1, k2, k3, _⟩ := h.some_ b r (List.mem_range.1 h1) hr
    exact ⟨p, k1, k2, k3⟩
  have hle1 : ((kidBytes f).map (fun b => o.at_ b - 1)).length ≤ ((List.range room).filter o.used).length := by
    refine nodup_len ?_ ?_
    · unfold kidBytes
      rw [List.Nodup, List.pairwise_map]
      refine (List.Pairwise.filter _ (List.nodup_range (n := 256))).imp_of_mem ?_
      intro a b ha hb hne e
      obtain ⟨p, k1, k2, _⟩ := hat a ha
      obtain ⟨q, m1, m2, _⟩ := hat b hb
      exact hne (h.inj a b (List.mem_range.1 (List.mem_filter.1 ha).1) (List.mem_range.1 (List.mem_filter.1 hb).1) (by omega) (by omega))
    · intro x hx
      obtain ⟨b, hb, rfl⟩ := List.mem_map.1 hx
      obtain ⟨p, k1, k2, k3⟩ := hat b hb
      rw [k2]
      exact List.mem_filter.2 ⟨List.mem_range.2 (by omega), by simpa using k3⟩
  have hle2 : (((List.range room).filter o.used).map (fun p => ((List.range 256).filter fun b => o.at_ b == p + 1).headD 0)).length ≤ (kidBytes f).length := by
    have hfind : ∀ p, p ∈ (List.range room).filter o.used → ∃ b, b ∈ kidBytes f ∧ ((List.range 256).filter fun b => o.at_ b == p + 1).headD 0 = b ∧ o.at_ b = p + 1 := by
      intro p hp
      obtain ⟨k1, k2⟩ := List.mem_filter.1 hp
      obtain ⟨b, hb, hb2⟩ := h.onto p (List.mem_range.1 k1) k2
      have hm : b ∈ (List.range 256).filter fun b => o.at_ b == p + 1 := List.mem_filter.2 ⟨List.mem_range.2 hb, by simp [hb2]⟩
      cases hl : (List.range 256).filter fun b => o.at_ b == p + 1 with
      | nil => rw [hl] at hm; cases hm
      | cons c l =>
        have hc : c ∈ (List.range 256).filter fun b => o.at_ b == p + 1 := by rw [hl]; simp
        obtain ⟨m1, m2⟩ := List.mem_filter.1 hc
        have m3 : o.at_ c = p + 1 := by simpa using m2
        refine ⟨c, List.mem_filter.2 ⟨m1, ?_⟩, rfl, m3⟩
        cases hfc : f c with
        | none => have := h.none_ c (List.mem_range.1 m1) hfc; omega
        | some r => rfl
    refine nodup_len ?_ ?_
    · rw [List.Nodup, List.pairwise_map]
      refine (List.Pairwise.filter _ (List.nodup_range (n := room))).imp_of_mem ?_
      intro a b ha hb hne e
      obtain ⟨x, _, x2, x3⟩ := hfind a ha
      obtain ⟨y, _, y2, y3⟩ := hfind b hb
      rw [x2, y2] at e
      subst e
      omega
    · intro x hx
      obtain ⟨p, hp, rfl⟩ := List.mem_map.1 hx
      obtain ⟨b, hb, hb2, _⟩ := hfind p hp
      rw [hb2]; exact hb
  rw [List.length_map] at hle1 hle2
  rw [← kidBytes_len f]
  omega
theorem rep_full {o : ManyO} {room : Nat} {f : Kids} (h : o.rep room f) : o.free room < room ↔ cntK f ≠ room := by
  rw [← rep_used h]
  have hle := o.free_le room
  constructor
  · intro hlt e
    have hall : ∀ p ∈ List.range room, o.used p = true := by
      have := List.length_filter_eq_length_iff.1 (show ((List.range room).filter o.used).length = (List.range room).length by rw [e, List.length_range])
      exact this
    have := o.free_spec room hlt
    rw [hall _ (List.mem_range.2 hlt)] at this
    cases this
  · intro hne
    refine Nat.lt_of_le_of_ne hle (fun e => hne ?_)
    have hall := o.free_all room e
    rw [List.filter_eq_self.2 (fun p hp => hall p (List.mem_range.1 hp)), List.length_range]

/-- The row in block g, its Refs in gr, its marks in gu: room for so many, and the kids f. -/
def ManyAt (W : World) (g gr gu room : Nat) (f : Kids) : Prop := ∃ o : ManyO, o.rep room f ∧ MBlk W g gr gu room o ∧ 0 < room ∧ room ≤ 256
theorem ManyAt.below {W W' : World} {g gr gu room : Nat} {f : Kids} (h : ManyAt W g gr gu room f) (hb : Below W.heap.size W W') : ManyAt W' g gr gu room f := by
  obtain ⟨o, h1, h2, h3⟩ := h
  exact ⟨o, h1, h2.below hb, h3⟩
theorem ManyAt.drew {W : World} {g gr gu room : Nat} {f : Kids} (h : ManyAt W g gr gu room f) : ManyAt W.drew g gr gu room f := by
  obtain ⟨o, h1, h2, h3⟩ := h
  exact ⟨o, h1, h2.drew, h3⟩
theorem ManyAt.drewN {W : World} {g gr gu room : Nat} {f : Kids} (h : ManyAt W g gr gu room f) (k : Nat) : ManyAt (W.drewN k) g gr gu room f := by
  obtain ⟨o, h1, h2, h3⟩ := h
  exact ⟨o, h1, h2.drewN k, h3⟩
theorem ManyAt.lt {W : World} {g gr gu room : Nat} {f : Kids} (h : ManyAt W g gr gu room f) : g < W.heap.size ∧ gr < W.heap.size ∧ gu < W.heap.size := by
  obtain ⟨o, h1, h2, h3⟩ := h
  exact ⟨h2.1.lt, h2.2.1.lt, h2.2.2.lt⟩
def ManyEnd (v : Value) (g gr gu room : Nat) (f : Kids) (w : World) (e : Ending) (w' : World) : Prop := e = .returned v ∧ ManyAt w' g gr gu room f ∧ Three g gr gu w w'
theorem there_m {g gr gu room : Nat} {f : Kids} {w : World} (h : ManyAt w g gr gu room f) : Calls Try.prog 46 #[.pointer (some ⟨g, 0, none⟩)] w (StayEnd (.bool true) w) := by
  obtain ⟨o, h1, h2, h3, h4⟩ := h
  exact mthere g gr gu room o w h2 h3
theorem has_m {g gr gu room : Nat} {f : Kids} {w : World} (h : ManyAt w g gr gu room f) {b : Nat} (hb : b < 256) : Calls Try.prog 44 #[.pointer (some ⟨g, 0, none⟩), .int .i64 (b : Int)] w (StayEnd (.bool (f b).isSome) w) := by
  obtain ⟨o, h1, h2, h3, h4⟩ := h
  have := mhas g gr gu room o b w h2 hb
  rw [h1.has hb] at this
  exact this
/-- ref: an address at which the kid's Ref stands. -/
def RefPtr (gr : Nat) (r : Int × Int) (w : World) (e : Ending) (w' : World) : Prop := ∃ p : Nat, e = .returned (.pointer (some ⟨gr, p * 2, none⟩)) ∧ w.cell? ⟨gr, p * 2, none⟩ = some (.int .i64 r.1) ∧ w.cell? ⟨gr, p * 2 + 1, none⟩ = some (.int .u32 r.2) ∧ ∃ k, w' = w.drewN k
theorem ref_m {g gr gu room : Nat} {f : Kids} {w : World} (h : ManyAt w g gr gu room f) {b : Nat} {r : Int × Int} (hb : b < 256) (hf : f b = some r) : Calls Try.prog 45 #[.pointer (some ⟨g, 0, none⟩), .int .i64 (b : Int)] w (RefPtr gr r w) := by
  obtain ⟨o, h1, h2, h3, h4⟩ := h
  obtain ⟨p, k1, k2, k3, k4⟩ := h1.some_ b r hb hf
  refine (mref g gr gu room o b p w h2 hb k1 h4 k2).mono ?_
  rintro e w' ⟨rfl, k⟩
  obtain ⟨c1, c2⟩ := h2.ref k1
  rw [k4] at c1 c2
  exact ⟨p, rfl, c1, c2, k⟩
theorem lay_m {g gr gu room : Nat} {f : Kids} {w : World} (h : ManyAt w g gr gu room f) {b : Nat} (r : Int × Int) (hb : b < 256) (hf : f b = none) : Calls Try.prog 56 #[.pointer (some ⟨g, 0, none⟩), .int .i64 (b : Int), refV r] w (fun e w' => ∃ ok : Bool, ok = !(decide (cntK f = room)) ∧ ManyEnd (.bool ok) g gr gu room (if cntK f = room then f else setK f b (some r)) w e w') := by
  obtain ⟨o, h1, h2, h3, h4⟩ := h
  by_cases hc : cntK f = room
  · refine (mlay_no g gr gu room o b r w h2 h4 (fun hlt => (rep_full h1).1 hlt hc)).mono ?_
    rintro e w' ⟨rfl, k1, k2⟩
    exact ⟨false, by simp [hc], rfl, by rw [if_pos hc]; exact ⟨o, h1, k1, h3, h4⟩, k2⟩
  · have hlt := (rep_full h1).2 hc
    refine (mlay_yes g gr gu room o b r w h2 hb h4 hlt).mono ?_
    rintro e w' ⟨rfl, k1, k2⟩
    exact ⟨true, by simp [hc], rfl, by rw [if_neg hc]; exact ⟨_, rep_lay h1 hb hf hlt (o.free_spec room hlt) r, k1, h3, h4⟩, k2⟩
theorem lift_m {g gr gu room : Nat} {f : Kids} {w : World} (h : ManyAt w g gr gu room f) {b : Nat} {r : Int × Int} (hb : b < 256) (hf : f b = some r) : Calls Try.prog 47 #[.pointer (some ⟨g, 0, none⟩), .int .i64 (b : Int)] w (ManyEnd (refV r) g gr gu room (setK f b none) w) := by
  obtain ⟨o, h1, h2, h3, h4⟩ := h
  obtain ⟨p, k1, k2, k3, k4⟩ := h1.some_ b r hb hf
  refine (mlift g gr gu room o b p w h2 hb h4 k1 k2).mono ?_
  rintro e w' ⟨rfl, m1, m2⟩
  rw [k4]
  exact ⟨rfl, ⟨_, rep_lift h1 hb k1 k2, m1, h3, h4⟩, m2⟩
end Go.Proofs.Ytmcpfhhggapkcaa
