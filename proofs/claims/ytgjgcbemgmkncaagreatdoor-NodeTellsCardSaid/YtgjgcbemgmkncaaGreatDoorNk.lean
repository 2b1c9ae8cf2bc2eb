/-
  The reference of layer 9: Turn.
  The law of layer 9: turns is true of every node that is not too large.
  The law of layer 9: NodeTells, walked.
  Layer 9: the table of rooms, as the card lays it.
  Layer 7: a slice of bytes that came in, read as numbers below 256.
  Layer 9: a node and a Ref that came in as arguments.
  NodeTells: for every input the call returns true, and what was there stays as it was. The card ties what the package variable holds to the program's text. No other condition.
-/
import Derived.Test.YtgjgcbemgmkncaaGreatDoorNj
import Derived.Test.YtgjgcbemgmkncaaGreatDoorNf
import Derived.Test.YtgjgcbemgmkncaaGreatDoorNg
import Derived.Test.YtgjgcbemgmkncaaGreatDoorNc
import Derived.LaidMore
import Derived.ProofKit
import Derived.OpenShut
import Derived.Stop.Joined
import Derived.Test.YtgjgcbemgmkncaaGreatDoorNb
import Derived.Test.YtgjgcbemgmkncaaGreatDoorNe
import Derived.Test.YtgjgcbemgmkncaaGreatDoorCards
import Derived.Test.YtgjgcbemgmkncaaGreatDoorTie
import Derived.SevenTiedAt
namespace Go.Proofs.YtgjgcbemgmkncaaGreatDoor
open Go.RowKit Go.Shelf
set_option linter.unusedVariables false
set_option linter.unusedSimpArgs false

/-- The kids of which the first k have been looked at. -/
def turnTo (x : Nd) (b : Nat) (r : Int × Int) (k : Nat) : List (Int × Int) := x.kids.mapIdx (fun i q => if i < k ∧ x.bytes.getD i 256 = b then r else q)
theorem turnTo_len (x : Nd) (b : Nat) (r : Int × Int) (k : Nat) : (turnTo x b r k).length = x.kids.length := by unfold turnTo; simp
theorem turnTo_zero (x : Nd) (b : Nat) (r : Int × Int) : turnTo x b r 0 = x.kids := by
  unfold turnTo
  apply List.ext_getElem
  · simp
  · intro i h1 h2
    simp
theorem turnTo_hit {x : Nd} {b k : Nat} {r : Int × Int} (h1 : k < x.bytes.length) (e : x.bytes[k] = b) : turnTo x b r (k + 1) = (turnTo x b r k).set k r := by
  unfold turnTo
  apply List.ext_getElem
  · simp
  · intro i h2 h3
    rw [List.getElem_set]
    simp only [List.getElem_mapIdx]
    by_cases hk : k = i
    · subst hk
      rw [if_pos rfl, if_pos]
      refine ⟨by omega, ?_⟩
      rw [List.getD_eq_getElem?_getD, List.getElem?_eq_getElem h1]
      exact e
    · rw [if_neg hk]
      by_cases hlt : i < k
      · simp [hlt, Nat.lt_succ_of_lt hlt]
      · have : ¬ i < k + 1 := by omega
        simp [hlt, this]
theorem turnTo_miss {x : Nd} {b k : Nat} {r : Int × Int} (h1 : k < x.bytes.length) (e : x.bytes[k] ≠ b) : turnTo x b r (k + 1) = turnTo x b r k := by
  unfold turnTo
  apply List.ext_getElem
  · simp
  · intro i h2 h3
    simp only [List.getElem_mapIdx]
    by_cases hk : k = i
    · subst hk
      have e2 : ¬ (x.bytes.getD k 256 = b) := by
        rw [List.getD_eq_getElem?_getD, List.getElem?_eq_getElem h1]
        exact e
      rw [if_neg (fun h => e2 h.2), if_neg (fun h => e2 h.2)]
    · by_cases hlt : i < k
      · simp [hlt, Nat.lt_succ_of_lt hlt]
      · have : ¬ i < k + 1 := by omega
        simp [hlt, this]
theorem turnTo_all {x : Nd} {b : Nat} {r : Int × Int} (h1 : x.bytes.length = x.kids.length) : turnTo x b r x.bytes.length = turnL x b r := by
  unfold turnTo turnL
  apply List.ext_getElem
  · simp [h1]
  · intro i h2 h3
    have hi : i < x.kids.length := by simpa using h2
    simp only [List.getElem_mapIdx, List.getElem_map, List.getElem_zip]
    rw [List.getD_eq_getElem?_getD, List.getElem?_eq_getElem (by omega : i < x.bytes.length)]
    have : i < x.bytes.length := by omega
    simp [this]
theorem turnTo_mem {x : Nd} {b k : Nat} {r : Int × Int} (hx : x.wf) (hr : refOk r) : ∀ q ∈ turnTo x b r k, refOk q := by
  intro q hq
  unfold turnTo at hq
  obtain ⟨i, hi, rfl⟩ := List.getElem_of_mem hq
  have hi2 : i < x.kids.length := by simpa using hi
  simp only [List.getElem_mapIdx]
  split
  · exact hr
  · exact hx.refs _ (List.getElem_mem hi2)
theorem own_set {w : World} {base size n g c p : Nat} {e : TypeId} {u : Value} {xs : List Value} (h : w.ownsRow base e size (.slice (some ⟨g, 0, none⟩) n c) n xs) (hp : p < n * size) :
    (w.setCell ⟨g, p, none⟩ u).ownsRow base e size (.slice (some ⟨g, 0, none⟩) n c) n (xs.set p u) := by
  refine ⟨by rw [List.length_set]; exact h.1, ?_⟩
  rcases h.2 with ⟨h0, _⟩ | ⟨g', cap, cur, hv, hb, hh, hnc, hc, hs, hx⟩
  · cases h0
  · simp only [Value.slice.injEq, Option.some.injEq, Addr.mk.injEq] at hv
    obtain ⟨⟨rfl, _, _⟩, _, rfl⟩ := hv
    refine Or.inr ⟨g, c, cur.setIfInBounds p u, rfl, hb, Blk.set_ (t := e) hh p u, hnc, hc, by simpa using hs, ?_⟩
    rw [Array.toList_setIfInBounds]
    first | rw [List.take_set, hx] | rw [← List.set_take, hx]
theorem flat_set2 : ∀ (l : List (Int × Int)) (i : Nat) (r : Int × Int), i < l.length → ((l.flatMap rrow).set (i * 2) (.int .i64 r.1)).set (i * 2 + 1) (.int .u32 r.2) = (l.set i r).flatMap rrow
  | q :: l, 0, r, _ => by simp [rrow]
  | q :: l, i + 1, r, h => by
    have ih := flat_set2 l i r (by simpa using h)
    rw [List.set_cons_succ, List.flatMap_cons, List.flatMap_cons, ← ih, show (i + 1) * 2 = i * 2 + 1 + 1 by omega]
    simp [rrow]
theorem MkR.set5 {w W : World} {lo g n c i : Nat} {bs : List (Nat × TypeId × Array Value)} {l5 : List (Int × Int)} (h : MkR w lo bs (.slice none 0 0) (.slice (some ⟨g, 0, none⟩) n c) [] l5 W) (hn : l5.length = n) (hi : i < n) (r : Int × Int) :
    MkR w lo bs (.slice none 0 0) (.slice (some ⟨g, 0, none⟩) n c) [] (l5.set i r) ((W.setCell ⟨g, i * 2, none⟩ (.int .i64 r.1)).setCell ⟨g, i * 2 + 1, none⟩ (.int .u32 r.2)) := by
  subst hn
  have hg : W.grownBy ((W.setCell ⟨g, i * 2, none⟩ (.int .i64 r.1)).setCell ⟨g, i * 2 + 1, none⟩ (.int .u32 r.2)) (some g) := grown_setCell (grown_setCell ⟨rfl, rfl, rfl, Nat.le_refl _, fun _ _ _ => rfl⟩ _ _) _ _
  have k1 := own_set (p := i * 2) (u := .int .i64 r.1) h.row5 (by omega)
  have k2 := own_set (p := i * 2 + 1) (u := .int .u32 r.2) k1 (by omega)
  rw [flat_set2 _ _ _ hi] at k2
  refine ⟨h.base.grown hg (fun k e => by injection e with e; subst e; exact (h.row5.lt g rfl).1), World.ownsRow_nil _ _ _ _, ?_⟩
  rw [List.length_set]
  exact k2
theorem MkR.cells5 {w W : World} {lo g n c i : Nat} {bs : List (Nat × TypeId × Array Value)} {v4 : Value} {l4 : List Nat} {l5 : List (Int × Int)} (h : MkR w lo bs v4 (.slice (some ⟨g, 0, none⟩) n c) l4 l5 W) (hn : l5.length = n) (hi : i < n) :
    (∃ u, W.cell? ⟨g, i * 2, none⟩ = some u) ∧ (∃ u, W.cell? ⟨g, i * 2 + 1, none⟩ = some u) ∧ W.frozen? ⟨g, i * 2, none⟩ = false ∧ W.frozen? ⟨g, i * 2 + 1, none⟩ = false := by
  subst hn
  rcases h.row5.2 with ⟨h0, _⟩ | ⟨g', cap, cur, hv, hb, hh, hnc, hc, hs, hx⟩
  · cases h0
  · simp only [Value.slice.injEq, Option.some.injEq, Addr.mk.injEq] at hv
    obtain ⟨⟨rfl, _, _⟩, _, rfl⟩ := hv
    have hB : Blk W g 29 cur := hh
    have h1 : i * 2 + 1 < cur.size := by rw [hs]; omega
    exact ⟨⟨_, (hB.cell _).trans (Array.getElem?_eq_getElem (by omega))⟩, ⟨_, (hB.cell _).trans (Array.getElem?_eq_getElem h1)⟩, hB.frozen _, hB.frozen _⟩
theorem MkR.many4 {w W W' : World} {lo : Nat} {bs : List (Nat × TypeId × Array Value)} {v5 v : Value} {l5 : List (Int × Int)} (h : MkR w lo bs (.slice none 0 0) v5 [] l5 W) (hv : W.ownsRow lo 5 1 v 0 []) {v4' : Value} {l : List Nat} (ho : W'.ownsRow lo 5 1 v4' (0 + l.length) ([] ++ l.flatMap nrow)) (hg : W.grownBy W' v.ownBlock) : MkR w lo bs v4' v5 l l5 W' := by
  rw [Nat.zero_add, List.nil_append] at ho
  exact ⟨h.base.grown hg (fun g e => (hv.lt g e).1), ho, h.row5.kept hg (own_two h.row5 hv (by decide))⟩
theorem MkR.many5 {w W W' : World} {lo : Nat} {bs : List (Nat × TypeId × Array Value)} {v : Value} (h : MkW w lo bs W) (hv : W.ownsRow lo 29 2 v 0 []) {v5' : Value} {l : List (Int × Int)} (ho : W'.ownsRow lo 29 2 v5' (0 + l.length) ([] ++ l.flatMap rrow)) (hg : W.grownBy W' v.ownBlock) : MkR w lo bs (.slice none 0 0) v5' [] l W' := by
  rw [Nat.zero_add, List.nil_append] at ho
  exact ⟨h.grown hg (fun g e => (hv.lt g e).1), World.ownsRow_nil _ _ _ _, ho⟩

set_option maxHeartbeats 12800000 in
set_option maxRecDepth 100000 in
theorem turn3 {u0 u2 u4 u7 u8 u9 u11 u12 u13 u14 u15 u16 u17 u18 u19 u20 u21 u22 u23 u24 u25 u26 u27 u28 u29 u30 u31 u32 u33 u34 u35 u36 u37 u38 u39 u40 u41 u42 u43 u44 u45 u46 u47 u48 u49 u50 u51 u52 u53 u54 u55 u56 u57 u58 : Value} (x : Nd) (b : Nat) (r : Int × Int) (A2 : Option Addr) (c2 : Nat) (l5 : List (Int × Int)) (w W : World) (Ab : Option Addr) (cb : Nat) (Ak : Option Addr) (ck : Nat) (hn : NdAt w x (.agg #[.int .i64 x.kind, .string x.code, .string x.value, .string x.path, .slice Ab x.bytes.length cb, .slice Ak x.kids.length ck])) (hb0 : Reads w w.heap.size 1 Ab x.bytes.length (x.bytes.flatMap nrow)) (hlen : x.bytes.length ≤ 256) (hmem : ∀ q ∈ l5, refOk q)
    (h : MkR w (w.heap.size + 1 + 1 + 1) (adB w x Ab cb Ak ck r) (.slice none 0 0) (.slice A2 l5.length c2) [] l5 W) :
    Code.wp Tryz.prog (bodyTail Tryz.f34 6) (bodyPost Tryz.prog Tryz.f34 (fun e w' => NdPair (madeN x x.bytes l5 true) 0 w e w')) ⟨#[u0, .int .u8 (b : Int), u2, .pointer (some ⟨w.heap.size, 0, none⟩), u4, .pointer (some ⟨w.heap.size + 1, 0, none⟩), .pointer (some ⟨w.heap.size + 1 + 1, 0, none⟩), u7, u8, u9, .slice A2 l5.length c2, u11, u12, u13, u14, u15, u16, u17, u18, u19, u20, u21, u22, u23, u24, u25, u26, u27, u28, u29, u30, u31, u32, u33, u34, u35, u36, u37, u38, u39, u40, u41, u42, u43, u44, u45, u46, u47, u48, u49, u50, u51, u52, u53, u54, u55, u56, u57, u58], []⟩ W := by
  conv => arg 2; whnf
  have HW := Lib.hid h
  have HN := Lib.hid hn
  have HR := Lib.hid hb0
  have HMEM := Lib.hid hmem
  obtain ⟨i0, hi0, iz0, iz1, iz2⟩ := info_parts infoBytes
  have HI := Lib.hid (And.intro hi0 (And.intro iz0 (And.intro iz1 iz2)))
  have HL := Lib.hid hlen
  clear h hn hmem hb0 hi0 iz0 iz1 iz2
  refine wp_seq_k fun K9 hK => ?_
  have HK9 := Lib.hid hK
  clear hK
  have S0 := HW.out.base
  refine wp_region_noPanic ?_
  have HS : Hid (∀ V : World, MkW w (w.heap.size + 1 + 1 + 1) (adB w x Ab cb Ak ck r) V ∨ (∃ V0, MkW w (w.heap.size + 1 + 1 + 1) (adB w x Ab cb Ak ck r) V0 ∧ V0.grownBy V (some (w.heap.size + 1 + 1))) → (fun V : World => V.cell? ⟨w.heap.size, 0, none⟩ = some (.int .i64 x.kind) ∧ V.cell? ⟨w.heap.size, 1, none⟩ = some (.string x.code) ∧ V.cell? ⟨w.heap.size, 2, none⟩ = some (.string x.value) ∧ V.cell? ⟨w.heap.size, 3, none⟩ = some (.string x.path) ∧ V.cell? ⟨w.heap.size, 4, none⟩ = some (.slice Ab x.bytes.length cb) ∧ V.cell? ⟨w.heap.size, 5, none⟩ = some (.slice Ak x.kids.length ck)) V) := Lib.hid (fun V hb => by
    rcases hb with hb | ⟨V0, hb, hg⟩
    · exact cells6 (box_ad hb)
    · exact cells6 ((box_ad hb).grown hg (fun e => by injection e with e; omega)))
  clear S0
  refine wp_region_held_drew (S := (fun V : World => V.cell? ⟨w.heap.size, 0, none⟩ = some (.int .i64 x.kind) ∧ V.cell? ⟨w.heap.size, 1, none⟩ = some (.string x.code) ∧ V.cell? ⟨w.heap.size, 2, none⟩ = some (.string x.value) ∧ V.cell? ⟨w.heap.size, 3, none⟩ = some (.string x.path) ∧ V.cell? ⟨w.heap.size, 4, none⟩ = some (.slice Ab x.bytes.length cb) ∧ V.cell? ⟨w.heap.size, 5, none⟩ = some (.slice Ak x.kids.length ck))) (by kernel_rfl) ?_ (fun hHeld0 => ?_)
  · exact HS.out _ (.inl HW.out.drew.base)
  refine wpAnyH_take (i := 0) (v := ?_) rfl (by kernel_rfl) (by kernel_rfl) (by kernel_rfl) (fun _ _ _ h => h) (Or.inl ⟨by rfl, ?_⟩) hHeld0 ?_
  rotate_left
  · (intro w hSw; (try dsimp only at hSw); go_simp <;> with_reducible rfl)
  try simp only [Act.put, List.setIfInBounds_toArray, List.set_cons_zero, List.set_cons_succ]
  refine wpAnyH_take (i := 2) (v := ?_) rfl (by kernel_rfl) (by kernel_rfl) (by kernel_rfl) (fun _ _ _ h => h) (Or.inl ⟨by rfl, ?_⟩) hHeld0 ?_
  rotate_left
  · (intro w hSw; (try dsimp only at hSw); go_simp <;> with_reducible rfl)
  try simp only [Act.put, List.setIfInBounds_toArray, List.set_cons_zero, List.set_cons_succ]
  refine wpAnyH_take (i := 3) (v := ?_) rfl (by kernel_rfl) (by kernel_rfl) (by kernel_rfl) (fun _ _ _ h => h) (Or.inl ⟨by rfl, ?_⟩) hHeld0 ?_
  rotate_left
  · (intro w hSw; (try dsimp only at hSw); go_simp <;> with_reducible rfl)
  try simp only [Act.put, List.setIfInBounds_toArray, List.set_cons_zero, List.set_cons_succ]
  refine wpAnyH_take (i := 5) (v := ?_) rfl (by kernel_rfl) (by kernel_rfl) (by kernel_rfl) (fun _ _ _ h => h) (Or.inl ⟨by rfl, ?_⟩) hHeld0 ?_
  rotate_left
  · (intro w hSw; (try dsimp only at hSw); go_simp <;> with_reducible rfl)
  try simp only [Act.put, List.setIfInBounds_toArray, List.set_cons_zero, List.set_cons_succ]
  refine wpAnyH_ready (rs := [1]) (by kernel_rfl) (by simp) ?_
  refine AllReadyH.cons rfl (fun K hK => ?_) ?_
  · go_simp
    have k1 : (W.drew.alloc (.cells #[] 5)).ownsRow (w.heap.size + 1 + 1 + 1) 5 1 (.slice (some ⟨W.heap.size, 0, none⟩) 0 0) 0 [] := World.ownsRow_made W.drew #[] 0 HW.out.base.size (by unfold maxLen; omega) rfl
    have HK1 := Lib.hid (And.intro (HW.out.drew.alloc (.cells #[] 5)) k1)
    clear k1
    refine hK.out _ _ ?_ (fun hHeld1 => ?_)
    · exact HS.out _ (.inl HK1.out.1.base)
    clear hK K hHeld0
    try simp only [Act.put, List.setIfInBounds_toArray, List.set_cons_zero, List.set_cons_succ]
    refine wpAnyH_ready (rs := [4]) (by kernel_rfl) (by simp) ?_
    refine AllReadyH.cons rfl (fun K hK => ?_) ?_
    · refine wp_append_any _ (.tmp 53) (.tmp 55) 23 rfl (w.heap.size + 1 + 1 + 1) 5 i0 _ 1 1 Tryz.underlying23 HI.out.1 HI.out.2.1 HI.out.2.2.1 HI.out.2.2.2 rfl (by omega) (.slice (some ⟨W.heap.size, 0, none⟩) 0 0) 0 [] rfl HK1.out.2 w.heap.size Ab x.bytes.length cb (x.bytes.flatMap nrow) rfl (HR.out.below HK1.out.1.base.below) (flat_one nrow_one _) (by unfold maxLen; omega) (by omega) HK1.out.1.base.size ?_
      intro v4 W2 hown hg hat
      have HW2 := Lib.hid (HK1.out.1.many4 HK1.out.2 hown hg)
      clear hown hg hat
      refine hK.out _ _ ?_ (fun hHeld2 => ?_)
      · exact HS.out _ (.inl HW2.out.base)
      clear hK K hHeld1
      try simp only [Act.put, List.setIfInBounds_toArray, List.set_cons_zero, List.set_cons_succ]
      try simp only [Act.put, List.getElem_toArray, List.getElem_cons_succ, List.getElem_cons_zero, List.setIfInBounds_toArray, List.set_cons_zero, List.set_cons_succ]
      refine wpAnyH_ready (rs := [6]) (by kernel_rfl) (by simp) ?_
      refine AllReadyH.cons rfl (fun K hK => ?_) ?_
      · obtain ⟨A1, c1, A3, c3, h4, h5, a1, a2, -, -, n1, n2⟩ := HW2.out.form
        have HA := Lib.hid (And.intro a1 (And.intro a2 (And.intro n1 n2)))
        clear a1 a2 n1 n2
        subst h4
        injection h5 with h5a h5b h5c
        obtain rfl := h5a
        obtain rfl := h5c
        clear h5b
        have hmd := made_r x _ x.bytes l5 A1 A2 c1 c2 true W2 (HN.out.below HW2.out.base.below)
        unfold Nd.v at hmd
        have HMD := Lib.hid hmd
        clear hmd
        go_simp
        refine HMD.out.mono ?_
        rintro e w5 ⟨rfl, hb⟩
        have S5 := Lib.hid (HW2.out.on hb)
        clear hb HMD
        refine hK.out _ _ ?_ (fun hHeld3 => ?_)
        · exact HS.out _ (.inl S5.out.base)
        clear hK K hHeld2
        try simp only [Act.put, List.setIfInBounds_toArray, List.set_cons_zero, List.set_cons_succ]
        try simp only [Act.put, List.getElem_toArray, List.getElem_cons_succ, List.getElem_cons_zero, List.setIfInBounds_toArray, List.set_cons_zero, List.set_cons_succ]
        refine wpAnyH_ready (rs := [7]) (by kernel_rfl) (by simp) ?_
        refine AllReadyH.cons rfl (fun K hK => ?_) ?_
        · have q5 := out_ad S5.out.base
          obtain ⟨d0, d1, d2, d3, d4, d5⟩ := cells6 q5
          have fz0 := q5.frozen 0
          have fz1 := q5.frozen 1
          have fz2 := q5.frozen 2
          have fz3 := q5.frozen 3
          have fz4 := q5.frozen 4
          have fz5 := q5.frozen 5
          have l6 := q5.lt
          obtain ⟨m, hm⟩ : ∃ m, m = madeN x x.bytes l5 true := ⟨_, rfl⟩
          have hm1 : m.bytes.length = x.bytes.length := by rw [hm]; rfl
          have hm2 : m.kids.length = l5.length := by rw [hm]; rfl
          rw [← hm]
          obtain ⟨VV, hV, hg, q6⟩ := six_stores (.int .i64 m.kind) (.string m.code) (.string m.value) (.string m.path) (.slice A1 m.bytes.length c1) (.slice A2 m.kids.length c2) q5
          have HF : Hid (NdPair m 0 w (.returned (.tuple #[m.v A1 c1 A2 c2, .int .i64 0])) VV) := Lib.hid (by
            obtain ⟨B1, e1, B2, e2, h1, h2, -, -, r1, r2, -, -⟩ := S5.out.form
            injection h1 with h1a h1b h1c
            injection h2 with h2a h2b h2c
            subst h1a h1c h2a h2c
            rw [hm]
            exact made_out HN.out.1 true HN.out.1.bytes HMEM.out HA.out.2.2.1 HA.out.2.2.2 r1 r2 (fun ad e => by have := HA.out.1 ad e; omega) (fun ad e => by have := HA.out.2.1 ad e; omega) hg (by omega) S5.out.base.below)
          have HMM := Lib.hid hm
          have hkeep := HS.out _ (.inr ⟨_, S5.out.base, hg⟩)
          clear hg q5 hm hm1 hm2
          go_simp
          rw [← hV]
          clear hV d0 d1 d2 d3 d4 d5 fz0 fz1 fz2 fz3 fz4 fz5
          refine hK.out _ _ ?_ (fun hHeld4 => ?_)
          · exact hkeep
          clear hK K hHeld3
          try simp only [Act.put, List.setIfInBounds_toArray, List.set_cons_zero, List.set_cons_succ]
          refine wpAnyH_take (i := 8) (v := ?_) rfl (by kernel_rfl) (by kernel_rfl) (by kernel_rfl) (fun _ _ _ h => h) (Or.inl ⟨by rfl, ?_⟩) hHeld4 ?_
          rotate_left
          · (intro w hSw; (try dsimp only at hSw); go_simp <;> with_reducible rfl)
          try simp only [Act.put, List.setIfInBounds_toArray, List.set_cons_zero, List.set_cons_succ]
          try simp only [Act.put, List.getElem_toArray, List.getElem_cons_succ, List.getElem_cons_zero, List.setIfInBounds_toArray, List.set_cons_zero, List.set_cons_succ]
          refine wpAnyH_done (by kernel_rfl) ?_ _
          refine NoPanic.normal ?_
          refine HK9.out _ _ ?_
          go_wp2
          obtain ⟨c0, c1', c2', c3, c4, c5⟩ := cells6 q6
          exact bodyPost_ret (v := .tuple #[.agg #[.int .i64 m.kind, .string m.code, .string m.value, .string m.path, .slice A1 m.bytes.length c1, .slice A2 m.kids.length c2], .int .i64 0]) (by simp [results, Tryz.results34, go_sem, c0, c1', c2', c3, c4, c5]) rfl (by rw [← HMM.out]; exact HF.out)
        exact AllReadyH.nil
      exact AllReadyH.nil
    exact AllReadyH.nil
  exact AllReadyH.nil

set_option maxHeartbeats 12800000 in
set_option maxRecDepth 100000 in
theorem turn2 {u0 u2 u4 u7 u8 u9 u10 u11 u12 u13 u14 u15 u16 u17 u18 u19 u20 u21 u22 u23 u24 u25 u26 u27 u28 u29 u30 u31 u32 u33 u34 u35 u36 u37 u38 u39 u40 u41 u42 u43 u44 u45 u46 u47 u48 u49 u50 u51 u52 u53 u54 u55 u56 u57 u58 : Value} (x : Nd) (b : Nat) (r : Int × Int) (w W : World) (Ab : Option Addr) (cb : Nat) (Ak : Option Addr) (ck : Nat) (hn : NdAt w x (.agg #[.int .i64 x.kind, .string x.code, .string x.value, .string x.path, .slice Ab x.bytes.length cb, .slice Ak x.kids.length ck])) (hb0 : Reads w w.heap.size 1 Ab x.bytes.length (x.bytes.flatMap nrow)) (hk0 : Reads w w.heap.size 2 Ak x.kids.length (x.kids.flatMap rrow)) (hrok : refOk r) (hm : x.may = true) (hpos : 0 < x.kids.length)
    (h : MkW w (w.heap.size + 1 + 1 + 1) (adB w x Ab cb Ak ck r) W) :
    Code.wp Tryz.prog (bodyTail Tryz.f34 4) (bodyPost Tryz.prog Tryz.f34 (fun e w' => NdPair (madeN x x.bytes (turnL x b r) true) 0 w e w')) ⟨#[u0, .int .u8 (b : Int), u2, .pointer (some ⟨w.heap.size, 0, none⟩), u4, .pointer (some ⟨w.heap.size + 1, 0, none⟩), .pointer (some ⟨w.heap.size + 1 + 1, 0, none⟩), u7, u8, u9, u10, u11, u12, u13, u14, u15, u16, u17, u18, u19, u20, u21, u22, u23, u24, u25, u26, u27, u28, u29, u30, u31, u32, u33, u34, u35, u36, u37, u38, u39, u40, u41, u42, u43, u44, u45, u46, u47, u48, u49, u50, u51, u52, u53, u54, u55, u56, u57, u58], []⟩ W := by
  conv => arg 2; whnf
  have hlk0 : x.bytes.length = x.kids.length := (inner_parts (may_inner hm)).2.2.2.2.1
  have hlk1 : x.bytes.length ≤ x.kids.length := by omega
  have hlk2 : x.kids.length ≤ x.bytes.length := by omega
  clear hlk0
  have hl256 : x.kids.length ≤ 256 := (inner_parts (may_inner hm)).2.2.2.2.2.1
  have HR := Lib.hid (And.intro hb0 hk0)
  have HN := Lib.hid hn
  have HRO := Lib.hid hrok
  have k1 : (W.alloc (.cells #[] 29)).ownsRow (w.heap.size + 1 + 1 + 1) 29 2 (.slice (some ⟨W.heap.size, 0, none⟩) 0 0) 0 [] := World.ownsRow_made W #[] 0 h.size (by unfold maxLen; omega) rfl
  have HK1 := Lib.hid (And.intro (h.alloc (.cells #[] 29)) k1)
  clear hm hb0 hk0 hn hrok k1
  obtain ⟨j0, hj0, jz0, jz1, jz2⟩ := info_parts infoRefs
  refine wp_seq_k fun K0 hK => ?_
  have HK0 := Lib.hid hK
  clear hK
  obtain ⟨e0, e1, e2, e3, e4, e5⟩ := cells6 (box_ad h)
  have lw := (box_ad h).lt
  have HH := Lib.hid h
  clear h
  go_wp2_with (first
    | (at_builtin
       refine wpList_append_any _ rfl (.tmp 30) (.tmp 32) _ rfl (w.heap.size + 1 + 1 + 1) 29 j0 _ 2 16 Tryz.underlying24 hj0 jz0 jz1 jz2 rfl (by omega) (.slice (some ⟨W.heap.size, 0, none⟩) 0 0) 0 [] rfl HK1.out.2 w.heap.size Ak x.kids.length ck (x.kids.flatMap rrow) rfl (HR.out.2.below HK1.out.1.below) (flat_one rrow_one _) (by unfold maxLen; omega) (by omega) HK1.out.1.size ?_
       intro v5 W2 hown hg hat
       have HW := Lib.hid (MkR.many5 HK1.out.1 HK1.out.2 hown hg)
       clear hown hg hat))
  refine HK0.out _ _ ?_
  clear HK0 lw e0 e1 e2 e3 e4 e5 HH HK1 hj0 jz0 jz1 jz2
  obtain ⟨g, c2, rfl, -, -⟩ := HW.out.row5.form hpos
  refine wp_seq_k fun K6 hK => ?_
  have HK6 := Lib.hid hK
  clear hK
  have H3 : Hid (MkR w (w.heap.size + 1 + 1 + 1) (adB w x Ab cb Ak ck r) (.slice none 0 0) (.slice (some ⟨g, 0, none⟩) x.kids.length c2) [] (turnTo x b r 0) W2) := Lib.hid (by rw [turnTo_zero]; exact HW.out)
  clear HW
  go_wp2_with fail
  go_loopw [11] (fun i wr => ∃ k : Nat, k ≤ x.bytes.length ∧ i = .int .i64 k ∧ Hid (MkR w (w.heap.size + 1 + 1 + 1) (adB w x Ab cb Ak ck r) (.slice none 0 0) (.slice (some ⟨g, 0, none⟩) x.kids.length c2) [] (turnTo x b r k) wr)) (fun i _ => x.bytes.length - (intOf i).toNat)
  case atStart => exact ⟨0, Nat.zero_le _, rfl, H3⟩
  case round =>
    clear H3
    obtain ⟨k, hk, rfl, HW⟩ := hrel
    obtain ⟨z0, z1, z2, z3, z4, z5⟩ := cells6 (box_ad HW.out.base)
    by_cases hlt : k < x.bytes.length
    · have j1 : (0 : Int) ≤ (k : Int) := by omega
      have j2 : (k : Int) < (x.bytes.length : Int) := by omega
      have hltk : k < x.kids.length := by omega
      have j3 : (k : Int) < (x.kids.length : Int) := by omega
      obtain ⟨ad, rfl, hab, hby⟩ := byte_at HR.out.1 hlt
      have hby' := (HW.out.base.below.cell (p := ad.add k) (by rw [block_of_add]; exact hab)).trans hby
      by_cases hq : x.bytes[k] = b
      · have hne : ((x.bytes[k] : Int) == (b : Int)) = true := by simp [hq]
        have HC := Lib.hid (turnTo_hit (r := r) hlt hq)
        obtain ⟨⟨o0, y0⟩, ⟨o1, y1⟩, y2, y3⟩ := HW.out.cells5 (turnTo_len x b r k) hltk
        obtain ⟨r6, r7⟩ := ref_cells HW.out.base
        have HW3 := Lib.hid (HW.out.set5 (turnTo_len x b r k) hltk r)
        have lg := (HW.out.row5.lt g rfl).2
        have HG := Lib.hid lg
        clear hby hq lg
        generalize x.bytes[k] = p at hby' hne
        go_wp2
        go_roundw
        case rel => exact ⟨k + 1, by omega, by go_num, by rw [HC.out]; exact HW3⟩
        case measure => simp [intOf]; omega
      · have hne : ((x.bytes[k] : Int) == (b : Int)) = false := by simp; omega
        have HC := Lib.hid (turnTo_miss (r := r) hlt hq)
        clear hby hq
        generalize x.bytes[k] = p at hby' hne
        go_wp2
        go_roundw
        case rel => exact ⟨k + 1, by omega, by go_num, by rw [HC.out]; exact HW⟩
        case measure => simp [intOf]; omega
    · obtain rfl : k = x.bytes.length := by omega
      have i1 : ¬ ((x.bytes.length : Int) < (x.bytes.length : Int)) := by omega
      have hmem := turnTo_mem (b := b) (k := x.bytes.length) HN.out.1 HRO.out
      have hl := turnTo_len x b r x.bytes.length
      have HC := turnTo_all (x := x) (b := b) (r := r) (by omega)
      rw [HC] at HW hmem hl
      have HF := Lib.hid (And.intro hmem (And.intro hl HW.out))
      clear HC hmem hl HW
      go_wp2_with fail
      refine HK6.out _ _ ?_
      obtain ⟨hmem, hl, hw⟩ := HF.out
      rw [← hl] at hw ⊢
      exact turn3 x b r _ _ _ w wr Ab cb Ak ck HN.out HR.out.1 (by omega) hmem hw

set_option maxHeartbeats 6400000 in
set_option maxRecDepth 100000 in
theorem Turn_r (x : Nd) (V : Value) (b : Nat) (r : Int × Int) (w : World) (h : NdAt w x V) (hb256 : b < 256) (hrok : refOk r) : Calls Tryz.prog 34 #[V, .int .u8 (b : Int), .agg #[.int .i64 r.1, .int .u32 r.2]] w (fun e w' => NdPair (turnR x b r).1 (turnR x b r).2 w e w') := by
  obtain ⟨hwf, Ab, cb, Ak, ck, rfl, hb0, hk0⟩ := h
  have hnd : NdAt w x (x.v Ab cb Ak ck) := ⟨hwf, Ab, cb, Ak, ck, rfl, hb0, hk0⟩
  have h0 : MkW w (w.heap.size + 1 + 1 + 1) (adB w x Ab cb Ak ck r) (((w.alloc (.cells #[.int .i64 x.kind, .string x.code, .string x.value, .string x.path, .slice Ab x.bytes.length cb, .slice Ak x.kids.length ck] 26)).alloc (.cells #[.int .i64 r.1, .int .u32 r.2] 29)).alloc (.cells #[.int .i64 0, .string { data := #[] }, .string { data := #[] }, .string { data := #[] }, .slice none 0 0, .slice none 0 0] 26)) := (((MkW.start w).push rfl 26 #[.int .i64 x.kind, .string x.code, .string x.value, .string x.path, .slice Ab x.bytes.length cb, .slice Ak x.kids.length ck]).push (by simp) 29 #[.int .i64 r.1, .int .u32 r.2]).push (by simp) 26 #[.int .i64 0, .string { data := #[] }, .string { data := #[] }, .string { data := #[] }, .slice none 0 0, .slice none 0 0]
  have H0 := Lib.hid h0
  have HN := Lib.hid hnd
  have HR := Lib.hid (And.intro hb0 (And.intro hk0 (And.intro hwf hrok)))
  obtain ⟨y, hy⟩ : ∃ y, y = turnR x b r := ⟨_, rfl⟩
  rw [← hy]
  have HY := Lib.hid hy
  clear hwf hb0 hk0 hnd h0 hy hrok
  unfold Nd.v at HN ⊢
  go_enter Tryz.func34, Tryz.ntmps34
  refine wp_seq_k fun K0 hK => ?_
  have HK0 := Lib.hid hK
  clear hK
  go_wp2_with fail
  refine HK0.out _ _ ?_
  clear HK0
  generalize ((w.alloc _).alloc _).alloc _ = w0 at H0 ⊢
  refine wp_seq_k fun K1 hK => ?_
  have HK1 := Lib.hid hK
  clear hK
  obtain ⟨e0, e1, e2, e3, e4, e5⟩ := cells6 (box_ad H0.out)
  have HM := Lib.hid (may_r x _ w0 (HN.out.below H0.out.below))
  cases hm : x.may with
  | false =>
    rw [hm] at HM
    have E : Hid (y = (zeroNd, 4)) := Lib.hid (by rw [HY.out]; unfold turnR; rw [if_pos (.inl hm)])
    clear hm
    go_wp2_with fail
    refine HM.out.mono ?_
    rintro e w1 ⟨rfl, hb⟩
    have S1 := Lib.hid (H0.out.on hb)
    clear hb HM H0 e0 e1 e2 e3 e4 e5
    have q5 := out_ad S1.out
    obtain ⟨d0, d1, d2, d3, d4, d5⟩ := cells6 q5
    have fz0 := q5.frozen 0
    have fz1 := q5.frozen 1
    have fz2 := q5.frozen 2
    have fz3 := q5.frozen 3
    have fz4 := q5.frozen 4
    have fz5 := q5.frozen 5
    have l6 := q5.lt
    obtain ⟨VV, hV, hg, q6⟩ := six_stores (.int .i64 0) (.string { data := #[] }) (.string { data := #[] }) (.string { data := #[] }) (.slice none 0 0) (.slice none 0 0) q5
    have HF := Lib.hid (zero_out (c := 4) S1.out.below hg (by omega))
    clear hg q5
    go_wp2
    rw [← hV]
    clear hV d0 d1 d2 d3 d4 d5 fz0 fz1 fz2 fz3 fz4 fz5
    obtain ⟨c0, c1, c2, c3, c4, c5⟩ := cells6 q6
    exact bodyPost_ret (v := .tuple #[.agg #[.int .i64 0, .string { data := #[] }, .string { data := #[] }, .string { data := #[] }, .slice none 0 0, .slice none 0 0], .int .i64 4]) (by simp [results, Tryz.results34, go_sem, c0, c1, c2, c3, c4, c5]) rfl (by rw [E.out]; exact HF.out)
  | true =>
    rw [hm] at HM
    have HMAY := Lib.hid hm
    clear hm
    go_wp2_with fail
    refine HM.out.mono ?_
    rintro e w1 ⟨rfl, hb⟩
    have S1 := Lib.hid (H0.out.on hb)
    clear hb HM H0 e0 e1 e2 e3 e4 e5
    obtain ⟨r6, r7⟩ := ref_cells S1.out
    have hkd := kid_r r w1
    unfold refV at hkd
    have HKD := Lib.hid hkd
    clear hkd
    cases hkr : kidN r with
    | false =>
      rw [hkr] at HKD
      have E : Hid (y = (zeroNd, 4)) := Lib.hid (by rw [HY.out]; unfold turnR; rw [if_pos (.inr hkr)])
      clear hkr
      go_wp2_with fail
      refine HKD.out.mono ?_
      rintro e w2 ⟨rfl, hb⟩
      have S2 := Lib.hid (S1.out.on hb)
      clear hb HKD S1 r6 r7
      have q5 := out_ad S2.out
      obtain ⟨d0, d1, d2, d3, d4, d5⟩ := cells6 q5
      have fz0 := q5.frozen 0
      have fz1 := q5.frozen 1
      have fz2 := q5.frozen 2
      have fz3 := q5.frozen 3
      have fz4 := q5.frozen 4
      have fz5 := q5.frozen 5
      have l6 := q5.lt
      obtain ⟨VV, hV, hg, q6⟩ := six_stores (.int .i64 0) (.string { data := #[] }) (.string { data := #[] }) (.string { data := #[] }) (.slice none 0 0) (.slice none 0 0) q5
      have HF := Lib.hid (zero_out (c := 4) S2.out.below hg (by omega))
      clear hg q5
      go_wp2
      rw [← hV]
      clear hV d0 d1 d2 d3 d4 d5 fz0 fz1 fz2 fz3 fz4 fz5
      obtain ⟨c0, c1, c2, c3, c4, c5⟩ := cells6 q6
      exact bodyPost_ret (v := .tuple #[.agg #[.int .i64 0, .string { data := #[] }, .string { data := #[] }, .string { data := #[] }, .slice none 0 0, .slice none 0 0], .int .i64 4]) (by simp [results, Tryz.results34, go_sem, c0, c1, c2, c3, c4, c5]) rfl (by rw [E.out]; exact HF.out)
    | true =>
      rw [hkr] at HKD
      have E0 : Hid (y = if (findN x b).isSome = false then (zeroNd, 5) else (madeN x x.bytes (turnL x b r) true, 0)) := Lib.hid (by rw [HY.out]; unfold turnR; rw [if_neg (by rw [HMAY.out, hkr]; simp)])
      clear hkr
      go_wp2_with fail
      refine HKD.out.mono ?_
      rintro e w2 ⟨rfl, hb⟩
      have S2 := Lib.hid (S1.out.on hb)
      clear hb HKD S1 r6 r7
      go_wp2_with fail
      refine HK1.out _ _ ?_
      clear HK1
      refine wp_seq_k fun K2 hK => ?_
      have HK2 := Lib.hid hK
      clear hK
      obtain ⟨e0, e1, e2, e3, e4, e5⟩ := cells6 (box_ad S2.out)
      have hf := Find_r x _ b w2 (HN.out.below S2.out.below) hb256
      obtain ⟨q, hq⟩ : ∃ q, q = findN x b := ⟨_, rfl⟩
      have HQ := Lib.hid hq
      rw [← hq] at hf E0
      clear hq
      unfold optV refV at hf
      have HF0 := Lib.hid hf
      clear hf
      go_wp2_with fail
      refine HF0.out.mono ?_
      rintro e w3 ⟨rfl, hb⟩
      have S3 := Lib.hid ((S2.out.on hb).on (below_box w3 (.cells #[.int .i64 (q.getD (0, 0)).1, .int .u32 (q.getD (0, 0)).2] 29)))
      clear hb S2 HF0 e0 e1 e2 e3 e4 e5
      go_wp2_with fail
      refine HK2.out _ _ ?_
      clear HK2
      generalize w3.alloc _ = w4 at S3 ⊢
      refine wp_seq_k fun K3 hK => ?_
      have HK3 := Lib.hid hK
      clear hK
      cases q with
      | none =>
        have E : Hid (y = (zeroNd, 5)) := Lib.hid (by rw [E0.out]; rfl)
        simp only [Option.isSome_none, Option.getD_none]
        have q5 := out_ad S3.out
        obtain ⟨d0, d1, d2, d3, d4, d5⟩ := cells6 q5
        have fz0 := q5.frozen 0
        have fz1 := q5.frozen 1
        have fz2 := q5.frozen 2
        have fz3 := q5.frozen 3
        have fz4 := q5.frozen 4
        have fz5 := q5.frozen 5
        have l6 := q5.lt
        obtain ⟨VV, hV, hg, q6⟩ := six_stores (.int .i64 0) (.string { data := #[] }) (.string { data := #[] }) (.string { data := #[] }) (.slice none 0 0) (.slice none 0 0) q5
        have HF := Lib.hid (zero_out (c := 5) S3.out.below hg (by omega))
        clear hg q5
        go_wp2
        rw [← hV]
        clear hV d0 d1 d2 d3 d4 d5 fz0 fz1 fz2 fz3 fz4 fz5
        obtain ⟨c0, c1, c2, c3, c4, c5⟩ := cells6 q6
        exact bodyPost_ret (v := .tuple #[.agg #[.int .i64 0, .string { data := #[] }, .string { data := #[] }, .string { data := #[] }, .slice none 0 0, .slice none 0 0], .int .i64 5]) (by simp [results, Tryz.results34, go_sem, c0, c1, c2, c3, c4, c5]) rfl (by rw [E.out]; exact HF.out)
      | some q0 =>
        have E : Hid (y = (madeN x x.bytes (turnL x b r) true, 0)) := Lib.hid (by rw [E0.out]; rfl)
        have HPOS : Hid (0 < x.kids.length) := Lib.hid (by
          rcases Nat.eq_zero_or_pos x.kids.length with h0 | h0
          · exfalso
            have hl := (inner_parts (may_inner HMAY.out)).2.2.2.2.1
            have := find_miss (x := x) (b := b) HR.out.2.2.1 hb256 (fun j h => by omega)
            rw [← HQ.out] at this
            cases this
          · exact h0)
        clear E0
        simp only [Option.isSome_some, Option.getD_some]
        go_wp2_with fail
        refine HK3.out _ _ ?_
        clear HK3
        rw [E.out]
        exact turn2 x b r w w4 Ab cb Ak ck HN.out HR.out.1 HR.out.2.1 HR.out.2.2.2 HMAY.out HPOS.out S3.out
end Go.Proofs.YtgjgcbemgmkncaaGreatDoor
namespace Go.Proofs.YtgjgcbemgmkncaaGreatDoor
open Go.RowKit Go.Shelf
set_option linter.unusedVariables false
set_option linter.unusedSimpArgs false

set_option maxHeartbeats 12800000 in
set_option maxRecDepth 100000 in
theorem turns_n (x : Nd) (V : Value) (b : Nat) (r : Int × Int) (keep : Bool) (w : World) (h : NdAt w x V) (hr : RoomsAt w) (hb256 : b < 256) (hrok : refOk r) (hl1 : x.bytes.length ≤ 65536) (hl2 : x.kids.length ≤ 65536) : Calls Tryz.prog 10 #[V, .int .u8 (b : Int), refV r, .bool keep] w (BoolEnd true w) := by
  obtain ⟨hwf, Ab, cb, Ak, ck, rfl, hb0, hk0⟩ := h
  have hnd : NdAt w x (x.v Ab cb Ak ck) := ⟨hwf, Ab, cb, Ak, ck, rfl, hb0, hk0⟩
  have hle := fun W hW => LentNode_n x (x.v Ab cb Ak ck) W hW hl1 hl2
  have hov := fun (W : World) (B g1 c1 g2 c2 : Nat) hL => OverNode_n x B g1 c1 g2 c2 W hL hl1 hl2
  have hke := fun (W : World) (B g1 c1 g2 c2 : Nat) hL (hn : NdAt W x (x.v Ab cb Ak ck)) => KeptNode_n x B g1 c1 g2 c2 _ W hL hn hl1 hl2
  have h0 : Ctx w [] ((w.alloc (.cells #[.int .i64 x.kind, .string x.code, .string x.value, .string x.path, .slice Ab x.bytes.length cb, .slice Ak x.kids.length ck] 26)).alloc (.cells #[.int .i64 r.1, .int .u32 r.2] 29)) ∧ Blk ((w.alloc (.cells #[.int .i64 x.kind, .string x.code, .string x.value, .string x.path, .slice Ab x.bytes.length cb, .slice Ak x.kids.length ck] 26)).alloc (.cells #[.int .i64 r.1, .int .u32 r.2] 29)) w.heap.size 26 #[.int .i64 x.kind, .string x.code, .string x.value, .string x.path, .slice Ab x.bytes.length cb, .slice Ak x.kids.length ck] ∧ Blk ((w.alloc (.cells #[.int .i64 x.kind, .string x.code, .string x.value, .string x.path, .slice Ab x.bytes.length cb, .slice Ak x.kids.length ck] 26)).alloc (.cells #[.int .i64 r.1, .int .u32 r.2] 29)) (w.heap.size + 1) 29 #[.int .i64 r.1, .int .u32 r.2] := by
    have m := ((MkW.start w).push rfl 26 #[.int .i64 x.kind, .string x.code, .string x.value, .string x.path, .slice Ab x.bytes.length cb, .slice Ak x.kids.length ck]).push (by simp) 29 #[.int .i64 r.1, .int .u32 r.2]
    exact ⟨(Ctx.start hr).on m.below, (m.blk (w.heap.size, 26, #[.int .i64 x.kind, .string x.code, .string x.value, .string x.path, .slice Ab x.bytes.length cb, .slice Ak x.kids.length ck]) (by simp)).2, (m.blk (w.heap.size + 1, 29, #[.int .i64 r.1, .int .u32 r.2]) (by simp)).2⟩
  unfold Nd.v at hnd hle hov hke ⊢
  have HN : Hid (∀ W, Below w.heap.size w W → NdAt W x (.agg #[.int .i64 x.kind, .string x.code, .string x.value, .string x.path, .slice Ab x.bytes.length cb, .slice Ak x.kids.length ck])) := Lib.hid (fun W hb => hnd.below hb)
  have HLE := Lib.hid hle
  have HOV := Lib.hid hov
  have HKE := Lib.hid hke
  have HR := Lib.hid (And.intro hr (And.intro hwf hrok))
  have H0 := Lib.hid h0
  unfold refV
  clear h0 hwf hb0 hk0 hnd hle hov hke hr hrok
  go_enter Tryz.func10, Tryz.ntmps10
  refine wp_seq_k fun K0 hK => ?_
  have HK0 := Lib.hid hK
  clear hK
  go_wp2_with fail
  refine HK0.out _ _ ?_
  clear HK0
  generalize (w.alloc _).alloc _ = w0 at H0 ⊢
  generalize hG : w.heap.size = B0 at H0 ⊢
  generalize B0 + 1 = B1 at H0 ⊢
  clear hG
  refine wp_seq_k fun K1 hK => ?_
  have HK1 := Lib.hid hK
  clear hK
  obtain ⟨e0, e1, e2, e3, e4, e5⟩ := cells6 H0.out.2.1
  have hc := HLE.out w0 (HN.out w0 H0.out.1.below)
  have HX := Lib.hid hc
  clear hc HLE
  go_wp2_with fail
  refine HX.out.mono ?_
  rintro e w1 ⟨g1, c1, g2, c2, rfl, hL, hb⟩
  have H1 : Hid (TuW w x Ab cb Ak ck r B0 B1 w1.heap.size g1 c1 g2 c2 [] (w1.alloc (.cells #[.int .i64 x.kind, .string x.code, .string x.value, .string x.path, .slice (some ⟨g1, 0, none⟩) x.bytes.length c1, .slice (some ⟨g2, 0, none⟩) x.kids.length c2] 26))) := Lib.hid (by
    have k1 := H0.out.1.on hb
    have k2 := below_box w1 (.cells #[.int .i64 x.kind, .string x.code, .string x.value, .string x.path, .slice (some ⟨g1, 0, none⟩) x.bytes.length c1, .slice (some ⟨g2, 0, none⟩) x.kids.length c2] 26)
    have k3 := hb.trans (k2.mono hb.size)
    have hL1 : LentNd w.heap.size w1 x g1 c1 g2 c2 := { hL with
      own1 := ownsRow_more hL.own1 H0.out.1.below.size
      own2 := by obtain ⟨B2, hB, ho⟩ := hL.own2; exact ⟨B2, Nat.le_trans H0.out.1.below.size hB, ho⟩ }
    exact ⟨k1.on k2, H0.out.2.1.below k3 H0.out.2.1.lt, H0.out.2.2.below k3 H0.out.2.2.lt, Blk.new _ _ _, hL1.below k2, fun b hm => by cases hm⟩)
  clear hb hL HX H0 e0 e1 e2 e3 e4 e5
  unfold Nd.v
  go_wp2_with fail
  refine HK1.out _ _ ?_
  clear HK1
  generalize w1.alloc _ = W1 at H1 ⊢
  generalize w1.heap.size = B2 at H1 ⊢
  refine wp_seq_k fun K2 hK => ?_
  have HK2 := Lib.hid hK
  clear hK
  obtain ⟨e0, e1, e2, e3, e4, e5⟩ := cells6 H1.out.boxi
  obtain ⟨r0, r1⟩ : W1.cell? ⟨B1, 0, none⟩ = some (.int .i64 r.1) ∧ W1.cell? ⟨B1, 1, none⟩ = some (.int .u32 r.2) := ⟨H1.out.boxr.cell 0, H1.out.boxr.cell 1⟩
  have hc : Calls Tryz.prog 16 #[.agg #[.int .i64 x.kind, .string x.code, .string x.value, .string x.path, .slice (some ⟨g1, 0, none⟩) x.bytes.length c1, .slice (some ⟨g2, 0, none⟩) x.kids.length c2], .int .u8 (b : Int), .agg #[.int .i64 r.1, .int .u32 r.2], .bool keep] W1 (NdPair (addN x b r keep).1 (addN x b r keep).2 W1) := Add_n x _ b r keep _ (H1.out.lent.node HR.out.2.1) H1.out.ctx.rooms hb256 HR.out.2.2
  have HX := Lib.hid hc
  clear hc
  obtain ⟨p1, hp1⟩ : ∃ p, p = (addN x b r keep).1 := ⟨_, rfl⟩
  obtain ⟨k1, hk1⟩ : ∃ p, p = (addN x b r keep).2 := ⟨_, rfl⟩
  have HP1 := Lib.hid (And.intro hp1 hk1)
  clear hp1 hk1
  rw [← HP1.out.1, ← HP1.out.2] at HX
  go_wp2_with fail
  refine HX.out.mono ?_
  rintro e v1 ⟨VV, rfl, hnd, hb, hrow⟩
  obtain ⟨P1, d1, Q1, f1, rfl, hnd⟩ := open_nd hnd
  unfold Nd.v at hnd hrow ⊢
  have H2 := Lib.hid (H1.out.push hb hnd hrow)
  clear hb hnd hrow HX H1 e0 e1 e2 e3 e4 e5 r0 r1
  go_wp2_with fail
  refine HK2.out _ _ ?_
  clear HK2
  generalize v1.alloc _ = W2 at H2 ⊢
  generalize v1.heap.size = G1 at H2 ⊢
  refine wp_seq_k fun K2 hK => ?_
  have HK2 := Lib.hid hK
  clear hK
  obtain ⟨e0, e1, e2, e3, e4, e5⟩ := cells6 H2.out.boxn
  obtain ⟨r0, r1⟩ : W2.cell? ⟨B1, 0, none⟩ = some (.int .i64 r.1) ∧ W2.cell? ⟨B1, 1, none⟩ = some (.int .u32 r.2) := ⟨H2.out.boxr.cell 0, H2.out.boxr.cell 1⟩
  have hc : Calls Tryz.prog 31 #[.agg #[.int .i64 x.kind, .string x.code, .string x.value, .string x.path, .slice Ab x.bytes.length cb, .slice Ak x.kids.length ck], .int .u8 (b : Int), .agg #[.int .i64 r.1, .int .u32 r.2], .bool keep] W2 (NdPair (addN x b r keep).1 (addN x b r keep).2 W2) := by rw [← addR_eq HR.out.2.1 hb256 r keep]; exact Add_r x _ b r keep _ (HN.out _ H2.out.ctx.below) hb256 HR.out.2.2
  have HX := Lib.hid hc
  clear hc
  rw [← HP1.out.1, ← HP1.out.2] at HX
  go_wp2_with fail
  refine HX.out.mono ?_
  rintro e v1 ⟨VV, rfl, hnd, hb, hrow⟩
  obtain ⟨P2, d2, Q2, f2, rfl, hnd⟩ := open_nd hnd
  unfold Nd.v at hnd hrow ⊢
  have H3 := Lib.hid (H2.out.push hb hnd hrow)
  clear hb hnd hrow HX H2 e0 e1 e2 e3 e4 e5 r0 r1
  go_wp2_with fail
  refine HK2.out _ _ ?_
  clear HK2
  generalize v1.alloc _ = W3 at H3 ⊢
  generalize v1.heap.size = G2 at H3 ⊢
  refine wp_seq_k fun K2 hK => ?_
  have HK2 := Lib.hid hK
  clear hK
  obtain ⟨e0, e1, e2, e3, e4, e5⟩ := cells6 H3.out.boxi
  obtain ⟨r0, r1⟩ : W3.cell? ⟨B1, 0, none⟩ = some (.int .i64 r.1) ∧ W3.cell? ⟨B1, 1, none⟩ = some (.int .u32 r.2) := ⟨H3.out.boxr.cell 0, H3.out.boxr.cell 1⟩
  have hc : Calls Tryz.prog 17 #[.agg #[.int .i64 x.kind, .string x.code, .string x.value, .string x.path, .slice (some ⟨g1, 0, none⟩) x.bytes.length c1, .slice (some ⟨g2, 0, none⟩) x.kids.length c2], .int .u8 (b : Int), .bool keep] W3 (NdPair (cutN x b keep).1 (cutN x b keep).2 W3) := Cut_n x _ b keep _ (H3.out.lent.node HR.out.2.1) H3.out.ctx.rooms hb256
  have HX := Lib.hid hc
  clear hc
  obtain ⟨p2, hp2⟩ : ∃ p, p = (cutN x b keep).1 := ⟨_, rfl⟩
  obtain ⟨k2, hk2⟩ : ∃ p, p = (cutN x b keep).2 := ⟨_, rfl⟩
  have HP2 := Lib.hid (And.intro hp2 hk2)
  clear hp2 hk2
  rw [← HP2.out.1, ← HP2.out.2] at HX
  go_wp2_with fail
  refine HX.out.mono ?_
  rintro e v1 ⟨VV, rfl, hnd, hb, hrow⟩
  obtain ⟨P3, d3, Q3, f3, rfl, hnd⟩ := open_nd hnd
  unfold Nd.v at hnd hrow ⊢
  have H4 := Lib.hid (H3.out.push hb hnd hrow)
  clear hb hnd hrow HX H3 e0 e1 e2 e3 e4 e5 r0 r1
  go_wp2_with fail
  refine HK2.out _ _ ?_
  clear HK2
  generalize v1.alloc _ = W4 at H4 ⊢
  generalize v1.heap.size = G3 at H4 ⊢
  refine wp_seq_k fun K2 hK => ?_
  have HK2 := Lib.hid hK
  clear hK
  obtain ⟨e0, e1, e2, e3, e4, e5⟩ := cells6 H4.out.boxn
  obtain ⟨r0, r1⟩ : W4.cell? ⟨B1, 0, none⟩ = some (.int .i64 r.1) ∧ W4.cell? ⟨B1, 1, none⟩ = some (.int .u32 r.2) := ⟨H4.out.boxr.cell 0, H4.out.boxr.cell 1⟩
  have hc : Calls Tryz.prog 32 #[.agg #[.int .i64 x.kind, .string x.code, .string x.value, .string x.path, .slice Ab x.bytes.length cb, .slice Ak x.kids.length ck], .int .u8 (b : Int), .bool keep] W4 (NdPair (cutN x b keep).1 (cutN x b keep).2 W4) := by rw [← cutR_eq HR.out.2.1 hb256 keep]; exact Cut_r x _ b keep _ (HN.out _ H4.out.ctx.below) hb256
  have HX := Lib.hid hc
  clear hc
  rw [← HP2.out.1, ← HP2.out.2] at HX
  go_wp2_with fail
  refine HX.out.mono ?_
  rintro e v1 ⟨VV, rfl, hnd, hb, hrow⟩
  obtain ⟨P4, d4, Q4, f4, rfl, hnd⟩ := open_nd hnd
  unfold Nd.v at hnd hrow ⊢
  have H5 := Lib.hid (H4.out.push hb hnd hrow)
  clear hb hnd hrow HX H4 e0 e1 e2 e3 e4 e5 r0 r1
  go_wp2_with fail
  refine HK2.out _ _ ?_
  clear HK2
  generalize v1.alloc _ = W5 at H5 ⊢
  generalize v1.heap.size = G4 at H5 ⊢
  refine wp_seq_k fun K2 hK => ?_
  have HK2 := Lib.hid hK
  clear hK
  obtain ⟨e0, e1, e2, e3, e4, e5⟩ := cells6 H5.out.boxi
  obtain ⟨r0, r1⟩ : W5.cell? ⟨B1, 0, none⟩ = some (.int .i64 r.1) ∧ W5.cell? ⟨B1, 1, none⟩ = some (.int .u32 r.2) := ⟨H5.out.boxr.cell 0, H5.out.boxr.cell 1⟩
  have hc : Calls Tryz.prog 33 #[.agg #[.int .i64 x.kind, .string x.code, .string x.value, .string x.path, .slice (some ⟨g1, 0, none⟩) x.bytes.length c1, .slice (some ⟨g2, 0, none⟩) x.kids.length c2], .int .u8 (b : Int), .agg #[.int .i64 r.1, .int .u32 r.2]] W5 (NdPair (turnN x b r).1 (turnN x b r).2 W5) := Turn_n x _ b r _ (H5.out.lent.node HR.out.2.1) H5.out.ctx.rooms hb256 HR.out.2.2
  have HX := Lib.hid hc
  clear hc
  obtain ⟨p3, hp3⟩ : ∃ p, p = (turnN x b r).1 := ⟨_, rfl⟩
  obtain ⟨k3, hk3⟩ : ∃ p, p = (turnN x b r).2 := ⟨_, rfl⟩
  have HP3 := Lib.hid (And.intro hp3 hk3)
  clear hp3 hk3
  rw [← HP3.out.1, ← HP3.out.2] at HX
  go_wp2_with fail
  refine HX.out.mono ?_
  rintro e v1 ⟨VV, rfl, hnd, hb, hrow⟩
  obtain ⟨P5, d5, Q5, f5, rfl, hnd⟩ := open_nd hnd
  unfold Nd.v at hnd hrow ⊢
  have H6 := Lib.hid (H5.out.push hb hnd hrow)
  clear hb hnd hrow HX H5 e0 e1 e2 e3 e4 e5 r0 r1
  go_wp2_with fail
  refine HK2.out _ _ ?_
  clear HK2
  generalize v1.alloc _ = W6 at H6 ⊢
  generalize v1.heap.size = G5 at H6 ⊢
  refine wp_seq_k fun K2 hK => ?_
  have HK2 := Lib.hid hK
  clear hK
  obtain ⟨e0, e1, e2, e3, e4, e5⟩ := cells6 H6.out.boxn
  obtain ⟨r0, r1⟩ : W6.cell? ⟨B1, 0, none⟩ = some (.int .i64 r.1) ∧ W6.cell? ⟨B1, 1, none⟩ = some (.int .u32 r.2) := ⟨H6.out.boxr.cell 0, H6.out.boxr.cell 1⟩
  have hc : Calls Tryz.prog 34 #[.agg #[.int .i64 x.kind, .string x.code, .string x.value, .string x.path, .slice Ab x.bytes.length cb, .slice Ak x.kids.length ck], .int .u8 (b : Int), .agg #[.int .i64 r.1, .int .u32 r.2]] W6 (NdPair (turnN x b r).1 (turnN x b r).2 W6) := by rw [← turnR_eq HR.out.2.1 hb256 r]; exact Turn_r x _ b r _ (HN.out _ H6.out.ctx.below) hb256 HR.out.2.2
  have HX := Lib.hid hc
  clear hc
  rw [← HP3.out.1, ← HP3.out.2] at HX
  go_wp2_with fail
  refine HX.out.mono ?_
  rintro e v1 ⟨VV, rfl, hnd, hb, hrow⟩
  obtain ⟨P6, d6, Q6, f6, rfl, hnd⟩ := open_nd hnd
  unfold Nd.v at hnd hrow ⊢
  have H7 := Lib.hid (H6.out.push hb hnd hrow)
  clear hb hnd hrow HX H6 e0 e1 e2 e3 e4 e5 r0 r1
  go_wp2_with fail
  refine HK2.out _ _ ?_
  clear HK2
  generalize v1.alloc _ = W7 at H7 ⊢
  generalize v1.heap.size = G6 at H7 ⊢
  refine wp_seq_k fun KB hK => ?_
  have HKB := Lib.hid hK
  clear hK
  refine wp_seq_k fun K3 hK => ?_
  have HK3 := Lib.hid hK
  clear hK
  have n1 : (k1 != k1) = false := by simp
  have n2 : (k2 != k2) = false := by simp
  have n3 : (k3 != k3) = false := by simp
  obtain ⟨e0, e1, e2, e3, e4, e5⟩ := cells6 H7.out.boxn
  obtain ⟨i0, i1, i2, i3, i4, i5⟩ := cells6 H7.out.boxi
  have hc := HKE.out W7 w.heap.size g1 c1 g2 c2 H7.out.lent (HN.out _ H7.out.ctx.below)
  have HX := Lib.hid hc
  clear hc
  go_wp2_with fail
  refine HX.out.mono ?_
  rintro e V1 ⟨rfl, hb⟩
  have J1 := Lib.hid (H7.out.on hb)
  clear hb HX e0 e1 e2 e3 e4 e5 i0 i1 i2 i3 i4 i5 n1 n2 n3 H7 HKE
  obtain ⟨a10, a11, a12, a13, a14, a15⟩ := cells6 J1.out.ctx.b5.blk
  obtain ⟨a20, a21, a22, a23, a24, a25⟩ := cells6 J1.out.ctx.b4.blk
  have hc := SameNode_n p1 p1 _ _ V1 J1.out.ctx.b5.node J1.out.ctx.b4.node
  unfold Nd.v at hc
  have HX := Lib.hid hc
  clear hc
  go_wp2_with fail
  refine HX.out.mono ?_
  rintro e V2 ⟨rfl, hb⟩
  rw [sameN_refl]
  have J2 := Lib.hid (J1.out.on hb)
  clear hb HX J1 a10 a11 a12 a13 a14 a15 a20 a21 a22 a23 a24 a25
  obtain ⟨a30, a31, a32, a33, a34, a35⟩ := cells6 J2.out.ctx.b3.blk
  obtain ⟨a40, a41, a42, a43, a44, a45⟩ := cells6 J2.out.ctx.b2.blk
  have hc := SameNode_n p2 p2 _ _ V2 J2.out.ctx.b3.node J2.out.ctx.b2.node
  unfold Nd.v at hc
  have HX := Lib.hid hc
  clear hc
  go_wp2_with fail
  refine HX.out.mono ?_
  rintro e V3 ⟨rfl, hb⟩
  rw [sameN_refl]
  have J3 := Lib.hid (J2.out.on hb)
  clear hb HX J2 a30 a31 a32 a33 a34 a35 a40 a41 a42 a43 a44 a45
  obtain ⟨a50, a51, a52, a53, a54, a55⟩ := cells6 J3.out.ctx.b1.blk
  obtain ⟨a60, a61, a62, a63, a64, a65⟩ := cells6 J3.out.ctx.b0.blk
  have hc := SameNode_n p3 p3 _ _ V3 J3.out.ctx.b1.node J3.out.ctx.b0.node
  unfold Nd.v at hc
  have HX := Lib.hid hc
  clear hc
  go_wp2_with fail
  refine HX.out.mono ?_
  rintro e V4 ⟨rfl, hb⟩
  rw [sameN_refl]
  have J4 := Lib.hid (J3.out.on hb)
  clear hb HX J3 a50 a51 a52 a53 a54 a55 a60 a61 a62 a63 a64 a65
  go_wp2_with fail
  refine HK3.out _ _ ?_
  clear HK3
  go_wp2_with fail
  refine HKB.out _ _ ?_
  clear HKB
  refine wp_seq_k fun K4 hK => ?_
  have HK4 := Lib.hid hK
  clear hK
  obtain ⟨i0, i1, i2, i3, i4, i5⟩ := cells6 J4.out.boxi
  have hc := HOV.out V4 w.heap.size g1 c1 g2 c2 J4.out.lent
  have HX := Lib.hid hc
  clear hc
  go_wp2_with fail
  refine HX.out.mono ?_
  rintro e X1 ⟨⟨vv, rfl⟩, wa, wb, ha, hb, hc⟩
  have L1 := Lib.hid (J4.out.over HR.out.1 ha hb hc)
  clear ha hb hc HX J4 i0 i1 i2 i3 i4 i5 HOV
  go_wp2_with fail
  refine HK4.out _ _ ?_
  clear HK4
  obtain ⟨a10, a11, a12, a13, a14, a15⟩ := cells6 L1.out.b5.blk
  obtain ⟨a20, a21, a22, a23, a24, a25⟩ := cells6 L1.out.b4.blk
  have hc := SameNode_n p1 p1 _ _ X1 L1.out.b5.node L1.out.b4.node
  unfold Nd.v at hc
  have HX := Lib.hid hc
  clear hc
  go_wp2_with fail
  refine HX.out.mono ?_
  rintro e X2 ⟨rfl, hb⟩
  rw [sameN_refl]
  have L2 := Lib.hid (L1.out.on hb)
  clear hb HX L1 a10 a11 a12 a13 a14 a15 a20 a21 a22 a23 a24 a25
  obtain ⟨a30, a31, a32, a33, a34, a35⟩ := cells6 L2.out.b3.blk
  obtain ⟨a40, a41, a42, a43, a44, a45⟩ := cells6 L2.out.b2.blk
  have hc := SameNode_n p2 p2 _ _ X2 L2.out.b3.node L2.out.b2.node
  unfold Nd.v at hc
  have HX := Lib.hid hc
  clear hc
  go_wp2_with fail
  refine HX.out.mono ?_
  rintro e X3 ⟨rfl, hb⟩
  rw [sameN_refl]
  have L3 := Lib.hid (L2.out.on hb)
  clear hb HX L2 a30 a31 a32 a33 a34 a35 a40 a41 a42 a43 a44 a45
  obtain ⟨a50, a51, a52, a53, a54, a55⟩ := cells6 L3.out.b1.blk
  obtain ⟨a60, a61, a62, a63, a64, a65⟩ := cells6 L3.out.b0.blk
  have hc := SameNode_n p3 p3 _ _ X3 L3.out.b1.node L3.out.b0.node
  unfold Nd.v at hc
  have HX := Lib.hid hc
  clear hc
  go_wp2_with fail
  refine HX.out.mono ?_
  rintro e X4 ⟨rfl, hb⟩
  rw [sameN_refl]
  have L4 := Lib.hid (L3.out.on hb)
  clear hb HX L3 a50 a51 a52 a53 a54 a55 a60 a61 a62 a63 a64 a65
  go_wp2
  go_ret
  exact ⟨rfl, L4.out.below⟩
end Go.Proofs.YtgjgcbemgmkncaaGreatDoor
namespace Go.Proofs.YtgjgcbemgmkncaaGreatDoor
open Go.RowKit Go.Shelf
set_option linter.unusedVariables false
set_option linter.unusedSimpArgs false

set_option maxHeartbeats 6400000 in
set_option maxRecDepth 100000 in
theorem nodeTells_n (x : Nd) (V : Value) (b : Nat) (c : Int) (r : Int × Int) (keep : Bool) (w : World) (h : NdAt w x V) (hr : RoomsAt w) (hb256 : b < 256) (hrok : refOk r) : Calls Tryz.prog 3 #[V, .int .u8 (b : Int), .int .i64 c, .agg #[.int .i64 r.1, .int .u32 r.2], .bool keep] w (BoolEnd true w) := by
  obtain ⟨hwf, Ab, cb, Ak, ck, rfl, hb0, hk0⟩ := h
  have hnd : NdAt w x (x.v Ab cb Ak ck) := ⟨hwf, Ab, cb, Ak, ck, rfl, hb0, hk0⟩
  have h0 : MkW w (w.heap.size + 1 + 1) [(w.heap.size + 1, 29, #[.int .i64 r.1, .int .u32 r.2]), (w.heap.size, 26, #[.int .i64 x.kind, .string x.code, .string x.value, .string x.path, .slice Ab x.bytes.length cb, .slice Ak x.kids.length ck])] ((w.alloc (.cells #[.int .i64 x.kind, .string x.code, .string x.value, .string x.path, .slice Ab x.bytes.length cb, .slice Ak x.kids.length ck] 26)).alloc (.cells #[.int .i64 r.1, .int .u32 r.2] 29)) := ((MkW.start w).push rfl 26 #[.int .i64 x.kind, .string x.code, .string x.value, .string x.path, .slice Ab x.bytes.length cb, .slice Ak x.kids.length ck]).push (by simp) 29 #[.int .i64 r.1, .int .u32 r.2]
  have H0 := Lib.hid h0
  unfold Nd.v at hnd ⊢
  have HN : Hid (∀ W, Below w.heap.size w W → NdAt W x (.agg #[.int .i64 x.kind, .string x.code, .string x.value, .string x.path, .slice Ab x.bytes.length cb, .slice Ak x.kids.length ck]) ∧ RoomsAt W) := Lib.hid (fun W hb => ⟨hnd.below hb, hr.on hb⟩)
  have HRO := Lib.hid hrok
  clear hwf hb0 hk0 hnd h0 hr hrok
  go_enter Tryz.func3, Tryz.ntmps3
  refine wp_seq_k fun K0 hK => ?_
  have HK0 := Lib.hid hK
  clear hK
  go_wp2_with fail
  refine HK0.out _ _ ?_
  clear HK0
  generalize (w.alloc _).alloc _ = w0 at H0 ⊢
  generalize hG : w.heap.size = B0 at H0 ⊢
  generalize B0 + 1 = B1 at H0 ⊢
  clear hG
  refine wp_seq_k fun K1 hK => ?_
  have HK1 := Lib.hid hK
  clear hK
  obtain ⟨e0, e1, e2, e3, e4, e5⟩ := cells6 (H0.out.get (g := B0) (t := 26) (cs := #[.int .i64 x.kind, .string x.code, .string x.value, .string x.path, .slice Ab x.bytes.length cb, .slice Ak x.kids.length ck]) (by simp))
  have hg := great_n x _ w0 (HN.out _ H0.out.below).1
  cases hgr : greatN x with
  | true =>
    rw [hgr] at hg
    have HG := Lib.hid hg
    clear hg hgr
    go_wp2_with fail
    refine HG.out.mono ?_
    rintro e w1 ⟨rfl, hb⟩
    have H1 := Lib.hid (H0.out.on hb)
    clear hb HG H0 e0 e1 e2 e3 e4 e5
    have hx := awake_n w1 (HN.out _ H1.out.below).2
    have HX := Lib.hid hx
    clear hx
    go_wp2_with fail
    refine HX.out.mono ?_
    rintro e w2 ⟨rfl, hb⟩
    have H2 := Lib.hid (H1.out.on hb)
    clear hb HX H1
    go_wp2
    go_ret
    exact ⟨rfl, H2.out.below⟩
  | false =>
    rw [hgr] at hg
    have HG := Lib.hid hg
    have HL : Hid (x.bytes.length ≤ 65536 ∧ x.kids.length ≤ 65536) := Lib.hid (by
      unfold greatN at hgr
      simp only [Bool.or_eq_false_iff, decide_eq_false_iff_not] at hgr
      omega)
    clear hg hgr
    go_wp2_with fail
    refine HG.out.mono ?_
    rintro e w1 ⟨rfl, hb⟩
    have H1 := Lib.hid (H0.out.on hb)
    clear hb HG H0 e0 e1 e2 e3 e4 e5
    go_wp2_with fail
    refine HK1.out _ _ ?_
    clear HK1
    refine wp_seq_k fun K2 hK => ?_
    have HK2 := Lib.hid hK
    clear hK
    obtain ⟨o, ho⟩ : ∃ o, o = ofN c := ⟨_, rfl⟩
    have ho1 := of_n c w1 (HN.out _ H1.out.below).2
    have HO2 : Hid (∀ W, Calls Tryz.prog 8 #[.int .i64 c] W (TwoEnd (.int .i64 o.1) (.bool o.2) W)) := Lib.hid (fun W => by rw [ho]; exact Of_r c W)
    rw [← ho] at ho1
    clear ho
    have HX := Lib.hid ho1
    clear ho1
    go_wp2_with fail
    refine HX.out.mono ?_
    rintro e w2 ⟨rfl, rfl⟩
    clear HX
    go_wp2_with fail
    refine HK2.out _ _ ?_
    clear HK2
    refine wp_seq_k fun K3 hK => ?_
    have HK3 := Lib.hid hK
    clear hK
    go_wp2_with fail
    refine (HO2.out _).mono ?_
    rintro e w3 ⟨rfl, hb⟩
    have H2 := Lib.hid (H1.out.on hb)
    clear hb H1 HO2
    go_wp2_with fail
    refine HK3.out _ _ ?_
    clear HK3
    refine wp_seq_k fun K4 hK => ?_
    have HK4 := Lib.hid hK
    clear hK
    obtain ⟨e0, e1, e2, e3, e4, e5⟩ := cells6 (H2.out.get (g := B0) (t := 26) (cs := #[.int .i64 x.kind, .string x.code, .string x.value, .string x.path, .slice Ab x.bytes.length cb, .slice Ak x.kids.length ck]) (by simp))
    have hx := tells_n x _ b c w3 (HN.out _ H2.out.below).1 (HN.out _ H2.out.below).2 hb256
    have HX := Lib.hid hx
    clear hx
    go_wp2_with fail
    refine HX.out.mono ?_
    rintro e w4 ⟨rfl, hb⟩
    have H3 := Lib.hid (H2.out.on hb)
    clear hb H2 HX e0 e1 e2 e3 e4 e5
    obtain ⟨e0, e1, e2, e3, e4, e5⟩ := cells6 (H3.out.get (g := B0) (t := 26) (cs := #[.int .i64 x.kind, .string x.code, .string x.value, .string x.path, .slice Ab x.bytes.length cb, .slice Ak x.kids.length ck]) (by simp))
    have r0 := (H3.out.get (g := B1) (t := 29) (cs := #[.int .i64 r.1, .int .u32 r.2]) (by simp)).cell 0
    have r1 := (H3.out.get (g := B1) (t := 29) (cs := #[.int .i64 r.1, .int .u32 r.2]) (by simp)).cell 1
    simp only [List.getElem?_toArray, List.getElem?_cons_zero, List.getElem?_cons_succ] at r0 r1
    have hx := turns_n x _ b r keep w4 (HN.out _ H3.out.below).1 (HN.out _ H3.out.below).2 hb256 HRO.out HL.out.1 HL.out.2
    unfold refV at hx
    have HX := Lib.hid hx
    clear hx
    go_wp2_with fail
    refine HX.out.mono ?_
    rintro e w5 ⟨rfl, hb⟩
    have H4 := Lib.hid (H3.out.on hb)
    clear hb H3 HX e0 e1 e2 e3 e4 e5 r0 r1
    obtain ⟨o1, o2⟩ := o
    have n1 : (o1 == o1) = true := by simp
    have n2 : (o2 == o2) = true := by simp
    have n3 : (roomN c == roomN c) = true := by simp
    have hx := room_n c w5 (HN.out _ H4.out.below).2
    have HX := Lib.hid hx
    clear hx
    go_wp2_with fail
    refine HX.out.mono ?_
    rintro e w6 ⟨rfl, rfl⟩
    clear HX
    have hx := Room_r c w6
    have HX := Lib.hid hx
    clear hx
    go_wp2_with fail
    refine HX.out.mono ?_
    rintro e w7 ⟨rfl, hb⟩
    have H5 := Lib.hid (H4.out.on hb)
    clear hb H4 HX
    have hx := awake_n w7 (HN.out _ H5.out.below).2
    have HX := Lib.hid hx
    clear hx
    go_wp2_with fail
    refine HX.out.mono ?_
    rintro e w8 ⟨rfl, hb⟩
    have H6 := Lib.hid (H5.out.on hb)
    clear hb H5 HX
    go_wp2
    refine HK4.out _ _ ?_
    go_wp2
    go_ret
    exact ⟨rfl, H6.out.below⟩
end Go.Proofs.YtgjgcbemgmkncaaGreatDoor
namespace Go.Proofs.YtgjgcbemgmkncaaGreatDoor
open Go.ChangeShapes Go.WideShapes Go.ChangeAt Go.RowKit
set_option linter.unusedVariables false
set_option maxRecDepth 20000
set_option linter.unusedSimpArgs false

theorem gRooms : Tryz.prog.globalNamed "burgage/node.rooms" = some 0 := by kernel_rfl
theorem tRooms : (Tryz.prog.globals[0]?).map (·.type) = some 58 := by kernel_rfl
theorem uRooms : Tryz.prog.underlying 58 = some (.array 6 3) := by kernel_rfl
theorem cellsInt : Tryz.prog.cellsOf 3 = 1 := by kernel_rfl
theorem ints_of_data {H : Type} {enc : TypeId × Value → H} {W : World} {base : Nat} {spare : Nat → Bool} {held : Bool} {fuel : Nat} {cs : List Value} {ks : List Int} {pl : List MemPlace} (hk : ks.length = 6)
    (h : DataW.trod enc Tryz.prog W base spare held fuel 58 cs = some (.agg (ks.map fun k => .lit (.int .i64 k)), pl)) : ∀ i, i < 6 → cs[i]? = (ks[i]?).map fun k => .int .i64 k := by
  obtain ⟨xs, m, _, hx, _, hn, hel⟩ := DataW.trod_array uRooms h
  intro i hi
  have h1 := hel i hi
  rw [cellsInt, Nat.mul_one] at h1
  simp only [Prod.mk.injEq, DataW.agg.injEq] at hx
  obtain ⟨x, hxi⟩ : ∃ x, xs[i]? = some x := ⟨_, List.getElem?_eq_getElem (by omega)⟩
  rw [hxi] at h1
  obtain ⟨n, e1, e2, _⟩ := DataW.trod_int Tryz.underlying3 h1
  have h2 : (xs.map (·.1))[i]? = some (.lit (.int .i64 n)) := by rw [List.getElem?_map, hxi, e2]; rfl
  rw [← hx.1, List.getElem?_map] at h2
  have h3 : (cs.drop i)[0]? = some (.int .i64 n) := by
    have := congrArg (fun l : List Value => l[0]?) e1
    simpa [List.getElem?_take] using this
  rw [List.getElem?_drop, Nat.add_zero] at h3
  rw [h3]
  cases hki : ks[i]? with
  | none => rw [hki] at h2; cases h2
  | some k => rw [hki] at h2; simp at h2; simp [h2]
theorem rooms_of_laid {W : World} (h : laidMetH Tryz.prog [("burgage/node.rooms", Rows.laid_burgage_node_rooms)] W) : RoomsAt W := by
  rw [MakeChecks.laidMetH_plain _ _ _ (by kernel_rfl)] at h
  obtain ⟨ps, ⟨g0, t0, cs0, f0, p0, q0, hg0, ht0, hv0, hd0, _⟩, _⟩ := h
  obtain rfl := Option.some.inj (gRooms.symm.trans hg0)
  obtain rfl := Option.some.inj (tRooms.symm.trans ht0)
  have hc := ints_of_data (ks := [0, 0, 4, 16, 48, 256]) rfl hd0
  have hw : ∀ i, W.cell? ⟨0, i, none⟩ = cs0[i]? := World.var?_cell hg0 hv0
  have hl : ∀ i, cs0[i]? = cs0.toList[i]? := fun i => by first | rw [Array.getElem?_toList] | (cases cs0; rfl)
  unfold RoomsAt
  refine ⟨?_, ?_, ?_, ?_, ?_, ?_⟩
  · rw [hw, hl, hc 0 (by decide)]; rfl
  · rw [hw, hl, hc 1 (by decide)]; rfl
  · rw [hw, hl, hc 2 (by decide)]; rfl
  · rw [hw, hl, hc 3 (by decide)]; rfl
  · rw [hw, hl, hc 4 (by decide)]; rfl
  · rw [hw, hl, hc 5 (by decide)]; rfl
/-- The door's own heap meets the condition. -/
theorem door_met (os : Os) (args : Array Value) : laidMetH Tryz.prog [("burgage/node.rooms", Rows.laid_burgage_node_rooms)] ((World.doorLaid Tryz.prog 400 os).forCall (fun _ _ => 0) ⟨#[], args, []⟩).memory :=
  laidMetH_of_parts3 (fuel := 8) (laidMet_of_run' 8 (by kernel_rfl) (by kernel_rfl)) (by kernel_rfl) (by kernel_rfl)
end Go.Proofs.YtgjgcbemgmkncaaGreatDoor
namespace Go.Proofs.YtgjgcbemgmkncaaGreatDoor
open Go.ChangeShapes Go.WideShapes Go.ChangeAt Go.RowKit
set_option linter.unusedVariables false

theorem flatten_at {sz : Nat} : ∀ (rows : List (List Value)) (j : Nat) (u : Value), (∀ r ∈ rows, r.length = sz) → rows.flatten[j]? = some u → ∃ i cs r, rows[i]? = some cs ∧ cs[r]? = some u ∧ j = i * sz + r
  | [], j, u, _, h => by simp at h
  | r :: rows, j, u, hl, h => by
    have hr := hl r (by simp)
    rw [List.flatten_cons, List.getElem?_append] at h
    split at h
    · exact ⟨0, r, j, by simp, h, by omega⟩
    · rename_i hj
      obtain ⟨i, cs, k, h1, h2, h3⟩ := flatten_at rows (j - r.length) u (fun x hx => hl x (by simp [hx])) h
      exact ⟨i + 1, cs, k, by simpa using h1, h2, by rw [Nat.add_mul]; omega⟩
theorem flatten_len {sz : Nat} : ∀ (rows : List (List Value)), (∀ r ∈ rows, r.length = sz) → rows.flatten.length = rows.length * sz
  | [], _ => by simp
  | r :: rows, hl => by
    rw [List.flatten_cons, List.length_append, hl r (by simp), flatten_len rows (fun x hx => hl x (by simp [hx])), List.length_cons, Nat.add_mul]; omega
theorem SliceRows.reads {w : World} {A : Option Addr} {n cap sz : Nat} {rows : List (List Value)} (h : SliceRows w A n cap sz rows) : Reads w w.heap.size sz A n rows.flatten := by
  obtain ⟨h1, h2, h3, h4, h5, h6⟩ := h
  refine ⟨by rw [flatten_len rows h4, h1], fun hn => ?_⟩
  obtain ⟨a, ha, hb, hc⟩ := h6 0 rows[0] (List.getElem?_eq_getElem (by omega))
  refine ⟨a, ha, hb, fun j u hu => ?_⟩
  obtain ⟨i, cs, r, e1, e2, e3⟩ := flatten_at rows j u h4 hu
  obtain ⟨a', ha', _, hc'⟩ := h6 i cs e1
  rw [ha] at ha'
  simp only [Option.some.injEq] at ha'
  subst ha'
  rw [e3]
  exact hc' r u e2

section
variable {H : Type} {enc : TypeId × Value → H} {P : Program} {w : World} {base : Nat} {spare : Nat → Bool} {held : Bool}
theorem open_rows {r : Reach} {b0 : Nat} {t e : TypeId} {ls : List L0} {v : Value} {d : DataW H} {p : List MemPlace} (ht : P.underlying t = some (.slice e)) (hls : leaves P 9 e = some ls) (hC : P.cellsOf e = ls.length) (hpos : 0 < ls.length)
    (hv : Value.okWide P w r b0 t v) (h : DataW.Trod enc P w base spare held t v d p) :
    ∃ (A : Option Addr) (n cap : Nat) (rows : List (List Value)), v = .slice A n cap ∧ rows.length = n ∧ Reads w w.heap.size ls.length A n rows.flatten ∧ (∀ r ∈ rows, Flat ls r) ∧ n ≤ cap ∧ cap ≤ 9223372036854775807 := by
  obtain ⟨a, len, cap, rfl⟩ := okWide_slice ht hv
  obtain ⟨fuel, hf⟩ := h
  obtain ⟨A, n, cap', rows, hc, hs, hfl, _⟩ := open_flat_slice ht hls hC hpos hf
  simp only [Value.cells, List.cons.injEq, Value.slice.injEq, and_true] at hc
  obtain ⟨rfl, rfl, rfl⟩ := hc
  have h2 := hs.2.2.1
  unfold maxLen at h2
  exact ⟨_, _, _, rows, rfl, hs.1, hs.reads, hfl, hs.2.1, by omega⟩
end

theorem nat_u8 {n : Int} (h : (Lit.int .u8 n).wf = true) : ∃ b : Nat, n = (b : Int) ∧ b < 256 := by
  have h2 : 0 ≤ n ∧ n ≤ 255 := by simpa [Lit.wf, IntKind.min, IntKind.max, IntKind.signed, IntKind.bits] using h
  exact ⟨n.toNat, by omega, by omega⟩
theorem nats_of_rows : ∀ (rows : List (List Value)), (∀ r ∈ rows, Flat [.int .u8] r) → ∃ ps : List Nat, (∀ p ∈ ps, p < 256) ∧ ps.length = rows.length ∧ rows.flatten = ps.flatMap nrow
  | [], _ => ⟨[], by simp, rfl, rfl⟩
  | r :: rows, h => by
    obtain ⟨v1, c1, rfl, ⟨n1, rfl, k1⟩, h1⟩ := Flat.cons_inv (h r (by simp))
    obtain rfl := h1.nil_inv
    obtain ⟨ps, h1, h2, h3⟩ := nats_of_rows rows (fun x hx => h x (by simp [hx]))
    obtain ⟨b, rfl, hb⟩ := nat_u8 k1
    refine ⟨b :: ps, ?_, by simp [h2], by simp [h3, nrow]⟩
    intro x hx
    rcases List.mem_cons.1 hx with rfl | hx
    · exact hb
    · exact h1 x hx

section
variable {H : Type} {enc : TypeId × Value → H} {w : World} {base : Nat} {spare : Nat → Bool} {held : Bool}
set_option maxRecDepth 100000 in
theorem open_nats {r : Reach} {b0 : Nat} {v : Value} {d : DataW H} {p : List MemPlace} (hv : Value.okWide Tryz.prog w r b0 23 v) (h : DataW.Trod enc Tryz.prog w base spare held 23 v d p) :
    ∃ (A : Option Addr) (cap : Nat) (bs : List Nat), v = .slice A bs.length cap ∧ Reads w w.heap.size 1 A bs.length (bs.flatMap nrow) ∧ (∀ b ∈ bs, b < 256) ∧ bs.length ≤ cap ∧ cap ≤ 9223372036854775807 := by
  obtain ⟨A, n, cap, rows, rfl, hn, hr, hf, h1, h2⟩ := open_rows (ls := [.int .u8]) Tryz.underlying23 (by kernel_rfl) (by kernel_rfl) (by decide) hv h
  obtain ⟨cs, g1, g2, g3⟩ := nats_of_rows rows hf
  rw [g3] at hr
  obtain rfl : cs.length = n := by omega
  exact ⟨A, cap, cs, rfl, hr, g1, h1, h2⟩
end
end Go.Proofs.YtgjgcbemgmkncaaGreatDoor
namespace Go.Proofs.YtgjgcbemgmkncaaGreatDoor
open Go.ChangeShapes Go.WideShapes Go.ChangeAt Go.RowKit
set_option linter.unusedVariables false
set_option maxRecDepth 20000
set_option linter.unusedSimpArgs false

theorem refs_of_rows : ∀ (rows : List (List Value)), (∀ r ∈ rows, Flat [.int .i64, .int .u32] r) → ∃ ps : List (Int × Int), (∀ p ∈ ps, refOk p) ∧ ps.length = rows.length ∧ rows.flatten = ps.flatMap rrow
  | [], _ => ⟨[], by simp, rfl, rfl⟩
  | r :: rows, h => by
    obtain ⟨v1, c1, rfl, ⟨n1, rfl, k1⟩, g1⟩ := Flat.cons_inv (h r (by simp))
    obtain ⟨v2, c2, rfl, ⟨n2, rfl, k2⟩, g2⟩ := Flat.cons_inv g1
    obtain rfl := g2.nil_inv
    obtain ⟨ps, h1, h2, h3⟩ := refs_of_rows rows (fun x hx => h x (by simp [hx]))
    have e1 : -9223372036854775808 ≤ n1 ∧ n1 ≤ 9223372036854775807 := by simpa [Lit.wf, IntKind.min, IntKind.max, IntKind.signed, IntKind.bits] using k1
    have e2 : 0 ≤ n2 ∧ n2 ≤ 4294967295 := by simpa [Lit.wf, IntKind.min, IntKind.max, IntKind.signed, IntKind.bits] using k2
    refine ⟨(n1, n2) :: ps, ?_, by simp [h2], by simp [h3, rrow]⟩
    intro x hx
    rcases List.mem_cons.1 hx with rfl | hx
    · exact ⟨e1, e2⟩
    · exact h1 x hx
section
variable {H : Type} {enc : TypeId × Value → H} {w : World} {base : Nat} {spare : Nat → Bool} {held : Bool}
set_option maxRecDepth 100000 in
theorem open_ref {r : Reach} {b0 : Nat} {v : Value} {d : DataW H} {p : List MemPlace} (hv : Value.okWide Tryz.prog w r b0 29 v) (h : DataW.Trod enc Tryz.prog w base spare held 29 v d p) :
    ∃ q : Int × Int, v = refV q ∧ refOk q := by
  obtain ⟨cs, rfl, hf⟩ := open_flat_agg (ls := [.int .i64, .int .u32]) Tryz.underlying29 (by kernel_rfl) (by kernel_rfl) hv h
  obtain ⟨v1, c1, rfl, ⟨n1, rfl, k1⟩, g1⟩ := Flat.cons_inv hf
  obtain ⟨v2, c2, rfl, ⟨n2, rfl, k2⟩, g2⟩ := Flat.cons_inv g1
  obtain rfl := g2.nil_inv
  have e1 : -9223372036854775808 ≤ n1 ∧ n1 ≤ 9223372036854775807 := by simpa [Lit.wf, IntKind.min, IntKind.max, IntKind.signed, IntKind.bits] using k1
  have e2 : 0 ≤ n2 ∧ n2 ≤ 4294967295 := by simpa [Lit.wf, IntKind.min, IntKind.max, IntKind.signed, IntKind.bits] using k2
  exact ⟨(n1, n2), rfl, e1, e2⟩
theorem at_some {α : Type} {xs : List α} {n i : Nat} {o : Option α} (h : xs.length = n) (hi : i < n) (he : o = xs[i]?) : ∃ x, o = some x := ⟨_, he.trans (List.getElem?_eq_getElem (by omega))⟩
set_option maxRecDepth 100000 in
theorem open_node {r : Reach} {b0 : Nat} {v : Value} {d : DataW H} {p : List MemPlace} (hv : Value.okWide Tryz.prog w r b0 26 v) (h : DataW.Trod enc Tryz.prog w base spare held 26 v d p) :
    ∃ (x : Nd) (Ab : Option Addr) (cb : Nat) (Ak : Option Addr) (ck : Nat), v = x.v Ab cb Ak ck ∧ NdAt w x (x.v Ab cb Ak ck) := by
  obtain ⟨cs, rfl, hsz⟩ := okWide_struct Tryz.underlying26 hv
  obtain ⟨l⟩ := cs
  obtain ⟨fuel, hf⟩ := h
  obtain ⟨xs, n, rfl, _, hlen, hxl, hg⟩ := DataW.trod_struct Tryz.underlying26 hf
  have hlen6 : l.length = 6 := hlen
  have hxl6 : xs.length = 6 := hxl
  have c1 : Tryz.prog.cellsOf 22 = 1 := by kernel_rfl
  have c2 : Tryz.prog.cellsOf 9 = 1 := by kernel_rfl
  have c3 : Tryz.prog.cellsOf 23 = 1 := by kernel_rfl
  have c4 : Tryz.prog.cellsOf 24 = 1 := by kernel_rfl
  have g0 := hg 0 _ rfl
  have g1 := hg 1 _ rfl
  have g2 := hg 2 _ rfl
  have g3 := hg 3 _ rfl
  have g4 := hg 4 _ rfl
  have g5 := hg 5 _ rfl
  obtain ⟨x0, t0⟩ := at_some hxl6 (by decide) g0
  obtain ⟨x1, t1⟩ := at_some hxl6 (by decide) g1
  obtain ⟨x2, t2⟩ := at_some hxl6 (by decide) g2
  obtain ⟨x3, t3⟩ := at_some hxl6 (by decide) g3
  obtain ⟨x4, t4⟩ := at_some hxl6 (by decide) g4
  obtain ⟨x5, t5⟩ := at_some hxl6 (by decide) g5
  clear g0 g1 g2 g3 g4 g5 hg hf
  match l, hlen6 with
  | [v0, v1, v2, v3, v4, v5], _ =>
    obtain ⟨k, e0, _, hk⟩ := DataW.trod_int Tryz.underlying22 t0
    obtain ⟨s1, e1, _, h1⟩ := DataW.trod_string Tryz.underlying9 t1
    obtain ⟨s2, e2, _, h2⟩ := DataW.trod_string Tryz.underlying9 t2
    obtain ⟨s3, e3, _, h3⟩ := DataW.trod_string Tryz.underlying9 t3
    obtain ⟨A4, n4, cap4, rows4, e4, r4, f4, _⟩ := open_flat_slice (ls := [.int .u8]) Tryz.underlying23 (by kernel_rfl) (by kernel_rfl) (by decide) t4
    obtain ⟨A5, n5, cap5, rows5, e5, r5, f5, _⟩ := open_flat_slice (ls := [.int .i64, .int .u32]) Tryz.underlying24 (by kernel_rfl) (by kernel_rfl) (by decide) t5
    obtain ⟨bs, b1, b2, b3⟩ := nats_of_rows rows4 f4
    obtain ⟨qs, q1, q2, q3⟩ := refs_of_rows rows5 f5
    have m4 := r4.reads
    have m5 := r5.reads
    rw [b3] at m4
    rw [q3] at m5
    have l4 : n4 = bs.length := by rw [b2]; exact r4.1.symm
    have l5 : n5 = qs.length := by rw [q2]; exact r5.1.symm
    have z4 := r4.2.1
    have z4' := r4.2.2.1
    have z5 := r5.2.1
    have z5' := r5.2.2.1
    unfold maxLen at h1 h2 h3 z4' z5'
    have e0 : List.take (Tryz.prog.cellsOf 22) (List.drop 0 [v0, v1, v2, v3, v4, v5]) = _ := e0
    rw [c1] at e0
    have e1 : List.take (Tryz.prog.cellsOf 9) (List.drop 1 [v0, v1, v2, v3, v4, v5]) = _ := e1
    rw [c2] at e1
    have e2 : List.take (Tryz.prog.cellsOf 9) (List.drop 2 [v0, v1, v2, v3, v4, v5]) = _ := e2
    rw [c2] at e2
    have e3 : List.take (Tryz.prog.cellsOf 9) (List.drop 3 [v0, v1, v2, v3, v4, v5]) = _ := e3
    rw [c2] at e3
    have e4 : List.take (Tryz.prog.cellsOf 23) (List.drop 4 [v0, v1, v2, v3, v4, v5]) = _ := e4
    rw [c3] at e4
    have e5 : List.take (Tryz.prog.cellsOf 24) (List.drop 5 [v0, v1, v2, v3, v4, v5]) = _ := e5
    rw [c4] at e5
    have y0 : v0 = _ := List.head_eq_of_cons_eq e0
    have y1 : v1 = _ := List.head_eq_of_cons_eq e1
    have y2 : v2 = _ := List.head_eq_of_cons_eq e2
    have y3 : v3 = _ := List.head_eq_of_cons_eq e3
    have y4 : v4 = _ := List.head_eq_of_cons_eq e4
    have y5 : v5 = _ := List.head_eq_of_cons_eq e5
    clear e0 e1 e2 e3 e4 e5
    subst y0 y1 y2 y3 y4 y5 l4 l5
    have hk2 : -9223372036854775808 ≤ k ∧ k ≤ 9223372036854775807 := by simpa [Lit.wf, IntKind.min, IntKind.max, IntKind.signed, IntKind.bits] using hk
    exact ⟨⟨k, s1, s2, s3, bs, qs⟩, A4, cap4, A5, cap5, rfl, ⟨hk2, b1, q1, by dsimp only; omega, by dsimp only; omega, h1, h2, h3⟩, A4, cap4, A5, cap5, rfl, m4, m5⟩
end
end Go.Proofs.YtgjgcbemgmkncaaGreatDoor
namespace Go.Proofs.YtgjgcbemgmkncaaGreatDoor.nodeTellsLaw
open Go.ChangeShapes Go.WideShapes Go.ChangeAt Go.RowKit
set_option linter.unusedVariables false

theorem own : ownKnob Tryz.prog.godebug = none := by kernel_rfl
theorem laid : laidOutB Tryz.prog = true := by kernel_rfl

set_option maxRecDepth 100000 in
theorem lifted (os : Os) (started : os.Started) (H : Type) (enc : TypeId × Value → H) :
    ReturnsInHanded {} Tryz.checked os 3 .any (fun w args => (Rows.nodeTellsSpec.pre enc Tryz.prog Tryz.f3 [] false w args ∧ laidMetH Tryz.prog [("burgage/node.rooms", Rows.laid_burgage_node_rooms)] w) ∧ sizedMet enc Tryz.prog Tryz.f3 (OpenSpec.ofChange Rows.nodeTellsSpec) false w args)
      (Rows.nodeTellsSpec.post enc Tryz.prog Tryz.f3 false true false false) := by
  refine returnsInHanded_of_change_and (C := Tryz.checked) (X := fun w _ => laidMetH Tryz.prog [("burgage/node.rooms", Rows.laid_burgage_node_rooms)] w) (fun _ _ _ hh h => h.of_heap hh) own started (by kernel_rfl) Tryz.func3
    (ChangeSpec.witness_shaped (enc := enc) (C := Tryz.checked) (os := os) (X := fun w _ => laidMetH Tryz.prog [("burgage/node.rooms", Rows.laid_burgage_node_rooms)] w) false (World.doorLaid Tryz.prog 400 os) #[.agg #[.int .i64 0, .string ⟨#[]⟩, .string ⟨#[]⟩, .string ⟨#[]⟩, .slice none 0 0, .slice none 0 0], .int .u8 0, .int .i64 0, .agg #[.int .i64 0, .int .u32 0], .bool false] 8 rfl (World.shaped_of_RefB (by kernel_rfl) (by kernel_rfl)) (by kernel_rfl) (by kernel_rfl) (by kernel_rfl) (door_met os _)) ?_
  intro W base args ds gs before hval0 hW _ _ hL _
  refine law_post (fn := Tryz.f3) (s := Rows.nodeTellsSpec) (n := 3) (tb := 4) laid rfl rfl Tryz.underlying4 (by kernel_rfl) (fun h => ?_) hW ?_
  · match ds, h with
    | [d0, d1, d2, d3, d4], _ => rfl
  · have hval : ∀ (j : Nat) t v, Tryz.f3.params[j]? = some t → args[j]? = some v → Value.okWide Tryz.prog W .any base t v := hval0
    obtain ⟨p, q, hA0, hV, rfl, hfz, hnd⟩ := hW
    have hA : DataW.TrodAll enc Tryz.prog W 0 (fun _ => true) true Tryz.f3.params.toList args.toList ds p := hA0
    rw [Tryz.params3] at hA hval
    obtain ⟨v0, vs0, d0, ds0, p0, q0, hargs, rfl, rfl, h0, r0⟩ := trodAll_cons hA
    obtain ⟨v1, vs1, d1, ds1, p1, q1, rfl, rfl, rfl, h1, r1⟩ := trodAll_cons r0
    obtain ⟨v2, vs2, d2, ds2, p2, q2, rfl, rfl, rfl, h2, r2⟩ := trodAll_cons r1
    obtain ⟨v3, vs3, d3, ds3, p3, q3, rfl, rfl, rfl, h3, r3⟩ := trodAll_cons r2
    obtain ⟨v4, vs4, d4, ds4, p4, q4, rfl, rfl, rfl, h4, r4⟩ := trodAll_cons r3
    obtain ⟨rfl, rfl, rfl⟩ := trodAll_nil r4
    obtain rfl : args = #[v0, v1, v2, v3, v4] := by cases args; simp_all
    clear hA0 hval0
    obtain ⟨n, Ab, cb, Ak, ck, rfl, hn⟩ := open_node (hval 0 26 v0 rfl rfl) h0
    obtain ⟨z1, rfl, rfl, rfl, y1⟩ := open_int Tryz.underlying5 (hval 1 5 v1 rfl rfl) h1
    obtain ⟨k1, rfl, w1⟩ := nat_u8 y1
    obtain ⟨z2, rfl, rfl, rfl, y2⟩ := open_int Tryz.underlying3 (hval 2 3 v2 rfl rfl) h2
    obtain ⟨r, rfl, hr⟩ := open_ref (hval 3 29 v3 rfl rfl) h3
    obtain ⟨b4, rfl, rfl, rfl⟩ := open_bool Tryz.underlying4 (hval 4 4 v4 rfl rfl) h4
    exact nodeTells_n n _ k1 z2 r b4 W hn (rooms_of_laid hL) w1 hr

theorem over : Rows.nodeTellsRow.holds Tryz.pinned (OpenSpec.ofChange Rows.nodeTellsSpec) :=
  OpenClaim.holds_of_wide 3 Tryz.f3 rfl rfl rfl rfl rfl rfl rfl ⟨rfl, rfl, rfl, rfl, rfl⟩ rfl rfl rfl rfl rfl (by kernel_rfl) Tryz.func3 (by kernel_rfl)
    (of_decide_eq_true (by kernel_rfl)) (by unfold Func.isWrapper; first | (rw [if_pos (by decide +kernel)]; kernel_rfl) | (rw [if_neg (by decide +kernel)]; exact ⟨rfl, rfl⟩))
    (fun os started H enc _ => lifted os started H enc)

theorem proved : Rows.NodeTellsCardSaid :=
  Claim7.holds_tied_plain_at .later [] [.data] true (true, "265d713297f47f1f92faab045d69917c4782ab53b34673aabc621a1993803fba") true
    over (fun _ h => by cases h) (by kernel_rfl) (fun _ h => by cases h) nodeTells_row_tie rfl ⟨rfl, rfl⟩ (by kernel_rfl) rfl
    (fun f fn hf hfn => by
      obtain rfl : f = 3 := Option.some.inj ((show Tryz.prog.funcNamed "burgage/burgagelaw09.NodeTells" = some 3 by kernel_rfl).symm.trans hf) |>.symm
      obtain rfl : fn = Tryz.f3 := (Option.some.inj (Tryz.func3.symm.trans hfn)).symm
      refine ⟨by kernel_rfl, fun j t ht => ?_⟩
      rw [Tryz.params3] at ht
      have h3 : t = 26 ∨ t = 5 ∨ t = 3 ∨ t = 29 ∨ t = 4 := by
        match j, ht with
        | 0, ht => have e := Option.some.inj ht; subst e; simp
        | 1, ht => have e := Option.some.inj ht; subst e; simp
        | 2, ht => have e := Option.some.inj ht; subst e; simp
        | 3, ht => have e := Option.some.inj ht; subst e; simp
        | 4, ht => have e := Option.some.inj ht; subst e; simp
        | j + 5, ht => simp at ht
      rcases h3 with rfl | rfl | rfl | rfl | rfl
      · exact (show Tryz.prog.wantsStandIn 26 = false by kernel_rfl)
      · exact (show Tryz.prog.wantsStandIn 5 = false by kernel_rfl)
      · exact (show Tryz.prog.wantsStandIn 3 = false by kernel_rfl)
      · exact (show Tryz.prog.wantsStandIn 29 = false by kernel_rfl)
      · exact (show Tryz.prog.wantsStandIn 4 = false by kernel_rfl))
    (by kernel_rfl)
#print axioms proved
end Go.Proofs.YtgjgcbemgmkncaaGreatDoor.nodeTellsLaw
