/-
  Layer 9: the table of rooms, as the card lays it.
  Layer 7: a slice of bytes that came in, read as numbers below 256.
  Layer 9: a node and a Ref that came in as arguments.
  NodeBack: for every input the call returns true, and what was there stays as it was. The card ties what the package variable holds to the program's text. No other condition.
-/
import Derived.Test.YtgjgcbemgmkncaaDoorGd
import Derived.LaidMore
import Derived.ProofKit
import Derived.OpenShut
import Derived.Stop.Joined
import Derived.Test.YtgjgcbemgmkncaaDoorGb
import Derived.Test.YtgjgcbemgmkncaaDoorGf
import Derived.Test.YtgjgcbemgmkncaaDoorHc
import Derived.Test.YtgjgcbemgmkncaaDoorCards
import Derived.Test.YtgjgcbemgmkncaaDoorTie
import Derived.SevenTiedAt
namespace Go.Proofs.YtgjgcbemgmkncaaDoor
open Go.ChangeShapes Go.WideShapes Go.ChangeAt Go.RowKit
set_option linter.unusedVariables false
set_option linter.unusedSimpArgs false

theorem gRooms : Tryd.prog.globalNamed "burgage/node.rooms" = some 0 := by kernel_rfl
theorem tRooms : (Tryd.prog.globals[0]?).map (·.type) = some 62 := by kernel_rfl
theorem uRooms : Tryd.prog.underlying 62 = some (.array 6 3) := by kernel_rfl
theorem cellsInt : Tryd.prog.cellsOf 3 = 1 := by kernel_rfl
theorem ints_of_data {H : Type} {enc : TypeId × Value → H} {W : World} {base : Nat} {spare : Nat → Bool} {held : Bool} {fuel : Nat} {cs : List Value} {ks : List Int} {pl : List MemPlace} (hk : ks.length = 6)
    (h : DataW.trod enc Tryd.prog W base spare held fuel 62 cs = some (.agg (ks.map fun k => .lit (.int .i64 k)), pl)) : ∀ i, i < 6 → cs[i]? = (ks[i]?).map fun k => .int .i64 k := by
  obtain ⟨xs, m, _, hx, _, hn, hel⟩ := DataW.trod_array uRooms h
  intro i hi
  have h1 := hel i hi
  rw [cellsInt, Nat.mul_one] at h1
  simp only [Prod.mk.injEq, DataW.agg.injEq] at hx
  obtain ⟨x, hxi⟩ : ∃ x, xs[i]? = some x := ⟨_, List.getElem?_eq_getElem (by omega)⟩
  rw [hxi] at h1
  obtain ⟨n, e1, e2, _⟩ := DataW.trod_int Tryd.underlying3 h1
  have h2 : (xs.map (·.1))[i]? = some (.lit (.int .i64 n)) := by rw [List.getElem?_map, hxi, e2]; rfl
  rw [← hx.1, List.getElem?_map] at h2
  have h3 : (cs.drop i)[0]? = some (.int .i64 n) := by
    have := congrArg (fun l : List Value => l[0]?) e1
    simpa [List.getElem?_take] using this
  rw [List.getElem?_drop, Nat.add_zero] at h3
  rw [h3]
  cases hki : ks[i]? with
  | none => rw [hki] at h2; cases h2
  | some k => rw [hki] at h2; simp at h2; simp [h2]
theorem rooms_of_laid {W : World} (h : laidMetH Tryd.prog [("burgage/node.rooms", Rows.laid_burgage_node_rooms)] W) : RoomsAt W := by
  rw [MakeChecks.laidMetH_plain _ _ _ (by kernel_rfl)] at h
  obtain ⟨ps, ⟨g0, t0, cs0, f0, p0, q0, hg0, ht0, hv0, hd0, _⟩, _⟩ := h
  obtain rfl := Option.some.inj (gRooms.symm.trans hg0)
  obtain rfl := Option.some.inj (tRooms.symm.trans ht0)
  have hc := ints_of_data (ks := [0, 0, 4, 16, 48, 256]) rfl hd0
  have hw : ∀ i, W.cell? ⟨0, i, none⟩ = cs0[i]? := World.var?_cell hg0 hv0
  have hl : ∀ i, cs0[i]? = cs0.toList[i]? := fun i => by first | rw [Array.getElem?_toList] | (cases cs0; rfl)
  unfold RoomsAt
  refine ⟨?_, ?_, ?_, ?_, ?_, ?_⟩
  · rw [hw, hl, hc 0 (by decide)]; rfl
  · rw [hw, hl, hc 1 (by decide)]; rfl
  · rw [hw, hl, hc 2 (by decide)]; rfl
  · rw [hw, hl, hc 3 (by decide)]; rfl
  · rw [hw, hl, hc 4 (by decide)]; rfl
  · rw [hw, hl, hc 5 (by decide)]; rfl
/-- The door's own heap meets the condition. -/
theorem door_met (os : Os) (args : Array Value) : laidMetH Tryd.prog [("burgage/node.rooms", Rows.laid_burgage_node_rooms)] ((World.doorLaid Tryd.prog 400 os).forCall (fun _ _ => 0) ⟨#[], args, []⟩).memory :=
  laidMetH_of_parts3 (fuel := 8) (laidMet_of_run' 8 (by kernel_rfl) (by kernel_rfl)) (by kernel_rfl) (by kernel_rfl)
end Go.Proofs.YtgjgcbemgmkncaaDoor
namespace Go.Proofs.YtgjgcbemgmkncaaDoor
open Go.ChangeShapes Go.WideShapes Go.ChangeAt Go.RowKit
set_option linter.unusedVariables false

theorem flatten_at {sz : Nat} : ∀ (rows : List (List Value)) (j : Nat) (u : Value), (∀ r ∈ rows, r.length = sz) → rows.flatten[j]? = some u → ∃ i cs r, rows[i]? = some cs ∧ cs[r]? = some u ∧ j = i * sz + r
  | [], j, u, _, h => by simp at h
  | r :: rows, j, u, hl, h => by
    have hr := hl r (by simp)
    rw [List.flatten_cons, List.getElem?_append] at h
    split at h
    · exact ⟨0, r, j, by simp, h, by omega⟩
    · rename_i hj
      obtain ⟨i, cs, k, h1, h2, h3⟩ := flatten_at rows (j - r.length) u (fun x hx => hl x (by simp [hx])) h
      exact ⟨i + 1, cs, k, by simpa using h1, h2, by rw [Nat.add_mul]; omega⟩
theorem flatten_len {sz : Nat} : ∀ (rows : List (List Value)), (∀ r ∈ rows, r.length = sz) → rows.flatten.length = rows.length * sz
  | [], _ => by simp
  | r :: rows, hl => by
    rw [List.flatten_cons, List.length_append, hl r (by simp), flatten_len rows (fun x hx => hl x (by simp [hx])), List.length_cons, Nat.add_mul]; omega
theorem SliceRows.reads {w : World} {A : Option Addr} {n cap sz : Nat} {rows : List (List Value)} (h : SliceRows w A n cap sz rows) : Reads w w.heap.size sz A n rows.flatten := by
  obtain ⟨h1, h2, h3, h4, h5, h6⟩ := h
  refine ⟨by rw [flatten_len rows h4, h1], fun hn => ?_⟩
  obtain ⟨a, ha, hb, hc⟩ := h6 0 rows[0] (List.getElem?_eq_getElem (by omega))
  refine ⟨a, ha, hb, fun j u hu => ?_⟩
  obtain ⟨i, cs, r, e1, e2, e3⟩ := flatten_at rows j u h4 hu
  obtain ⟨a', ha', _, hc'⟩ := h6 i cs e1
  rw [ha] at ha'
  simp only [Option.some.injEq] at ha'
  subst ha'
  rw [e3]
  exact hc' r u e2

section
variable {H : Type} {enc : TypeId × Value → H} {P : Program} {w : World} {base : Nat} {spare : Nat → Bool} {held : Bool}
theorem open_rows {r : Reach} {b0 : Nat} {t e : TypeId} {ls : List L0} {v : Value} {d : DataW H} {p : List MemPlace} (ht : P.underlying t = some (.slice e)) (hls : leaves P 9 e = some ls) (hC : P.cellsOf e = ls.length) (hpos : 0 < ls.length)
    (hv : Value.okWide P w r b0 t v) (h : DataW.Trod enc P w base spare held t v d p) :
    ∃ (A : Option Addr) (n cap : Nat) (rows : List (List Value)), v = .slice A n cap ∧ rows.length = n ∧ Reads w w.heap.size ls.length A n rows.flatten ∧ (∀ r ∈ rows, Flat ls r) ∧ n ≤ cap ∧ cap ≤ 9223372036854775807 := by
  obtain ⟨a, len, cap, rfl⟩ := okWide_slice ht hv
  obtain ⟨fuel, hf⟩ := h
  obtain ⟨A, n, cap', rows, hc, hs, hfl, _⟩ := open_flat_slice ht hls hC hpos hf
  simp only [Value.cells, List.cons.injEq, Value.slice.injEq, and_true] at hc
  obtain ⟨rfl, rfl, rfl⟩ := hc
  have h2 := hs.2.2.1
  unfold maxLen at h2
  exact ⟨_, _, _, rows, rfl, hs.1, hs.reads, hfl, hs.2.1, by omega⟩
end

theorem nat_u8 {n : Int} (h : (Lit.int .u8 n).wf = true) : ∃ b : Nat, n = (b : Int) ∧ b < 256 := by
  have h2 : 0 ≤ n ∧ n ≤ 255 := by simpa [Lit.wf, IntKind.min, IntKind.max, IntKind.signed, IntKind.bits] using h
  exact ⟨n.toNat, by omega, by omega⟩
theorem nats_of_rows : ∀ (rows : List (List Value)), (∀ r ∈ rows, Flat [.int .u8] r) → ∃ ps : List Nat, (∀ p ∈ ps, p < 256) ∧ ps.length = rows.length ∧ rows.flatten = ps.flatMap nrow
  | [], _ => ⟨[], by simp, rfl, rfl⟩
  | r :: rows, h => by
    obtain ⟨v1, c1, rfl, ⟨n1, rfl, k1⟩, h1⟩ := Flat.cons_inv (h r (by simp))
    obtain rfl := h1.nil_inv
    obtain ⟨ps, h1, h2, h3⟩ := nats_of_rows rows (fun x hx => h x (by simp [hx]))
    obtain ⟨b, rfl, hb⟩ := nat_u8 k1
    refine ⟨b :: ps, ?_, by simp [h2], by simp [h3, nrow]⟩
    intro x hx
    rcases List.mem_cons.1 hx with rfl | hx
    · exact hb
    · exact h1 x hx

section
variable {H : Type} {enc : TypeId × Value → H} {w : World} {base : Nat} {spare : Nat → Bool} {held : Bool}
set_option maxRecDepth 100000 in
theorem open_nats {r : Reach} {b0 : Nat} {v : Value} {d : DataW H} {p : List MemPlace} (hv : Value.okWide Tryd.prog w r b0 22 v) (h : DataW.Trod enc Tryd.prog w base spare held 22 v d p) :
    ∃ (A : Option Addr) (cap : Nat) (bs : List Nat), v = .slice A bs.length cap ∧ Reads w w.heap.size 1 A bs.length (bs.flatMap nrow) ∧ (∀ b ∈ bs, b < 256) ∧ bs.length ≤ cap ∧ cap ≤ 9223372036854775807 := by
  obtain ⟨A, n, cap, rows, rfl, hn, hr, hf, h1, h2⟩ := open_rows (ls := [.int .u8]) Tryd.underlying22 (by kernel_rfl) (by kernel_rfl) (by decide) hv h
  obtain ⟨cs, g1, g2, g3⟩ := nats_of_rows rows hf
  rw [g3] at hr
  obtain rfl : cs.length = n := by omega
  exact ⟨A, cap, cs, rfl, hr, g1, h1, h2⟩
end
end Go.Proofs.YtgjgcbemgmkncaaDoor
namespace Go.Proofs.YtgjgcbemgmkncaaDoor
open Go.ChangeShapes Go.WideShapes Go.ChangeAt Go.RowKit
set_option linter.unusedVariables false
set_option linter.unusedSimpArgs false

theorem refs_of_rows : ∀ (rows : List (List Value)), (∀ r ∈ rows, Flat [.int .i64, .int .u32] r) → ∃ ps : List (Int × Int), (∀ p ∈ ps, refOk p) ∧ ps.length = rows.length ∧ rows.flatten = ps.flatMap rrow
  | [], _ => ⟨[], by simp, rfl, rfl⟩
  | r :: rows, h => by
    obtain ⟨v1, c1, rfl, ⟨n1, rfl, k1⟩, g1⟩ := Flat.cons_inv (h r (by simp))
    obtain ⟨v2, c2, rfl, ⟨n2, rfl, k2⟩, g2⟩ := Flat.cons_inv g1
    obtain rfl := g2.nil_inv
    obtain ⟨ps, h1, h2, h3⟩ := refs_of_rows rows (fun x hx => h x (by simp [hx]))
    have e1 : -9223372036854775808 ≤ n1 ∧ n1 ≤ 9223372036854775807 := by simpa [Lit.wf, IntKind.min, IntKind.max, IntKind.signed, IntKind.bits] using k1
    have e2 : 0 ≤ n2 ∧ n2 ≤ 4294967295 := by simpa [Lit.wf, IntKind.min, IntKind.max, IntKind.signed, IntKind.bits] using k2
    refine ⟨(n1, n2) :: ps, ?_, by simp [h2], by simp [h3, rrow]⟩
    intro x hx
    rcases List.mem_cons.1 hx with rfl | hx
    · exact ⟨e1, e2⟩
    · exact h1 x hx
section
variable {H : Type} {enc : TypeId × Value → H} {w : World} {base : Nat} {spare : Nat → Bool} {held : Bool}
set_option maxRecDepth 100000 in
theorem open_ref {r : Reach} {b0 : Nat} {v : Value} {d : DataW H} {p : List MemPlace} (hv : Value.okWide Tryd.prog w r b0 35 v) (h : DataW.Trod enc Tryd.prog w base spare held 35 v d p) :
    ∃ q : Int × Int, v = refV q ∧ refOk q := by
  obtain ⟨cs, rfl, hf⟩ := open_flat_agg (ls := [.int .i64, .int .u32]) Tryd.underlying35 (by kernel_rfl) (by kernel_rfl) hv h
  obtain ⟨v1, c1, rfl, ⟨n1, rfl, k1⟩, g1⟩ := Flat.cons_inv hf
  obtain ⟨v2, c2, rfl, ⟨n2, rfl, k2⟩, g2⟩ := Flat.cons_inv g1
  obtain rfl := g2.nil_inv
  have e1 : -9223372036854775808 ≤ n1 ∧ n1 ≤ 9223372036854775807 := by simpa [Lit.wf, IntKind.min, IntKind.max, IntKind.signed, IntKind.bits] using k1
  have e2 : 0 ≤ n2 ∧ n2 ≤ 4294967295 := by simpa [Lit.wf, IntKind.min, IntKind.max, IntKind.signed, IntKind.bits] using k2
  exact ⟨(n1, n2), rfl, e1, e2⟩
theorem at_some {α : Type} {xs : List α} {n i : Nat} {o : Option α} (h : xs.length = n) (hi : i < n) (he : o = xs[i]?) : ∃ x, o = some x := ⟨_, he.trans (List.getElem?_eq_getElem (by omega))⟩
set_option maxRecDepth 100000 in
theorem open_node {r : Reach} {b0 : Nat} {v : Value} {d : DataW H} {p : List MemPlace} (hv : Value.okWide Tryd.prog w r b0 27 v) (h : DataW.Trod enc Tryd.prog w base spare held 27 v d p) :
    ∃ (x : Nd) (Ab : Option Addr) (cb : Nat) (Ak : Option Addr) (ck : Nat), v = x.v Ab cb Ak ck ∧ NdAt w x (x.v Ab cb Ak ck) := by
  obtain ⟨cs, rfl, hsz⟩ := okWide_struct Tryd.underlying27 hv
  obtain ⟨l⟩ := cs
  obtain ⟨fuel, hf⟩ := h
  obtain ⟨xs, n, rfl, _, hlen, hxl, hg⟩ := DataW.trod_struct Tryd.underlying27 hf
  have hlen6 : l.length = 6 := hlen
  have hxl6 : xs.length = 6 := hxl
  have c1 : Tryd.prog.cellsOf 24 = 1 := by kernel_rfl
  have c2 : Tryd.prog.cellsOf 9 = 1 := by kernel_rfl
  have c3 : Tryd.prog.cellsOf 22 = 1 := by kernel_rfl
  have c4 : Tryd.prog.cellsOf 25 = 1 := by kernel_rfl
  have g0 := hg 0 _ rfl
  have g1 := hg 1 _ rfl
  have g2 := hg 2 _ rfl
  have g3 := hg 3 _ rfl
  have g4 := hg 4 _ rfl
  have g5 := hg 5 _ rfl
  obtain ⟨x0, t0⟩ := at_some hxl6 (by decide) g0
  obtain ⟨x1, t1⟩ := at_some hxl6 (by decide) g1
  obtain ⟨x2, t2⟩ := at_some hxl6 (by decide) g2
  obtain ⟨x3, t3⟩ := at_some hxl6 (by decide) g3
  obtain ⟨x4, t4⟩ := at_some hxl6 (by decide) g4
  obtain ⟨x5, t5⟩ := at_some hxl6 (by decide) g5
  clear g0 g1 g2 g3 g4 g5 hg hf
  match l, hlen6 with
  | [v0, v1, v2, v3, v4, v5], _ =>
    obtain ⟨k, e0, _, hk⟩ := DataW.trod_int Tryd.underlying24 t0
    obtain ⟨s1, e1, _, h1⟩ := DataW.trod_string Tryd.underlying9 t1
    obtain ⟨s2, e2, _, h2⟩ := DataW.trod_string Tryd.underlying9 t2
    obtain ⟨s3, e3, _, h3⟩ := DataW.trod_string Tryd.underlying9 t3
    obtain ⟨A4, n4, cap4, rows4, e4, r4, f4, _⟩ := open_flat_slice (ls := [.int .u8]) Tryd.underlying22 (by kernel_rfl) (by kernel_rfl) (by decide) t4
    obtain ⟨A5, n5, cap5, rows5, e5, r5, f5, _⟩ := open_flat_slice (ls := [.int .i64, .int .u32]) Tryd.underlying25 (by kernel_rfl) (by kernel_rfl) (by decide) t5
    obtain ⟨bs, b1, b2, b3⟩ := nats_of_rows rows4 f4
    obtain ⟨qs, q1, q2, q3⟩ := refs_of_rows rows5 f5
    have m4 := r4.reads
    have m5 := r5.reads
    rw [b3] at m4
    rw [q3] at m5
    have l4 : n4 = bs.length := by rw [b2]; exact r4.1.symm
    have l5 : n5 = qs.length := by rw [q2]; exact r5.1.symm
    have z4 := r4.2.1
    have z4' := r4.2.2.1
    have z5 := r5.2.1
    have z5' := r5.2.2.1
    unfold maxLen at h1 h2 h3 z4' z5'
    have e0 : List.take (Tryd.prog.cellsOf 24) (List.drop 0 [v0, v1, v2, v3, v4, v5]) = _ := e0
    rw [c1] at e0
    have e1 : List.take (Tryd.prog.cellsOf 9) (List.drop 1 [v0, v1, v2, v3, v4, v5]) = _ := e1
    rw [c2] at e1
    have e2 : List.take (Tryd.prog.cellsOf 9) (List.drop 2 [v0, v1, v2, v3, v4, v5]) = _ := e2
    rw [c2] at e2
    have e3 : List.take (Tryd.prog.cellsOf 9) (List.drop 3 [v0, v1, v2, v3, v4, v5]) = _ := e3
    rw [c2] at e3
    have e4 : List.take (Tryd.prog.cellsOf 22) (List.drop 4 [v0, v1, v2, v3, v4, v5]) = _ := e4
    rw [c3] at e4
    have e5 : List.take (Tryd.prog.cellsOf 25) (List.drop 5 [v0, v1, v2, v3, v4, v5]) = _ := e5
    rw [c4] at e5
    have y0 : v0 = _ := List.head_eq_of_cons_eq e0
    have y1 : v1 = _ := List.head_eq_of_cons_eq e1
    have y2 : v2 = _ := List.head_eq_of_cons_eq e2
    have y3 : v3 = _ := List.head_eq_of_cons_eq e3
    have y4 : v4 = _ := List.head_eq_of_cons_eq e4
    have y5 : v5 = _ := List.head_eq_of_cons_eq e5
    clear e0 e1 e2 e3 e4 e5
    subst y0 y1 y2 y3 y4 y5 l4 l5
    have hk2 : -9223372036854775808 ≤ k ∧ k ≤ 9223372036854775807 := by simpa [Lit.wf, IntKind.min, IntKind.max, IntKind.signed, IntKind.bits] using hk
    exact ⟨⟨k, s1, s2, s3, bs, qs⟩, A4, cap4, A5, cap5, rfl, ⟨hk2, b1, q1, by dsimp only; omega, by dsimp only; omega, h1, h2, h3⟩, A4, cap4, A5, cap5, rfl, m4, m5⟩
end
end Go.Proofs.YtgjgcbemgmkncaaDoor
namespace Go.Proofs.YtgjgcbemgmkncaaDoor.nodeBackLaw
open Go.ChangeShapes Go.WideShapes Go.ChangeAt Go.RowKit
set_option linter.unusedVariables false

theorem own : ownKnob Tryd.prog.godebug = none := by kernel_rfl
theorem laid : laidOutB Tryd.prog = true := by kernel_rfl

set_option maxRecDepth 100000 in
theorem lifted (os : Os) (started : os.Started) (H : Type) (enc : TypeId × Value → H) :
    ReturnsInHanded {} Tryd.checked os 4 .any (fun w args => (Rows.nodeBackSpec.pre enc Tryd.prog Tryd.f4 [] false w args ∧ laidMetH Tryd.prog [("burgage/node.rooms", Rows.laid_burgage_node_rooms)] w) ∧ sizedMet enc Tryd.prog Tryd.f4 (OpenSpec.ofChange Rows.nodeBackSpec) false w args)
      (Rows.nodeBackSpec.post enc Tryd.prog Tryd.f4 false true false false) := by
  refine returnsInHanded_of_change_and (C := Tryd.checked) (X := fun w _ => laidMetH Tryd.prog [("burgage/node.rooms", Rows.laid_burgage_node_rooms)] w) (fun _ _ _ hh h => h.of_heap hh) own started (by kernel_rfl) Tryd.func4
    (ChangeSpec.witness_shaped (enc := enc) (C := Tryd.checked) (os := os) (X := fun w _ => laidMetH Tryd.prog [("burgage/node.rooms", Rows.laid_burgage_node_rooms)] w) false (World.doorLaid Tryd.prog 400 os) #[.agg #[.int .i64 0, .string ⟨#[]⟩, .string ⟨#[]⟩, .string ⟨#[]⟩, .slice none 0 0, .slice none 0 0], .int .u8 0, .agg #[.int .i64 0, .int .u32 0], .agg #[.int .i64 0, .int .u32 0]] 8 rfl (World.shaped_of_RefB (by kernel_rfl) (by kernel_rfl)) (by kernel_rfl) (by kernel_rfl) (by kernel_rfl) (door_met os _)) ?_
  intro W base args ds gs before hval0 hW _ _ hL _
  refine law_post (fn := Tryd.f4) (s := Rows.nodeBackSpec) (n := 4) (tb := 4) laid rfl rfl Tryd.underlying4 (by kernel_rfl) (fun h => ?_) hW ?_
  · match ds, h with
    | [d0, d1, d2, d3], _ => rfl
  · have hval : ∀ (j : Nat) t v, Tryd.f4.params[j]? = some t → args[j]? = some v → Value.okWide Tryd.prog W .any base t v := hval0
    obtain ⟨p, q, hA0, hV, rfl, hfz, hnd⟩ := hW
    have hA : DataW.TrodAll enc Tryd.prog W 0 (fun _ => true) true Tryd.f4.params.toList args.toList ds p := hA0
    rw [Tryd.params4] at hA hval
    obtain ⟨v0, vs0, d0, ds0, p0, q0, hargs, rfl, rfl, h0, r0⟩ := trodAll_cons hA
    obtain ⟨v1, vs1, d1, ds1, p1, q1, rfl, rfl, rfl, h1, r1⟩ := trodAll_cons r0
    obtain ⟨v2, vs2, d2, ds2, p2, q2, rfl, rfl, rfl, h2, r2⟩ := trodAll_cons r1
    obtain ⟨v3, vs3, d3, ds3, p3, q3, rfl, rfl, rfl, h3, r3⟩ := trodAll_cons r2
    obtain ⟨rfl, rfl, rfl⟩ := trodAll_nil r3
    obtain rfl : args = #[v0, v1, v2, v3] := by cases args; simp_all
    clear hA0 hval0
    obtain ⟨n, Ab, cb, Ak, ck, rfl, hn⟩ := open_node (hval 0 27 v0 rfl rfl) h0
    obtain ⟨z1, rfl, rfl, rfl, y1⟩ := open_int Tryd.underlying5 (hval 1 5 v1 rfl rfl) h1
    obtain ⟨k1, rfl, w1⟩ := nat_u8 y1
    obtain ⟨r, rfl, hr⟩ := open_ref (hval 2 35 v2 rfl rfl) h2
    obtain ⟨s, rfl, hs⟩ := open_ref (hval 3 35 v3 rfl rfl) h3
    exact back_walk n Ab Ak cb ck k1 r s W (rooms_of_laid hL) hn w1 hr hs

theorem over : Rows.nodeBackRow.holds Tryd.pinned (OpenSpec.ofChange Rows.nodeBackSpec) :=
  OpenClaim.holds_of_wide 4 Tryd.f4 rfl rfl rfl rfl rfl rfl rfl ⟨rfl, rfl, rfl, rfl, rfl⟩ rfl rfl rfl rfl rfl (by kernel_rfl) Tryd.func4 (by kernel_rfl)
    (of_decide_eq_true (by kernel_rfl)) (by unfold Func.isWrapper; first | (rw [if_pos (by decide +kernel)]; kernel_rfl) | (rw [if_neg (by decide +kernel)]; exact ⟨rfl, rfl⟩))
    (fun os started H enc _ => lifted os started H enc)

theorem proved : Rows.NodeBackCardSaid :=
  Claim7.holds_tied_plain_at .later [] [.data] true (true, "eed37613bfec621abfb482a3b9d6c609ad7bd24fda3c5b09e09d57a4168a99b8") true
    over (fun _ h => by cases h) (by kernel_rfl) (fun _ h => by cases h) nodeBack_row_tie rfl ⟨rfl, rfl⟩ (by kernel_rfl) rfl
    (fun f fn hf hfn => by
      obtain rfl : f = 4 := Option.some.inj ((show Tryd.prog.funcNamed "burgage/burgagelaw09.NodeBack" = some 4 by kernel_rfl).symm.trans hf) |>.symm
      obtain rfl : fn = Tryd.f4 := (Option.some.inj (Tryd.func4.symm.trans hfn)).symm
      refine ⟨by kernel_rfl, fun j t ht => ?_⟩
      rw [Tryd.params4] at ht
      have h3 : t = 27 ∨ t = 5 ∨ t = 35 ∨ t = 35 := by
        match j, ht with
        | 0, ht => have e := Option.some.inj ht; subst e; simp
        | 1, ht => have e := Option.some.inj ht; subst e; simp
        | 2, ht => have e := Option.some.inj ht; subst e; simp
        | 3, ht => have e := Option.some.inj ht; subst e; simp
        | j + 4, ht => simp at ht
      rcases h3 with rfl | rfl | rfl | rfl
      · exact (show Tryd.prog.wantsStandIn 27 = false by kernel_rfl)
      · exact (show Tryd.prog.wantsStandIn 5 = false by kernel_rfl)
      · exact (show Tryd.prog.wantsStandIn 35 = false by kernel_rfl)
      · exact (show Tryd.prog.wantsStandIn 35 = false by kernel_rfl))
    (by kernel_rfl)
#print axioms proved
end Go.Proofs.YtgjgcbemgmkncaaDoor.nodeBackLaw
