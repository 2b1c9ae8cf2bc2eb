/-
  Layer 9: Add.
  Layer 9: Add, whole.
  Layer 9: Cut.
  Layer 9: Cut, whole.
  Layer 9: nodes made of kids (no program in sight).
  Layer 9: Full, Find.
  burgagekit's SameBytes, SameRefs, SameNode.
  burgagekit's SameNode.
-/
import Derived.Test.YtgjgcbemgmkncaaGreatDoorNd
namespace Go.Proofs.YtgjgcbemgmkncaaGreatDoor
open Go.RowKit Go.Shelf
set_option linter.unusedVariables false
set_option maxRecDepth 20000
set_option linter.unusedSimpArgs false

/-- The blocks of a node's two rows. -/
def blkOf : Option Value → List Nat
  | some (.slice (some ad) (_ + 1) _) => [ad.block]
  | _ => []
theorem mem_blkOf {A : Option Addr} {l c g : Nat} (h : g ∈ blkOf (some (.slice A l c))) : ∃ ad, A = some ad ∧ 0 < l ∧ g = ad.block := by
  cases A with
  | none => cases l <;> cases h
  | some ad =>
    cases l with
    | zero => cases h
    | succ l => exact ⟨ad, rfl, by omega, by simpa [blkOf] using h⟩
def rowsOf : Value → List Nat
  | .agg cs => blkOf cs[4]? ++ blkOf cs[5]?
  | _ => []
theorem mem_rowsOf {v0 v1 v2 v3 : Value} {A4 A5 : Option Addr} {l4 l5 c4 c5 g : Nat} (h : g ∈ rowsOf (.agg #[v0, v1, v2, v3, .slice A4 l4 c4, .slice A5 l5 c5])) : (∃ ad, A4 = some ad ∧ 0 < l4 ∧ g = ad.block) ∨ ∃ ad, A5 = some ad ∧ 0 < l5 ∧ g = ad.block := by
  have h2 : g ∈ blkOf (some (.slice A4 l4 c4)) ++ blkOf (some (.slice A5 l5 c5)) := h
  rcases List.mem_append.1 h2 with h3 | h3
  · exact .inl (mem_blkOf h3)
  · exact .inr (mem_blkOf h3)
theorem rowsOf_zero {n : Nat} : ∀ g ∈ rowsOf (.agg #[.int .i64 0, .string { data := #[] }, .string { data := #[] }, .string { data := #[] }, .slice none 0 0, .slice none 0 0]), n ≤ g := by intro g hg; cases hg
theorem rowsOf_v {n : Nat} {v0 v1 v2 v3 : Value} {A4 A5 : Option Addr} {l4 l5 c4 c5 : Nat} (h4 : ∀ ad, A4 = some ad → n ≤ ad.block) (h5 : ∀ ad, A5 = some ad → n ≤ ad.block) : ∀ g ∈ rowsOf (.agg #[v0, v1, v2, v3, .slice A4 l4 c4, .slice A5 l5 c5]), n ≤ g := by
  intro g hg
  rcases mem_rowsOf hg with ⟨ad, e, _, rfl⟩ | ⟨ad, e, _, rfl⟩
  · exact h4 _ e
  · exact h5 _ e
def NdPair (y : Nd) (c : Int) (w : World) (e : Ending) (w' : World) : Prop := ∃ V', e = .returned (.tuple #[V', .int .i64 c]) ∧ NdAt w' y V' ∧ Below w.heap.size w w' ∧ ∀ g ∈ rowsOf V', w.heap.size ≤ g
/-- Add's world behind its boxes. -/
structure AddW (w : World) (x : Nd) (r : Int × Int) (CE : Array Value) (W : World) : Prop where
  below : Below w.heap.size w W
  box : Blk W w.heap.size 26 CE
  ref : Blk W (w.heap.size + 1) 29 #[.int .i64 r.1, .int .u32 r.2]
  out : Blk W (w.heap.size + 1 + 1) 26 #[.int .i64 0, .string { data := #[] }, .string { data := #[] }, .string { data := #[] }, .slice none 0 0, .slice none 0 0]
  parts : Blk W (w.heap.size + 1 + 1 + 1) 61 CE
  node : NdAt W x (.agg CE)
  rooms : RoomsAt W
  size : w.heap.size + 4 ≤ W.heap.size
theorem AddW.on {w W W' : World} {x : Nd} {r : Int × Int} {CE : Array Value} (h : AddW w x r CE W) (hb : Below W.heap.size W W') : AddW w x r CE W' :=
  ⟨h.below.trans (hb.mono h.below.size), h.box.below hb h.box.lt, h.ref.below hb h.ref.lt, h.out.below hb h.out.lt, h.parts.below hb h.parts.lt, h.node.below hb, h.rooms.on hb, Nat.le_trans h.size hb.size⟩
theorem AddW.kept {w W W' : World} {x : Nd} {r : Int × Int} {CE : Array Value} {bl : List Nat} (h : AddW w x r CE W) (hk : Kept bl W W') (hbl : ∀ b ∈ bl, w.heap.size + 4 ≤ b) (h0 : NdAt w x (.agg CE)) (hr0 : RoomsAt w) : AddW w x r CE W' := by
  have hb := below_kept h.below hk h.below.size (fun b hb => by have := hbl b hb; omega)
  exact ⟨hb, hk.blk h.box (fun hm => by have := hbl _ hm; omega), hk.blk h.ref (fun hm => by have := hbl _ hm; omega), hk.blk h.out (fun hm => by have := hbl _ hm; omega), hk.blk h.parts (fun hm => by have := hbl _ hm; omega), h0.below hb, hr0.on hb, Nat.le_trans h.size hk.size⟩
theorem add_start (w : World) (x : Nd) (r : Int × Int) (CE : Array Value) (h : NdAt w x (.agg CE)) (hr : RoomsAt w) : AddW w x r CE ((((w.alloc (.cells CE 26)).alloc (.cells #[.int .i64 r.1, .int .u32 r.2] 29)).alloc (.cells #[.int .i64 0, .string { data := #[] }, .string { data := #[] }, .string { data := #[] }, .slice none 0 0, .slice none 0 0] 26)).alloc (.cells CE 61)) := by
  have b4 : Below w.heap.size w ((((w.alloc (.cells CE 26)).alloc (.cells #[.int .i64 r.1, .int .u32 r.2] 29)).alloc (.cells #[.int .i64 0, .string { data := #[] }, .string { data := #[] }, .string { data := #[] }, .slice none 0 0, .slice none 0 0] 26)).alloc (.cells CE 61)) := ((((Below.refl _ w).alloc (Nat.le_refl _) _).alloc (by simp) _).alloc (by simp; omega) _).alloc (by simp; omega) _
  refine ⟨b4, ((((Blk.new w 26 CE).alloc _).alloc _).alloc _), ?_, ?_, ?_, h.below b4, hr.on b4, by simp⟩
  · have q := ((Blk.new (w.alloc (.cells CE 26)) 29 #[.int .i64 r.1, .int .u32 r.2]).alloc (.cells #[.int .i64 0, .string { data := #[] }, .string { data := #[] }, .string { data := #[] }, .slice none 0 0, .slice none 0 0] 26)).alloc (.cells CE 61)
    rw [World.size_alloc] at q
    exact q
  · have q := (Blk.new ((w.alloc (.cells CE 26)).alloc (.cells #[.int .i64 r.1, .int .u32 r.2] 29)) 26 #[.int .i64 0, .string { data := #[] }, .string { data := #[] }, .string { data := #[] }, .slice none 0 0, .slice none 0 0]).alloc (.cells CE 61)
    rw [World.size_alloc, World.size_alloc] at q
    exact q
  · have q := Blk.new (((w.alloc (.cells CE 26)).alloc (.cells #[.int .i64 r.1, .int .u32 r.2] 29)).alloc (.cells #[.int .i64 0, .string { data := #[] }, .string { data := #[] }, .string { data := #[] }, .slice none 0 0, .slice none 0 0] 26)) 61 CE
    rw [World.size_alloc, World.size_alloc, World.size_alloc] at q
    exact q
set_option maxHeartbeats 3200000 in
set_option maxRecDepth 100000 in
theorem add_no (x : Nd) (V : Value) (b : Nat) (r : Int × Int) (keep : Bool) (w : World) (h : NdAt w x V) (hr : RoomsAt w) (hno : x.may = false ∨ kidN r = false) : Calls Tryz.prog 16 #[V, .int .u8 (b : Int), refV r, .bool keep] w (NdPair zeroNd 4 w) := by
  have h' := h
  obtain ⟨hwf, Ab, cb, Ak, ck, rfl, _, _⟩ := h'
  have h4 := add_start w x r #[.int .i64 x.kind, .string x.code, .string x.value, .string x.path, .slice Ab x.bytes.length cb, .slice Ak x.kids.length ck] h hr
  have HM := Lib.hid (may_n x _ _ h4.node h4.rooms)
  have H4 := Lib.hid h4
  have HN := Lib.hid hno
  clear hwf h hr h4 hno
  unfold Nd.v refV at *
  have HC := H4
  cases hm : x.may with
  | false =>
    rw [hm] at HM
    go_enter Tryz.func16, Tryz.ntmps16
    go_wp2_with fail
    refine HM.out.mono ?_
    rintro e w1 ⟨rfl, hb⟩
    have H5 := Lib.hid (H4.out.on hb)
    obtain ⟨d0, d1, d2, d3, d4, d5⟩ := cells6 H5.out.out
    have f0 := H5.out.out.frozen 0
    have f1 := H5.out.out.frozen 1
    have f2 := H5.out.out.frozen 2
    have f3 := H5.out.out.frozen 3
    have f4 := H5.out.out.frozen 4
    have f5 := H5.out.out.frozen 5
    have l6 := H5.out.out.lt
    clear hb HM H4 HC
    obtain ⟨V, hV, hg, q6⟩ := six_stores (.int .i64 0) (.string { data := #[] }) (.string { data := #[] }) (.string { data := #[] }) (.slice none 0 0) (.slice none 0 0) H5.out.out
    go_wp2
    rw [← hV]
    clear hV d0 d1 d2 d3 d4 d5 f0 f1 f2 f3 f4 f5
    obtain ⟨c0, c1, c2, c3, c4, c5⟩ := cells6 q6
    exact bodyPost_ret (v := .tuple #[.agg #[.int .i64 0, .string { data := #[] }, .string { data := #[] }, .string { data := #[] }, .slice none 0 0, .slice none 0 0], .int .i64 4]) (by simp [results, Tryz.results16, go_sem, c0, c1, c2, c3, c4, c5]) rfl ⟨_, rfl, zeroNd_at V, H5.out.below.grown hg H5.out.below.size (fun k e => by injection e with e; omega), rowsOf_zero⟩
  | true =>
    rw [hm] at HM
    have hkid : kidN r = false := by
      rcases HN.out with e | e
      · rw [hm] at e; cases e
      · exact e
    go_enter Tryz.func16, Tryz.ntmps16
    go_wp2_with fail
    refine HM.out.mono ?_
    rintro e w1 ⟨rfl, hb⟩
    have H6 := Lib.hid (H4.out.on hb)
    have r0 : w1.cell? ⟨w.heap.size + 1, 0, none⟩ = some (.int .i64 r.1) := H6.out.ref.cell 0
    have r1 : w1.cell? ⟨w.heap.size + 1, 1, none⟩ = some (.int .u32 r.2) := H6.out.ref.cell 1
    have hk := kid_n r w1
    rw [hkid] at hk
    unfold refV at hk
    have HK := Lib.hid hk
    clear hb HM H4 HC hk hkid hm
    go_wp2_with fail
    refine HK.out.mono ?_
    rintro e w2 ⟨rfl, hb⟩
    have H5 := Lib.hid (H6.out.on hb)
    obtain ⟨d0, d1, d2, d3, d4, d5⟩ := cells6 H5.out.out
    have f0 := H5.out.out.frozen 0
    have f1 := H5.out.out.frozen 1
    have f2 := H5.out.out.frozen 2
    have f3 := H5.out.out.frozen 3
    have f4 := H5.out.out.frozen 4
    have f5 := H5.out.out.frozen 5
    have l6 := H5.out.out.lt
    clear hb HK H6 r0 r1
    obtain ⟨V, hV, hg, q6⟩ := six_stores (.int .i64 0) (.string { data := #[] }) (.string { data := #[] }) (.string { data := #[] }) (.slice none 0 0) (.slice none 0 0) H5.out.out
    go_wp2
    rw [← hV]
    clear hV d0 d1 d2 d3 d4 d5 f0 f1 f2 f3 f4 f5
    obtain ⟨c0, c1, c2, c3, c4, c5⟩ := cells6 q6
    exact bodyPost_ret (v := .tuple #[.agg #[.int .i64 0, .string { data := #[] }, .string { data := #[] }, .string { data := #[] }, .slice none 0 0, .slice none 0 0], .int .i64 4]) (by simp [results, Tryz.results16, go_sem, c0, c1, c2, c3, c4, c5]) rfl ⟨_, rfl, zeroNd_at V, H5.out.below.grown hg H5.out.below.size (fun k e => by injection e with e; omega), rowsOf_zero⟩

theorem put_iface {W : World} {iv : Value} {room : Int} {f : Kids} {bl : List Nat} (b : Nat) (r : Int × Int) (h : RowAt W iv room f bl) (hb : b < 256) : ∃ (T : TypeId) (g fid : Nat), iv = .iface T (.pointer (some ⟨g, 0, none⟩)) ∧ (∀ V : World, (method 263 T (.pointer (some ⟨g, 0, none⟩)) "Put").run Tryz.prog V = .ok (fid, .pointer (some ⟨g, 0, none⟩)) V) ∧ (∀ args V, (callFunc fid args).run Tryz.prog V = .ok (.enter fid args) V) ∧
    Calls Tryz.prog fid #[.pointer (some ⟨g, 0, none⟩), .int .u8 (b : Int), refV r] W (RowEndI (.int .i64 (putK room f b r).1) iv room (putK room f b r).2 bl W) := by
  rcases h with ⟨g, rfl, rfl, hf⟩ | ⟨g, gr, gu, n, rfl, rfl, rfl, hf⟩
  · refine ⟨_, g, _, rfl, few_Put_me g, enters_of Tryz.func112 (by kernel_rfl) rfl, (Put_k g room f b r W hf hb).mono ?_⟩
    rintro e w' ⟨rfl, h1, h2⟩
    exact ⟨rfl, .inl ⟨g, rfl, rfl, h1⟩, kept_grown h2⟩
  · refine ⟨_, g, _, rfl, many_Put_me g, enters_of Tryz.func128 (by kernel_rfl) rfl, (Put_m g gr gu n f b r W hf hb).mono ?_⟩
    rintro e w' ⟨rfl, h1, h2⟩
    exact ⟨rfl, .inr ⟨g, gr, gu, n, rfl, rfl, rfl, h1⟩, kept_three h2⟩
theorem reads_off {W V : World} {size n c : Nat} {A : Option Addr} {xs : List Value} (h : Reads W W.heap.size size A n xs) (hg : W.grownBy V (some c)) (hne : ∀ ad, A = some ad → ad.block ≠ c) : Reads V V.heap.size size A n xs := by
  refine ⟨h.1, fun hn => ?_⟩
  obtain ⟨ad, e, hb, hc⟩ := h.2 hn
  refine ⟨ad, e, Nat.lt_of_lt_of_le hb hg.size, fun j u hu => ?_⟩
  have hbl : (ad.add j).block = ad.block := block_of_add ad j
  refine (World.cell?_of_block ?_).trans (hc j u hu)
  rw [hbl]
  exact hg.block _ hb (fun e2 => hne ad e (by injection e2))
theorem addS {w W : World} {x : Nd} {r : Int × Int} {Ab Ak : Option Addr} {cb ck : Nat} (h : AddW w x r #[.int .i64 x.kind, .string x.code, .string x.value, .string x.path, .slice Ab x.bytes.length cb, .slice Ak x.kids.length ck] W) : (W.cell? ⟨w.heap.size + 1 + 1 + 1, 0, none⟩ = some (.int .i64 x.kind) ∧ W.cell? ⟨w.heap.size + 1 + 1 + 1, 1, none⟩ = some (.string x.code) ∧ W.cell? ⟨w.heap.size + 1 + 1 + 1, 2, none⟩ = some (.string x.value) ∧ W.cell? ⟨w.heap.size + 1 + 1 + 1, 3, none⟩ = some (.string x.path) ∧ W.cell? ⟨w.heap.size + 1 + 1 + 1, 4, none⟩ = some (.slice Ab x.bytes.length cb) ∧ W.cell? ⟨w.heap.size + 1 + 1 + 1, 5, none⟩ = some (.slice Ak x.kids.length ck)) ∧ W.cell? ⟨w.heap.size, 0, none⟩ = some (.int .i64 x.kind) := ⟨cells6 h.parts, h.box.cell 0⟩
theorem AddW.drew {w W : World} {x : Nd} {r : Int × Int} {CE : Array Value} (h : AddW w x r CE W) : AddW w x r CE W.drew := ⟨h.below.drew, h.box.drew, h.ref.drew, h.out.drew, h.parts.drew, h.node, h.rooms, h.size⟩
set_option maxHeartbeats 3200000 in
set_option maxRecDepth 100000 in
theorem add_yes (x : Nd) (V : Value) (b : Nat) (r : Int × Int) (keep : Bool) (w : World) (h : NdAt w x V) (hr : RoomsAt w) (hb256 : b < 256) (hrok : refOk r) (hm : x.may = true) (hkd : kidN r = true) (hz : (putK (addRoom x keep) (x.row (addRoom x keep)) b r).1 = 0) : Calls Tryz.prog 16 #[V, .int .u8 (b : Int), refV r, .bool keep] w (fun e w' => NdPair (addN x b r keep).1 (addN x b r keep).2 w e w') := by
  have hin := inner_parts (may_inner hm)
  have hx2 : addN x b r keep = if (putK (addRoom x keep) (x.row (addRoom x keep)) b r).1 = 0 then (ofNd x (putK (addRoom x keep) (x.row (addRoom x keep)) b r).2 (kindN x ((x.kids.length : Int) + 1) keep), 0) else (zeroNd, (putK (addRoom x keep) (x.row (addRoom x keep)) b r).1) := by
    unfold addN
    rw [if_neg (by rw [hm, hkd]; simp)]
  rw [hx2]
  clear hx2
  have hroom := addRoom_ok x keep hin.1
  have hkin := kindN_in x ((x.kids.length : Int) + 1) keep hin.1
  have hpo := put_refOk (addRoom x keep) (row_refOk h.1 (addRoom x keep)) b hrok
  have h' := h
  obtain ⟨hwf, Ab, cb, Ak, ck, rfl, _, _⟩ := h'
  have h4 := add_start w x r #[.int .i64 x.kind, .string x.code, .string x.value, .string x.path, .slice Ab x.bytes.length cb, .slice Ak x.kids.length ck] h hr
  have HM := Lib.hid (may_n x _ _ h4.node h4.rooms)
  rw [hm] at HM
  have H4 := Lib.hid h4
  obtain ⟨room, hrm⟩ : ∃ room, addRoom x keep = room := ⟨_, rfl⟩
  obtain ⟨q, hq⟩ : ∃ q, kindN x ((x.kids.length : Int) + 1) keep = q := ⟨_, rfl⟩
  rw [hrm] at hroom hpo hz ⊢
  rw [hq] at hkin ⊢
  have hrq : roomN (max q x.kind) = room := by rw [← hrm, ← hq]; rfl
  obtain ⟨pc, hpc⟩ : ∃ pc, (putK room (x.row room) b r).1 = pc := ⟨_, rfl⟩
  obtain ⟨f2, hf2⟩ : ∃ f2, (putK room (x.row room) b r).2 = f2 := ⟨_, rfl⟩
  rw [hpc, hf2, if_pos (by rw [← hpc]; exact hz)]
  rw [hf2] at hpo
  have HZ : Hid ((pc != 0) = false) := Lib.hid (by rw [← hpc]; simp [hz])
  clear hz
  unfold Nd.row at hpc hf2
  have HPC := Lib.hid (And.intro hpc hf2)
  clear hpc hf2
  have HP := Lib.hid (And.intro hpo (And.intro hroom (And.intro hkin (And.intro hwf (And.intro hin (And.intro hrq (And.intro hq (And.intro h hr))))))))
  have hkl : (x.kids.length : Int) ≤ 256 := by omega
  clear hwf h hr h4 hroom hkin hpo hin hm hrm hq hrq
  have hkk := fun W => kid_n r W
  rw [hkd] at hkk
  have HKK := Lib.hid hkk
  clear hkk hkd
  unfold Nd.v refV at *
  go_enter Tryz.func16, Tryz.ntmps16
  go_wp2_with fail
  refine HM.out.mono ?_
  rintro e w1 ⟨rfl, hb⟩
  have H6 := Lib.hid (H4.out.on hb)
  have r0 : w1.cell? ⟨w.heap.size + 1, 0, none⟩ = some (.int .i64 r.1) := H6.out.ref.cell 0
  have r1 : w1.cell? ⟨w.heap.size + 1, 1, none⟩ = some (.int .u32 r.2) := H6.out.ref.cell 1
  have HK := Lib.hid (HKK.out w1)
  clear hb HM H4 HKK
  go_wp2_with fail
  refine HK.out.mono ?_
  rintro e w2 ⟨rfl, hb⟩
  have H5 := Lib.hid (H6.out.on hb)
  obtain ⟨p0, p1, p2, p3, p4, p5⟩ := cells6 H5.out.parts
  have b5 : w2.cell? ⟨w.heap.size, 5, none⟩ = some (.slice Ak x.kids.length ck) := H5.out.box.cell 5
  have HKI := Lib.hid (kind_n x _ ((x.kids.length : Int) + 1) keep w2 H5.out.node H5.out.rooms)
  rw [HP.out.2.2.2.2.2.2.1] at HKI
  clear hb HK H6 r0 r1
  go_wp2_with fail
  refine HKI.out.mono ?_
  rintro e w3 ⟨rfl, hb⟩
  have H3 := Lib.hid (H5.out.on hb)
  clear hb HKI H5 p0 p1 p2 p3 p4 p5 b5
  have HRO := Lib.hid (room_n (max q x.kind) w3.drew H3.out.drew.rooms)
  rw [HP.out.2.2.2.2.2.1, show max q x.kind = if q < x.kind then x.kind else q by split <;> omega] at HRO
  have HLA := Lib.hid (laid_n x _ room w3.drew H3.out.drew.node HP.out.2.1 (by have := HP.out.2.2.2.2.1.2.2.2.2.1; omega))
  go_wp2_with fail
  refine wp_region_held_drew (S := (fun V : World => (V.cell? ⟨w.heap.size + 1 + 1 + 1, 0, none⟩ = some (.int .i64 x.kind) ∧ V.cell? ⟨w.heap.size + 1 + 1 + 1, 1, none⟩ = some (.string x.code) ∧ V.cell? ⟨w.heap.size + 1 + 1 + 1, 2, none⟩ = some (.string x.value) ∧ V.cell? ⟨w.heap.size + 1 + 1 + 1, 3, none⟩ = some (.string x.path) ∧ V.cell? ⟨w.heap.size + 1 + 1 + 1, 4, none⟩ = some (.slice Ab x.bytes.length cb) ∧ V.cell? ⟨w.heap.size + 1 + 1 + 1, 5, none⟩ = some (.slice Ak x.kids.length ck)) ∧ V.cell? ⟨w.heap.size, 0, none⟩ = some (.int .i64 x.kind))) (by kernel_rfl) ?_ (fun hHeld0 => ?_)
  · exact addS H3.out.drew
  refine wpAnyH_take (i := 0) (v := ?_) rfl (by kernel_rfl) (by kernel_rfl) (by kernel_rfl) (fun _ _ _ h => h) (Or.inl ⟨by rfl, ?_⟩) hHeld0 ?_
  rotate_left
  · (intro w hSw; (try dsimp only at hSw); go_simp <;> with_reducible rfl)
  try simp only [Act.put, List.setIfInBounds_toArray, List.set_cons_zero, List.set_cons_succ]
  refine wpAnyH_take (i := 1) (v := ?_) rfl (by kernel_rfl) (by kernel_rfl) (by kernel_rfl) (fun _ _ _ h => h) (Or.inl ⟨by rfl, ?_⟩) hHeld0 ?_
  rotate_left
  · (intro w hSw; (try dsimp only at hSw); go_simp <;> with_reducible rfl)
  try simp only [Act.put, List.setIfInBounds_toArray, List.set_cons_zero, List.set_cons_succ]
  refine wpAnyH_take (i := 2) (v := ?_) rfl (by kernel_rfl) (by kernel_rfl) (by kernel_rfl) (fun _ _ _ h => h) (Or.inl ⟨by rfl, ?_⟩) hHeld0 ?_
  rotate_left
  · (intro w hSw; (try dsimp only at hSw); go_simp <;> with_reducible rfl)
  try simp only [Act.put, List.setIfInBounds_toArray, List.set_cons_zero, List.set_cons_succ]
  refine wpAnyH_take (i := 3) (v := ?_) rfl (by kernel_rfl) (by kernel_rfl) (by kernel_rfl) (fun _ _ _ h => h) (Or.inl ⟨by rfl, ?_⟩) hHeld0 ?_
  rotate_left
  · (intro w hSw; (try dsimp only at hSw); go_simp <;> with_reducible rfl)
  try simp only [Act.put, List.setIfInBounds_toArray, List.set_cons_zero, List.set_cons_succ]
  refine wpAnyH_take (i := 4) (v := ?_) rfl (by kernel_rfl) (by kernel_rfl) (by kernel_rfl) (fun _ _ _ h => h) (Or.inl ⟨by rfl, ?_⟩) hHeld0 ?_
  rotate_left
  · (intro w hSw; (try dsimp only at hSw); go_simp <;> with_reducible rfl)
  try simp only [Act.put, List.setIfInBounds_toArray, List.set_cons_zero, List.set_cons_succ]
  refine wpAnyH_ready (rs := [5]) (by kernel_rfl) (by simp) ?_
  refine AllReadyH.cons rfl (fun K hK => ?_) ?_
  · go_simp
    with_reducible refine HRO.out.mono ?_
    rintro e w4 ⟨rfl, rfl⟩
    refine hK.out _ _ ?_ (fun hHeld1 => ?_)
    · exact addS H3.out.drew
    clear hK K hHeld0
    try simp only [Act.put, List.setIfInBounds_toArray, List.set_cons_zero, List.set_cons_succ]
    refine wpAnyH_ready (rs := [6]) (by kernel_rfl) (by simp) ?_
    refine AllReadyH.cons rfl (fun K hK => ?_) ?_
    · go_simp
      refine HLA.out.mono ?_
      rintro e w5 ⟨iv, bl, rfl, hrow, hbl, hb5⟩
      have H7 := Lib.hid (And.intro hrow (And.intro hbl (And.intro (H3.out.drew.on hb5) hb5.size)))
      clear hrow hbl hb5
      refine hK.out _ _ ?_ (fun hHeld2 => ?_)
      · exact addS H7.out.2.2.1
      clear hK K hHeld1
      try simp only [Act.put, List.setIfInBounds_toArray, List.set_cons_zero, List.set_cons_succ]
      refine wpAnyH_take (i := 7) (v := ?_) rfl (by kernel_rfl) (by kernel_rfl) (by kernel_rfl) (fun _ _ _ h => h) (Or.inl ⟨by rfl, ?_⟩) hHeld2 ?_
      rotate_left
      · (intro w hSw; (try dsimp only at hSw); go_simp <;> with_reducible rfl)
      try simp only [Act.put, List.setIfInBounds_toArray, List.set_cons_zero, List.set_cons_succ]
      refine wpAnyH_done (by kernel_rfl) ?_ _
      refine (‹∀ (a : Act) (w : World), Code.wp Tryz.prog _ _ a w → _› _ _ ?_)
      obtain ⟨TT, g, fid, rfl, hme, hen, hput⟩ := put_iface b r H7.out.1 hb256
      have hbl := H7.out.2.1
      have HA5 := Lib.hid H7.out.2.2.1
      have hs7 := H7.out.2.2.2
      have hs3 := H3.out.size
      have r0 : w5.cell? ⟨w.heap.size + 1, 0, none⟩ = some (.int .i64 r.1) := HA5.out.ref.cell 0
      have r1 : w5.cell? ⟨w.heap.size + 1, 1, none⟩ = some (.int .u32 r.2) := HA5.out.ref.cell 1
      have hpo := HP.out.1
      rw [HPC.out.1, HPC.out.2] at hput
      unfold refV at hput
      have HPU := Lib.hid hput
      have HX := Lib.hid (And.intro hbl (And.intro hs7 (And.intro hs3 hpo)))
      clear hput hbl hs7 hs3 hpo H7 HLA HRO
      generalize (if q < x.kind then x.kind else q) = mx
      go_simp
      go_wp2_with fail
      refine HPU.out.mono ?_
      rintro e w6 ⟨rfl, hrow6, hk6⟩
      have h8 : AddW w x r #[.int .i64 x.kind, .string x.code, .string x.value, .string x.path, .slice Ab x.bytes.length cb, .slice Ak x.kids.length ck] w6 := HA5.out.kept hk6 (fun c hc => by have h1 := HX.out.1 c hc; have h2 := HX.out.2.2.1; simp at h1; omega) HP.out.2.2.2.2.2.2.2.1 HP.out.2.2.2.2.2.2.2.2
      have H8 := Lib.hid h8
      have H8S := h8.size
      have HOF := Lib.hid (of_row x _ w6 h8.node _ room f2 _ hrow6 q HP.out.2.2.1 HX.out.2.2.2)
      obtain ⟨p0, p1, p2, p3, p4, p5⟩ := cells6 h8.parts
      have hzb := HZ.out
      clear h8 hrow6 hk6 HPU hme hen HA5 r0 r1
      go_wp2_with fail
      refine HOF.out.mono ?_
      rintro e w7 ⟨V', rfl, hnd, hb7⟩
      have H9 := Lib.hid (H8.out.on hb7)
      obtain ⟨hwf', A4, c4', A5, c5', rfl, hr4, hr5, ha4, ha5⟩ := hnd
      have HND := Lib.hid (And.intro hwf' (And.intro hr4 (And.intro hr5 (And.intro ha4 ha5))))
      obtain ⟨d0, d1, d2, d3, d4, d5⟩ := cells6 H9.out.out
      have fz0 := H9.out.out.frozen 0
      have fz1 := H9.out.out.frozen 1
      have fz2 := H9.out.out.frozen 2
      have fz3 := H9.out.out.frozen 3
      have fz4 := H9.out.out.frozen 4
      have fz5 := H9.out.out.frozen 5
      have l6 := H9.out.out.lt
      obtain ⟨VV, hV, hg, q6⟩ := six_stores (.int .i64 (ofNd x f2 q).kind) (.string (ofNd x f2 q).code) (.string (ofNd x f2 q).value) (.string (ofNd x f2 q).path) (.slice A4 (ofNd x f2 q).bytes.length c4') (.slice A5 (ofNd x f2 q).kids.length c5') H9.out.out
      clear hwf' hr4 hr5 ha4 ha5 HOF H8 hb7 p0 p1 p2 p3 p4 p5
      unfold Nd.v
      go_wp2
      rw [← hV]
      clear hV d0 d1 d2 d3 d4 d5 fz0 fz1 fz2 fz3 fz4 fz5
      obtain ⟨c0, c1, c2, c3, c4, c5⟩ := cells6 q6
      exact bodyPost_ret (v := .tuple #[.agg #[.int .i64 (ofNd x f2 q).kind, .string (ofNd x f2 q).code, .string (ofNd x f2 q).value, .string (ofNd x f2 q).path, .slice A4 (ofNd x f2 q).bytes.length c4', .slice A5 (ofNd x f2 q).kids.length c5'], .int .i64 0]) (by simp [results, Tryz.results16, go_sem, c0, c1, c2, c3, c4, c5]) rfl ⟨_, rfl, ⟨HND.out.1, A4, c4', A5, c5', rfl, reads_off HND.out.2.1 hg (fun ad e => by have := HND.out.2.2.2.1 ad e; have := H8S; omega), reads_off HND.out.2.2.1 hg (fun ad e => by have := HND.out.2.2.2.2 ad e; have := H8S; omega)⟩, H9.out.below.grown hg H9.out.below.size (fun k e => by injection e with e; omega), rowsOf_v (fun ad e => by have h1 := HND.out.2.2.2.1 ad e; have h2 := H8S; omega) (fun ad e => by have h1 := HND.out.2.2.2.2 ad e; have h2 := H8S; omega)⟩
      
    exact AllReadyH.nil
  exact AllReadyH.nil
set_option maxHeartbeats 3200000 in
set_option maxRecDepth 100000 in
theorem add_err (x : Nd) (V : Value) (b : Nat) (r : Int × Int) (keep : Bool) (w : World) (h : NdAt w x V) (hr : RoomsAt w) (hb256 : b < 256) (hrok : refOk r) (hm : x.may = true) (hkd : kidN r = true) (hz : (putK (addRoom x keep) (x.row (addRoom x keep)) b r).1 ≠ 0) : Calls Tryz.prog 16 #[V, .int .u8 (b : Int), refV r, .bool keep] w (fun e w' => NdPair (addN x b r keep).1 (addN x b r keep).2 w e w') := by
  have hin := inner_parts (may_inner hm)
  have hx2 : addN x b r keep = if (putK (addRoom x keep) (x.row (addRoom x keep)) b r).1 = 0 then (ofNd x (putK (addRoom x keep) (x.row (addRoom x keep)) b r).2 (kindN x ((x.kids.length : Int) + 1) keep), 0) else (zeroNd, (putK (addRoom x keep) (x.row (addRoom x keep)) b r).1) := by
    unfold addN
    rw [if_neg (by rw [hm, hkd]; simp)]
  rw [hx2]
  clear hx2
  have hroom := addRoom_ok x keep hin.1
  have hkin := kindN_in x ((x.kids.length : Int) + 1) keep hin.1
  have hpo := put_refOk (addRoom x keep) (row_refOk h.1 (addRoom x keep)) b hrok
  have h' := h
  obtain ⟨hwf, Ab, cb, Ak, ck, rfl, _, _⟩ := h'
  have h4 := add_start w x r #[.int .i64 x.kind, .string x.code, .string x.value, .string x.path, .slice Ab x.bytes.length cb, .slice Ak x.kids.length ck] h hr
  have HM := Lib.hid (may_n x _ _ h4.node h4.rooms)
  rw [hm] at HM
  have H4 := Lib.hid h4
  obtain ⟨room, hrm⟩ : ∃ room, addRoom x keep = room := ⟨_, rfl⟩
  obtain ⟨q, hq⟩ : ∃ q, kindN x ((x.kids.length : Int) + 1) keep = q := ⟨_, rfl⟩
  rw [hrm] at hroom hpo hz ⊢
  rw [hq] at hkin ⊢
  have hrq : roomN (max q x.kind) = room := by rw [← hrm, ← hq]; rfl
  obtain ⟨pc, hpc⟩ : ∃ pc, (putK room (x.row room) b r).1 = pc := ⟨_, rfl⟩
  obtain ⟨f2, hf2⟩ : ∃ f2, (putK room (x.row room) b r).2 = f2 := ⟨_, rfl⟩
  rw [hpc, hf2, if_neg (by rw [← hpc]; exact hz)]
  rw [hf2] at hpo
  have HZ : Hid ((pc != 0) = true) := Lib.hid (by rw [← hpc]; simp [hz])
  clear hz
  unfold Nd.row at hpc hf2
  have HPC := Lib.hid (And.intro hpc hf2)
  clear hpc hf2
  have HP := Lib.hid (And.intro hpo (And.intro hroom (And.intro hkin (And.intro hwf (And.intro hin (And.intro hrq (And.intro hq (And.intro h hr))))))))
  have hkl : (x.kids.length : Int) ≤ 256 := by omega
  clear hwf h hr h4 hroom hkin hpo hin hm hrm hq hrq
  have hkk := fun W => kid_n r W
  rw [hkd] at hkk
  have HKK := Lib.hid hkk
  clear hkk hkd
  unfold Nd.v refV at *
  go_enter Tryz.func16, Tryz.ntmps16
  go_wp2_with fail
  refine HM.out.mono ?_
  rintro e w1 ⟨rfl, hb⟩
  have H6 := Lib.hid (H4.out.on hb)
  have r0 : w1.cell? ⟨w.heap.size + 1, 0, none⟩ = some (.int .i64 r.1) := H6.out.ref.cell 0
  have r1 : w1.cell? ⟨w.heap.size + 1, 1, none⟩ = some (.int .u32 r.2) := H6.out.ref.cell 1
  have HK := Lib.hid (HKK.out w1)
  clear hb HM H4 HKK
  go_wp2_with fail
  refine HK.out.mono ?_
  rintro e w2 ⟨rfl, hb⟩
  have H5 := Lib.hid (H6.out.on hb)
  obtain ⟨p0, p1, p2, p3, p4, p5⟩ := cells6 H5.out.parts
  have b5 : w2.cell? ⟨w.heap.size, 5, none⟩ = some (.slice Ak x.kids.length ck) := H5.out.box.cell 5
  have HKI := Lib.hid (kind_n x _ ((x.kids.length : Int) + 1) keep w2 H5.out.node H5.out.rooms)
  rw [HP.out.2.2.2.2.2.2.1] at HKI
  clear hb HK H6 r0 r1
  go_wp2_with fail
  refine HKI.out.mono ?_
  rintro e w3 ⟨rfl, hb⟩
  have H3 := Lib.hid (H5.out.on hb)
  clear hb HKI H5 p0 p1 p2 p3 p4 p5 b5
  have HRO := Lib.hid (room_n (max q x.kind) w3.drew H3.out.drew.rooms)
  rw [HP.out.2.2.2.2.2.1, show max q x.kind = if q < x.kind then x.kind else q by split <;> omega] at HRO
  have HLA := Lib.hid (laid_n x _ room w3.drew H3.out.drew.node HP.out.2.1 (by have := HP.out.2.2.2.2.1.2.2.2.2.1; omega))
  go_wp2_with fail
  refine wp_region_held_drew (S := (fun V : World => (V.cell? ⟨w.heap.size + 1 + 1 + 1, 0, none⟩ = some (.int .i64 x.kind) ∧ V.cell? ⟨w.heap.size + 1 + 1 + 1, 1, none⟩ = some (.string x.code) ∧ V.cell? ⟨w.heap.size + 1 + 1 + 1, 2, none⟩ = some (.string x.value) ∧ V.cell? ⟨w.heap.size + 1 + 1 + 1, 3, none⟩ = some (.string x.path) ∧ V.cell? ⟨w.heap.size + 1 + 1 + 1, 4, none⟩ = some (.slice Ab x.bytes.length cb) ∧ V.cell? ⟨w.heap.size + 1 + 1 + 1, 5, none⟩ = some (.slice Ak x.kids.length ck)) ∧ V.cell? ⟨w.heap.size, 0, none⟩ = some (.int .i64 x.kind))) (by kernel_rfl) ?_ (fun hHeld0 => ?_)
  · exact addS H3.out.drew
  refine wpAnyH_take (i := 0) (v := ?_) rfl (by kernel_rfl) (by kernel_rfl) (by kernel_rfl) (fun _ _ _ h => h) (Or.inl ⟨by rfl, ?_⟩) hHeld0 ?_
  rotate_left
  · (intro w hSw; (try dsimp only at hSw); go_simp <;> with_reducible rfl)
  try simp only [Act.put, List.setIfInBounds_toArray, List.set_cons_zero, List.set_cons_succ]
  refine wpAnyH_take (i := 1) (v := ?_) rfl (by kernel_rfl) (by kernel_rfl) (by kernel_rfl) (fun _ _ _ h => h) (Or.inl ⟨by rfl, ?_⟩) hHeld0 ?_
  rotate_left
  · (intro w hSw; (try dsimp only at hSw); go_simp <;> with_reducible rfl)
  try simp only [Act.put, List.setIfInBounds_toArray, List.set_cons_zero, List.set_cons_succ]
  refine wpAnyH_take (i := 2) (v := ?_) rfl (by kernel_rfl) (by kernel_rfl) (by kernel_rfl) (fun _ _ _ h => h) (Or.inl ⟨by rfl, ?_⟩) hHeld0 ?_
  rotate_left
  · (intro w hSw; (try dsimp only at hSw); go_simp <;> with_reducible rfl)
  try simp only [Act.put, List.setIfInBounds_toArray, List.set_cons_zero, List.set_cons_succ]
  refine wpAnyH_take (i := 3) (v := ?_) rfl (by kernel_rfl) (by kernel_rfl) (by kernel_rfl) (fun _ _ _ h => h) (Or.inl ⟨by rfl, ?_⟩) hHeld0 ?_
  rotate_left
  · (intro w hSw; (try dsimp only at hSw); go_simp <;> with_reducible rfl)
  try simp only [Act.put, List.setIfInBounds_toArray, List.set_cons_zero, List.set_cons_succ]
  refine wpAnyH_take (i := 4) (v := ?_) rfl (by kernel_rfl) (by kernel_rfl) (by kernel_rfl) (fun _ _ _ h => h) (Or.inl ⟨by rfl, ?_⟩) hHeld0 ?_
  rotate_left
  · (intro w hSw; (try dsimp only at hSw); go_simp <;> with_reducible rfl)
  try simp only [Act.put, List.setIfInBounds_toArray, List.set_cons_zero, List.set_cons_succ]
  refine wpAnyH_ready (rs := [5]) (by kernel_rfl) (by simp) ?_
  refine AllReadyH.cons rfl (fun K hK => ?_) ?_
  · go_simp
    with_reducible refine HRO.out.mono ?_
    rintro e w4 ⟨rfl, rfl⟩
    refine hK.out _ _ ?_ (fun hHeld1 => ?_)
    · exact addS H3.out.drew
    clear hK K hHeld0
    try simp only [Act.put, List.setIfInBounds_toArray, List.set_cons_zero, List.set_cons_succ]
    refine wpAnyH_ready (rs := [6]) (by kernel_rfl) (by simp) ?_
    refine AllReadyH.cons rfl (fun K hK => ?_) ?_
    · go_simp
      refine HLA.out.mono ?_
      rintro e w5 ⟨iv, bl, rfl, hrow, hbl, hb5⟩
      have H7 := Lib.hid (And.intro hrow (And.intro hbl (And.intro (H3.out.drew.on hb5) hb5.size)))
      clear hrow hbl hb5
      refine hK.out _ _ ?_ (fun hHeld2 => ?_)
      · exact addS H7.out.2.2.1
      clear hK K hHeld1
      try simp only [Act.put, List.setIfInBounds_toArray, List.set_cons_zero, List.set_cons_succ]
      refine wpAnyH_take (i := 7) (v := ?_) rfl (by kernel_rfl) (by kernel_rfl) (by kernel_rfl) (fun _ _ _ h => h) (Or.inl ⟨by rfl, ?_⟩) hHeld2 ?_
      rotate_left
      · (intro w hSw; (try dsimp only at hSw); go_simp <;> with_reducible rfl)
      try simp only [Act.put, List.setIfInBounds_toArray, List.set_cons_zero, List.set_cons_succ]
      refine wpAnyH_done (by kernel_rfl) ?_ _
      refine (‹∀ (a : Act) (w : World), Code.wp Tryz.prog _ _ a w → _› _ _ ?_)
      obtain ⟨TT, g, fid, rfl, hme, hen, hput⟩ := put_iface b r H7.out.1 hb256
      have hbl := H7.out.2.1
      have HA5 := Lib.hid H7.out.2.2.1
      have hs7 := H7.out.2.2.2
      have hs3 := H3.out.size
      have r0 : w5.cell? ⟨w.heap.size + 1, 0, none⟩ = some (.int .i64 r.1) := HA5.out.ref.cell 0
      have r1 : w5.cell? ⟨w.heap.size + 1, 1, none⟩ = some (.int .u32 r.2) := HA5.out.ref.cell 1
      have hpo := HP.out.1
      rw [HPC.out.1, HPC.out.2] at hput
      unfold refV at hput
      have HPU := Lib.hid hput
      have HX := Lib.hid (And.intro hbl (And.intro hs7 (And.intro hs3 hpo)))
      clear hput hbl hs7 hs3 hpo H7 HLA HRO
      generalize (if q < x.kind then x.kind else q) = mx
      go_simp
      go_wp2_with fail
      refine HPU.out.mono ?_
      rintro e w6 ⟨rfl, hrow6, hk6⟩
      have h8 : AddW w x r #[.int .i64 x.kind, .string x.code, .string x.value, .string x.path, .slice Ab x.bytes.length cb, .slice Ak x.kids.length ck] w6 := HA5.out.kept hk6 (fun c hc => by have h1 := HX.out.1 c hc; have h2 := HX.out.2.2.1; simp at h1; omega) HP.out.2.2.2.2.2.2.2.1 HP.out.2.2.2.2.2.2.2.2
      have H8 := Lib.hid h8
      have hzb := HZ.out
      clear h8 hrow6 hk6 HPU hme hen HA5 r0 r1
      obtain ⟨d0, d1, d2, d3, d4, d5⟩ := cells6 H8.out.out
      have fz0 := H8.out.out.frozen 0
      have fz1 := H8.out.out.frozen 1
      have fz2 := H8.out.out.frozen 2
      have fz3 := H8.out.out.frozen 3
      have fz4 := H8.out.out.frozen 4
      have fz5 := H8.out.out.frozen 5
      have l6 := H8.out.out.lt
      obtain ⟨VV, hV, hg, q6⟩ := six_stores (.int .i64 0) (.string { data := #[] }) (.string { data := #[] }) (.string { data := #[] }) (.slice none 0 0) (.slice none 0 0) H8.out.out
      go_wp2
      rw [← hV]
      clear hV d0 d1 d2 d3 d4 d5 fz0 fz1 fz2 fz3 fz4 fz5
      obtain ⟨c0, c1, c2, c3, c4, c5⟩ := cells6 q6
      exact bodyPost_ret (v := .tuple #[.agg #[.int .i64 0, .string { data := #[] }, .string { data := #[] }, .string { data := #[] }, .slice none 0 0, .slice none 0 0], .int .i64 pc]) (by simp [results, Tryz.results16, go_sem, c0, c1, c2, c3, c4, c5]) rfl ⟨_, rfl, zeroNd_at VV, H8.out.below.grown hg H8.out.below.size (fun k e => by injection e with e; omega), rowsOf_zero⟩
      
    exact AllReadyH.nil
  exact AllReadyH.nil
end Go.Proofs.YtgjgcbemgmkncaaGreatDoor
namespace Go.Proofs.YtgjgcbemgmkncaaGreatDoor
open Go.RowKit Go.Shelf
set_option linter.unusedVariables false
set_option maxRecDepth 20000
set_option linter.unusedSimpArgs false

theorem Add_n (x : Nd) (V : Value) (b : Nat) (r : Int × Int) (keep : Bool) (w : World) (h : NdAt w x V) (hr : RoomsAt w) (hb : b < 256) (hrok : refOk r) : Calls Tryz.prog 16 #[V, .int .u8 (b : Int), refV r, .bool keep] w (NdPair (addN x b r keep).1 (addN x b r keep).2 w) := by
  by_cases hno : x.may = false ∨ kidN r = false
  · have e : addN x b r keep = (zeroNd, 4) := by unfold addN; rw [if_pos hno]
    rw [e]
    exact add_no x V b r keep w h hr hno
  · have hm : x.may = true := by
      cases hm : x.may with
      | true => rfl
      | false => exact absurd (.inl hm) hno
    have hk : kidN r = true := by
      cases hk : kidN r with
      | true => rfl
      | false => exact absurd (.inr hk) hno
    by_cases hz : (putK (addRoom x keep) (x.row (addRoom x keep)) b r).1 = 0
    · exact add_yes x V b r keep w h hr hb hrok hm hk hz
    · exact add_err x V b r keep w h hr hb hrok hm hk hz
end Go.Proofs.YtgjgcbemgmkncaaGreatDoor
namespace Go.Proofs.YtgjgcbemgmkncaaGreatDoor
open Go.RowKit Go.Shelf
set_option linter.unusedVariables false
set_option maxRecDepth 20000
set_option linter.unusedSimpArgs false

/-- Cut's world behind its boxes. -/
structure CutW (w : World) (x : Nd) (CE : Array Value) (W : World) : Prop where
  below : Below w.heap.size w W
  box : Blk W w.heap.size 26 CE
  out : Blk W (w.heap.size + 1) 26 #[.int .i64 0, .string { data := #[] }, .string { data := #[] }, .string { data := #[] }, .slice none 0 0, .slice none 0 0]
  parts : Blk W (w.heap.size + 1 + 1) 61 CE
  node : NdAt W x (.agg CE)
  rooms : RoomsAt W
  size : w.heap.size + 3 ≤ W.heap.size
theorem CutW.on {w W W' : World} {x : Nd} {CE : Array Value} (h : CutW w x CE W) (hb : Below W.heap.size W W') : CutW w x CE W' :=
  ⟨h.below.trans (hb.mono h.below.size), h.box.below hb h.box.lt, h.out.below hb h.out.lt, h.parts.below hb h.parts.lt, h.node.below hb, h.rooms.on hb, Nat.le_trans h.size hb.size⟩
theorem CutW.kept {w W W' : World} {x : Nd} {CE : Array Value} {bl : List Nat} (h : CutW w x CE W) (hk : Kept bl W W') (hbl : ∀ b ∈ bl, w.heap.size + 3 ≤ b) (h0 : NdAt w x (.agg CE)) (hr0 : RoomsAt w) : CutW w x CE W' := by
  have hb := below_kept h.below hk h.below.size (fun b hb => by have := hbl b hb; omega)
  exact ⟨hb, hk.blk h.box (fun hm => by have := hbl _ hm; omega), hk.blk h.out (fun hm => by have := hbl _ hm; omega), hk.blk h.parts (fun hm => by have := hbl _ hm; omega), h0.below hb, hr0.on hb, Nat.le_trans h.size hk.size⟩
theorem CutW.drew {w W : World} {x : Nd} {CE : Array Value} (h : CutW w x CE W) : CutW w x CE W.drew := ⟨h.below.drew, h.box.drew, h.out.drew, h.parts.drew, h.node, h.rooms, h.size⟩
theorem cut_start (w : World) (x : Nd) (CE : Array Value) (h : NdAt w x (.agg CE)) (hr : RoomsAt w) : CutW w x CE (((w.alloc (.cells CE 26)).alloc (.cells #[.int .i64 0, .string { data := #[] }, .string { data := #[] }, .string { data := #[] }, .slice none 0 0, .slice none 0 0] 26)).alloc (.cells CE 61)) := by
  have b4 : Below w.heap.size w (((w.alloc (.cells CE 26)).alloc (.cells #[.int .i64 0, .string { data := #[] }, .string { data := #[] }, .string { data := #[] }, .slice none 0 0, .slice none 0 0] 26)).alloc (.cells CE 61)) := (((Below.refl _ w).alloc (Nat.le_refl _) _).alloc (by simp) _).alloc (by simp; omega) _
  refine ⟨b4, ((Blk.new w 26 CE).alloc _).alloc _, ?_, ?_, h.below b4, hr.on b4, by simp⟩
  · have q := (Blk.new (w.alloc (.cells CE 26)) 26 #[.int .i64 0, .string { data := #[] }, .string { data := #[] }, .string { data := #[] }, .slice none 0 0, .slice none 0 0]).alloc (.cells CE 61)
    rw [World.size_alloc] at q
    exact q
  · have q := Blk.new ((w.alloc (.cells CE 26)).alloc (.cells #[.int .i64 0, .string { data := #[] }, .string { data := #[] }, .string { data := #[] }, .slice none 0 0, .slice none 0 0] 26)) 61 CE
    rw [World.size_alloc, World.size_alloc] at q
    exact q
theorem cutS {w W : World} {x : Nd} {Ab Ak : Option Addr} {cb ck : Nat} (h : CutW w x #[.int .i64 x.kind, .string x.code, .string x.value, .string x.path, .slice Ab x.bytes.length cb, .slice Ak x.kids.length ck] W) : (W.cell? ⟨w.heap.size + 1 + 1, 0, none⟩ = some (.int .i64 x.kind) ∧ W.cell? ⟨w.heap.size + 1 + 1, 1, none⟩ = some (.string x.code) ∧ W.cell? ⟨w.heap.size + 1 + 1, 2, none⟩ = some (.string x.value) ∧ W.cell? ⟨w.heap.size + 1 + 1, 3, none⟩ = some (.string x.path) ∧ W.cell? ⟨w.heap.size + 1 + 1, 4, none⟩ = some (.slice Ab x.bytes.length cb) ∧ W.cell? ⟨w.heap.size + 1 + 1, 5, none⟩ = some (.slice Ak x.kids.length ck)) ∧ W.cell? ⟨w.heap.size, 0, none⟩ = some (.int .i64 x.kind) ∧ W.cell? ⟨w.heap.size, 5, none⟩ = some (.slice Ak x.kids.length ck) := ⟨cells6 h.parts, h.box.cell 0, h.box.cell 5⟩
theorem cutS_off {w W V : World} {x : Nd} {Ab Ak : Option Addr} {cb ck : Nat} (h : CutW w x #[.int .i64 x.kind, .string x.code, .string x.value, .string x.path, .slice Ab x.bytes.length cb, .slice Ak x.kids.length ck] W) (hg : W.grownBy V (some (w.heap.size + 1))) : (V.cell? ⟨w.heap.size + 1 + 1, 0, none⟩ = some (.int .i64 x.kind) ∧ V.cell? ⟨w.heap.size + 1 + 1, 1, none⟩ = some (.string x.code) ∧ V.cell? ⟨w.heap.size + 1 + 1, 2, none⟩ = some (.string x.value) ∧ V.cell? ⟨w.heap.size + 1 + 1, 3, none⟩ = some (.string x.path) ∧ V.cell? ⟨w.heap.size + 1 + 1, 4, none⟩ = some (.slice Ab x.bytes.length cb) ∧ V.cell? ⟨w.heap.size + 1 + 1, 5, none⟩ = some (.slice Ak x.kids.length ck)) ∧ V.cell? ⟨w.heap.size, 0, none⟩ = some (.int .i64 x.kind) ∧ V.cell? ⟨w.heap.size, 5, none⟩ = some (.slice Ak x.kids.length ck) := by
  have e0 : ∀ i, V.cell? ⟨w.heap.size, i, none⟩ = W.cell? ⟨w.heap.size, i, none⟩ := fun i => World.cell?_of_block (hg.block w.heap.size h.box.lt (fun e => by have e2 : w.heap.size = w.heap.size + 1 := Option.some.inj e; omega))
  have e2 : ∀ i, V.cell? ⟨w.heap.size + 1 + 1, i, none⟩ = W.cell? ⟨w.heap.size + 1 + 1, i, none⟩ := fun i => World.cell?_of_block (hg.block (w.heap.size + 1 + 1) h.parts.lt (fun e => by have e2 : w.heap.size + 1 + 1 = w.heap.size + 1 := Option.some.inj e; omega))
  simp only [e0, e2]
  exact cutS h
theorem take_iface {W : World} {iv : Value} {room : Int} {f : Kids} {bl : List Nat} (b : Nat) (h : RowAt W iv room f bl) (hb : b < 256) : ∃ (T : TypeId) (g fid : Nat), iv = .iface T (.pointer (some ⟨g, 0, none⟩)) ∧ (∀ V : World, (method 263 T (.pointer (some ⟨g, 0, none⟩)) "Take").run Tryz.prog V = .ok (fid, .pointer (some ⟨g, 0, none⟩)) V) ∧ (∀ args V, (callFunc fid args).run Tryz.prog V = .ok (.enter fid args) V) ∧
    Calls Tryz.prog fid #[.pointer (some ⟨g, 0, none⟩), .int .u8 (b : Int)] W (RowEndI (.tuple #[refV (takeK f b).1.1, .int .i64 (takeK f b).1.2]) iv room (takeK f b).2 bl W) := by
  rcases h with ⟨g, rfl, rfl, hf⟩ | ⟨g, gr, gu, n, rfl, rfl, rfl, hf⟩
  · refine ⟨_, g, _, rfl, few_Take_me g, enters_of Tryz.func113 (by kernel_rfl) rfl, (Take_k g room f b W hf hb).mono ?_⟩
    rintro e w' ⟨rfl, h1, h2⟩
    exact ⟨rfl, .inl ⟨g, rfl, rfl, h1⟩, kept_grown h2⟩
  · refine ⟨_, g, _, rfl, many_Take_me g, enters_of Tryz.func129 (by kernel_rfl) rfl, (Take_m g gr gu n f b W hf hb).mono ?_⟩
    rintro e w' ⟨rfl, h1, h2⟩
    exact ⟨rfl, .inr ⟨g, gr, gu, n, rfl, rfl, rfl, h1⟩, kept_three h2⟩
set_option maxHeartbeats 3200000 in
set_option maxRecDepth 100000 in
theorem cut_no (x : Nd) (V : Value) (b : Nat) (keep : Bool) (w : World) (h : NdAt w x V) (hr : RoomsAt w) (hm : x.may = false) : Calls Tryz.prog 17 #[V, .int .u8 (b : Int), .bool keep] w (NdPair zeroNd 4 w) := by
  have h' := h
  obtain ⟨hwf, Ab, cb, Ak, ck, rfl, _, _⟩ := h'
  have h4 := cut_start w x #[.int .i64 x.kind, .string x.code, .string x.value, .string x.path, .slice Ab x.bytes.length cb, .slice Ak x.kids.length ck] h hr
  have HM := Lib.hid (may_n x _ _ h4.node h4.rooms)
  have H4 := Lib.hid h4
  rw [hm] at HM
  clear hwf h hr h4 hm
  unfold Nd.v at *
  go_enter Tryz.func17, Tryz.ntmps17
  go_wp2_with fail
  refine HM.out.mono ?_
  rintro e w1 ⟨rfl, hb⟩
  have H5 := Lib.hid (H4.out.on hb)
  obtain ⟨d0, d1, d2, d3, d4, d5⟩ := cells6 H5.out.out
  have fz0 := H5.out.out.frozen 0
  have fz1 := H5.out.out.frozen 1
  have fz2 := H5.out.out.frozen 2
  have fz3 := H5.out.out.frozen 3
  have fz4 := H5.out.out.frozen 4
  have fz5 := H5.out.out.frozen 5
  have l6 := H5.out.out.lt
  clear hb HM H4
  obtain ⟨VV, hV, hg, q6⟩ := six_stores (.int .i64 0) (.string { data := #[] }) (.string { data := #[] }) (.string { data := #[] }) (.slice none 0 0) (.slice none 0 0) H5.out.out
  go_wp2
  rw [← hV]
  clear hV d0 d1 d2 d3 d4 d5 fz0 fz1 fz2 fz3 fz4 fz5
  obtain ⟨c0, c1, c2, c3, c4, c5⟩ := cells6 q6
  exact bodyPost_ret (v := .tuple #[.agg #[.int .i64 0, .string { data := #[] }, .string { data := #[] }, .string { data := #[] }, .slice none 0 0, .slice none 0 0], .int .i64 4]) (by simp [results, Tryz.results17, go_sem, c0, c1, c2, c3, c4, c5]) rfl ⟨_, rfl, zeroNd_at VV, H5.out.below.grown hg H5.out.below.size (fun k e => by injection e with e; omega), rowsOf_zero⟩
set_option maxHeartbeats 3200000 in
set_option maxRecDepth 100000 in
theorem cut_err (x : Nd) (V : Value) (b : Nat) (keep : Bool) (w : World) (h : NdAt w x V) (hr : RoomsAt w) (hb256 : b < 256) (hm : x.may = true) (hz : (takeK (x.row (roomN x.kind)) b).1.2 ≠ 0) : Calls Tryz.prog 17 #[V, .int .u8 (b : Int), .bool keep] w (fun e w' => NdPair (cutN x b keep).1 (cutN x b keep).2 w e w') := by
  have hin := inner_parts (may_inner hm)
  have hx2 : cutN x b keep = (zeroNd, (takeK (x.row (roomN x.kind)) b).1.2) := by
    unfold cutN
    rw [if_neg (by rw [hm]; simp), if_neg hz]
  rw [hx2]
  clear hx2
  have hroom := roomOk_of (room_kind hin.1)
  have hkin := kindN_in x ((x.kids.length : Int) - 1) keep hin.1
  have hpo := take_refOk (row_refOk h.1 (roomN x.kind)) b
  have h' := h
  obtain ⟨hwf, Ab, cb, Ak, ck, rfl, _, _⟩ := h'
  have h4 := cut_start w x #[.int .i64 x.kind, .string x.code, .string x.value, .string x.path, .slice Ab x.bytes.length cb, .slice Ak x.kids.length ck] h hr
  have HM := Lib.hid (may_n x _ _ h4.node h4.rooms)
  rw [hm] at HM
  have H4 := Lib.hid h4
  obtain ⟨room, hrm⟩ : ∃ room, roomN x.kind = room := ⟨_, rfl⟩
  obtain ⟨q, hq⟩ : ∃ q, kindN x ((x.kids.length : Int) - 1) keep = q := ⟨_, rfl⟩
  rw [hrm] at hroom hpo hz ⊢
  rw [hq] at hkin 
  obtain ⟨pr, hpr⟩ : ∃ pr, (takeK (x.row room) b).1.1 = pr := ⟨_, rfl⟩
  obtain ⟨pc, hpc⟩ : ∃ pc, (takeK (x.row room) b).1.2 = pc := ⟨_, rfl⟩
  obtain ⟨f2, hf2⟩ : ∃ f2, (takeK (x.row room) b).2 = f2 := ⟨_, rfl⟩
  rw [hpc] at hz
  rw [hpc]
  rw [hf2] at hpo
  have HZ : Hid ((pc != 0) = true) := Lib.hid (by simp [hz])
  clear hz
  unfold Nd.row at hpc hf2 hpr
  have HPC := Lib.hid (And.intro hpr (And.intro hpc hf2))
  clear hpc hf2 hpr
  have HP := Lib.hid (And.intro hpo (And.intro hroom (And.intro hkin (And.intro hwf (And.intro hin (And.intro hrm (And.intro hq (And.intro h hr))))))))
  have hkl : (x.kids.length : Int) ≤ 256 := by omega
  clear hwf h hr h4 hroom hkin hpo hin hm hrm hq
  unfold Nd.v at *
  go_enter Tryz.func17, Tryz.ntmps17
  go_wp2_with fail
  refine HM.out.mono ?_
  rintro e w3 ⟨rfl, hb⟩
  have H3 := Lib.hid (H4.out.on hb)
  clear hb HM H4
  have HRO := Lib.hid (room_n x.kind w3.drew H3.out.drew.rooms)
  rw [HP.out.2.2.2.2.2.1] at HRO
  have HLA := Lib.hid (laid_n x _ room w3.drew H3.out.drew.node HP.out.2.1 (by have := HP.out.2.2.2.2.1.2.2.2.2.1; omega))
  go_wp2_with fail
  refine wp_region_held_drew (S := (fun V : World => (V.cell? ⟨w.heap.size + 1 + 1, 0, none⟩ = some (.int .i64 x.kind) ∧ V.cell? ⟨w.heap.size + 1 + 1, 1, none⟩ = some (.string x.code) ∧ V.cell? ⟨w.heap.size + 1 + 1, 2, none⟩ = some (.string x.value) ∧ V.cell? ⟨w.heap.size + 1 + 1, 3, none⟩ = some (.string x.path) ∧ V.cell? ⟨w.heap.size + 1 + 1, 4, none⟩ = some (.slice Ab x.bytes.length cb) ∧ V.cell? ⟨w.heap.size + 1 + 1, 5, none⟩ = some (.slice Ak x.kids.length ck)) ∧ V.cell? ⟨w.heap.size, 0, none⟩ = some (.int .i64 x.kind) ∧ V.cell? ⟨w.heap.size, 5, none⟩ = some (.slice Ak x.kids.length ck))) (by kernel_rfl) ?_ (fun hHeld0 => ?_)
  · exact cutS H3.out.drew
  refine wpAnyH_take (i := 0) (v := ?_) rfl (by kernel_rfl) (by kernel_rfl) (by kernel_rfl) (fun _ _ _ h => h) (Or.inl ⟨by rfl, ?_⟩) hHeld0 ?_
  rotate_left
  · (intro w hSw; (try dsimp only at hSw); go_simp <;> with_reducible rfl)
  try simp only [Act.put, List.setIfInBounds_toArray, List.set_cons_zero, List.set_cons_succ]
  refine wpAnyH_take (i := 1) (v := ?_) rfl (by kernel_rfl) (by kernel_rfl) (by kernel_rfl) (fun _ _ _ h => h) (Or.inl ⟨by rfl, ?_⟩) hHeld0 ?_
  rotate_left
  · (intro w hSw; (try dsimp only at hSw); go_simp <;> with_reducible rfl)
  try simp only [Act.put, List.setIfInBounds_toArray, List.set_cons_zero, List.set_cons_succ]
  refine wpAnyH_take (i := 2) (v := ?_) rfl (by kernel_rfl) (by kernel_rfl) (by kernel_rfl) (fun _ _ _ h => h) (Or.inl ⟨by rfl, ?_⟩) hHeld0 ?_
  rotate_left
  · (intro w hSw; (try dsimp only at hSw); go_simp <;> with_reducible rfl)
  try simp only [Act.put, List.setIfInBounds_toArray, List.set_cons_zero, List.set_cons_succ]
  refine wpAnyH_ready (rs := [3]) (by kernel_rfl) (by simp) ?_
  refine AllReadyH.cons rfl (fun K hK => ?_) ?_
  · go_simp
    with_reducible refine HRO.out.mono ?_
    rintro e w4 ⟨rfl, rfl⟩
    refine hK.out _ _ ?_ (fun hHeld1 => ?_)
    · exact cutS H3.out.drew
    clear hK K hHeld0
    try simp only [Act.put, List.setIfInBounds_toArray, List.set_cons_zero, List.set_cons_succ]
    refine wpAnyH_ready (rs := [4]) (by kernel_rfl) (by simp) ?_
    refine AllReadyH.cons rfl (fun K hK => ?_) ?_
    · go_simp
      refine HLA.out.mono ?_
      rintro e w5 ⟨iv, bl, rfl, hrow, hbl, hb5⟩
      have H7 := Lib.hid (And.intro hrow (And.intro hbl (And.intro (H3.out.drew.on hb5) hb5.size)))
      clear hrow hbl hb5
      refine hK.out _ _ ?_ (fun hHeld2 => ?_)
      · exact cutS H7.out.2.2.1
      clear hK K hHeld1
      try simp only [Act.put, List.setIfInBounds_toArray, List.set_cons_zero, List.set_cons_succ]
      refine wpAnyH_take (i := 5) (v := ?_) rfl (by kernel_rfl) (by kernel_rfl) (by kernel_rfl) (fun _ _ _ h => h) (Or.inl ⟨by rfl, ?_⟩) hHeld2 ?_
      rotate_left
      · (intro w hSw; (try dsimp only at hSw); go_simp <;> with_reducible rfl)
      try simp only [Act.put, List.setIfInBounds_toArray, List.set_cons_zero, List.set_cons_succ]
      refine wpAnyH_done (by kernel_rfl) ?_ _
      refine (‹∀ (a : Act) (w : World), Code.wp Tryz.prog _ _ a w → _› _ _ ?_)
      obtain ⟨TT, g, fid, rfl, hme, hen, hput⟩ := take_iface b H7.out.1 hb256
      have hbl := H7.out.2.1
      have HA5 := Lib.hid H7.out.2.2.1
      have hs7 := H7.out.2.2.2
      have hs3 := H3.out.size
      have hpo := HP.out.1
      rw [HPC.out.1, HPC.out.2.1, HPC.out.2.2] at hput
      unfold refV at hput
      have HPU := Lib.hid hput
      have HX := Lib.hid (And.intro hbl (And.intro hs7 (And.intro hs3 hpo)))
      clear hput hbl hs7 hs3 hpo H7 HLA HRO
      go_simp
      go_wp2_with fail
      refine HPU.out.mono ?_
      rintro e w6 ⟨rfl, hrow6, hk6⟩
      have h8 : CutW w x #[.int .i64 x.kind, .string x.code, .string x.value, .string x.path, .slice Ab x.bytes.length cb, .slice Ak x.kids.length ck] w6 := HA5.out.kept hk6 (fun c hc => by have h1 := HX.out.1 c hc; have h2 := HX.out.2.2.1; simp at h1; omega) HP.out.2.2.2.2.2.2.2.1 HP.out.2.2.2.2.2.2.2.2
      have H8 := Lib.hid (And.intro (h8.on (below_box w6 (.cells #[.int .i64 pr.1, .int .u32 pr.2] 29))) (hrow6.below (below_box w6 (.cells #[.int .i64 pr.1, .int .u32 pr.2] 29))))
      have hzb := HZ.out
      clear h8 hrow6 hk6 HPU hme hen HA5
      obtain ⟨d0, d1, d2, d3, d4, d5⟩ := cells6 H8.out.1.out
      have fz0 := H8.out.1.out.frozen 0
      have fz1 := H8.out.1.out.frozen 1
      have fz2 := H8.out.1.out.frozen 2
      have fz3 := H8.out.1.out.frozen 3
      have fz4 := H8.out.1.out.frozen 4
      have fz5 := H8.out.1.out.frozen 5
      have l6 := H8.out.1.out.lt
      obtain ⟨VV, hV, hg, q6⟩ := six_stores (.int .i64 0) (.string { data := #[] }) (.string { data := #[] }) (.string { data := #[] }) (.slice none 0 0) (.slice none 0 0) H8.out.1.out
      go_wp2
      rw [← hV]
      clear hV d0 d1 d2 d3 d4 d5 fz0 fz1 fz2 fz3 fz4 fz5
      obtain ⟨c0, c1, c2, c3, c4, c5⟩ := cells6 q6
      exact bodyPost_ret (v := .tuple #[.agg #[.int .i64 0, .string { data := #[] }, .string { data := #[] }, .string { data := #[] }, .slice none 0 0, .slice none 0 0], .int .i64 pc]) (by simp [results, Tryz.results17, go_sem, c0, c1, c2, c3, c4, c5]) rfl ⟨_, rfl, zeroNd_at VV, H8.out.1.below.grown hg H8.out.1.below.size (fun k e => by injection e with e; omega), rowsOf_zero⟩
    exact AllReadyH.nil
  exact AllReadyH.nil
set_option maxHeartbeats 3200000 in
set_option maxRecDepth 100000 in
theorem cut_yes (x : Nd) (V : Value) (b : Nat) (keep : Bool) (w : World) (h : NdAt w x V) (hr : RoomsAt w) (hb256 : b < 256) (hm : x.may = true) (hz : (takeK (x.row (roomN x.kind)) b).1.2 = 0) : Calls Tryz.prog 17 #[V, .int .u8 (b : Int), .bool keep] w (fun e w' => NdPair (cutN x b keep).1 (cutN x b keep).2 w e w') := by
  have hin := inner_parts (may_inner hm)
  have hx2 : cutN x b keep = (ofNd x (takeK (x.row (roomN x.kind)) b).2 (kindN x ((x.kids.length : Int) - 1) keep), 0) := by
    unfold cutN
    rw [if_neg (by rw [hm]; simp), if_pos hz]
  rw [hx2]
  clear hx2
  have hroom := roomOk_of (room_kind hin.1)
  have hkin := kindN_in x ((x.kids.length : Int) - 1) keep hin.1
  have hpo := take_refOk (row_refOk h.1 (roomN x.kind)) b
  have h' := h
  obtain ⟨hwf, Ab, cb, Ak, ck, rfl, _, _⟩ := h'
  have h4 := cut_start w x #[.int .i64 x.kind, .string x.code, .string x.value, .string x.path, .slice Ab x.bytes.length cb, .slice Ak x.kids.length ck] h hr
  have HM := Lib.hid (may_n x _ _ h4.node h4.rooms)
  rw [hm] at HM
  have H4 := Lib.hid h4
  obtain ⟨room, hrm⟩ : ∃ room, roomN x.kind = room := ⟨_, rfl⟩
  obtain ⟨q, hq⟩ : ∃ q, kindN x ((x.kids.length : Int) - 1) keep = q := ⟨_, rfl⟩
  rw [hrm] at hroom hpo hz ⊢
  rw [hq] at hkin ⊢
  obtain ⟨pr, hpr⟩ : ∃ pr, (takeK (x.row room) b).1.1 = pr := ⟨_, rfl⟩
  obtain ⟨pc, hpc⟩ : ∃ pc, (takeK (x.row room) b).1.2 = pc := ⟨_, rfl⟩
  obtain ⟨f2, hf2⟩ : ∃ f2, (takeK (x.row room) b).2 = f2 := ⟨_, rfl⟩
  rw [hpc] at hz
  rw [hf2]
  rw [hf2] at hpo
  have HZ : Hid ((pc != 0) = false) := Lib.hid (by simp [hz])
  clear hz
  unfold Nd.row at hpc hf2 hpr
  have HPC := Lib.hid (And.intro hpr (And.intro hpc hf2))
  clear hpc hf2 hpr
  have HP := Lib.hid (And.intro hpo (And.intro hroom (And.intro hkin (And.intro hwf (And.intro hin (And.intro hrm (And.intro hq (And.intro h hr))))))))
  have hkl : (x.kids.length : Int) ≤ 256 := by omega
  clear hwf h hr h4 hroom hkin hpo hin hm hrm hq
  unfold Nd.v at *
  go_enter Tryz.func17, Tryz.ntmps17
  go_wp2_with fail
  refine HM.out.mono ?_
  rintro e w3 ⟨rfl, hb⟩
  have H3 := Lib.hid (H4.out.on hb)
  clear hb HM H4
  have HRO := Lib.hid (room_n x.kind w3.drew H3.out.drew.rooms)
  rw [HP.out.2.2.2.2.2.1] at HRO
  have HLA := Lib.hid (laid_n x _ room w3.drew H3.out.drew.node HP.out.2.1 (by have := HP.out.2.2.2.2.1.2.2.2.2.1; omega))
  go_wp2_with fail
  refine wp_region_held_drew (S := (fun V : World => (V.cell? ⟨w.heap.size + 1 + 1, 0, none⟩ = some (.int .i64 x.kind) ∧ V.cell? ⟨w.heap.size + 1 + 1, 1, none⟩ = some (.string x.code) ∧ V.cell? ⟨w.heap.size + 1 + 1, 2, none⟩ = some (.string x.value) ∧ V.cell? ⟨w.heap.size + 1 + 1, 3, none⟩ = some (.string x.path) ∧ V.cell? ⟨w.heap.size + 1 + 1, 4, none⟩ = some (.slice Ab x.bytes.length cb) ∧ V.cell? ⟨w.heap.size + 1 + 1, 5, none⟩ = some (.slice Ak x.kids.length ck)) ∧ V.cell? ⟨w.heap.size, 0, none⟩ = some (.int .i64 x.kind) ∧ V.cell? ⟨w.heap.size, 5, none⟩ = some (.slice Ak x.kids.length ck))) (by kernel_rfl) ?_ (fun hHeld0 => ?_)
  · exact cutS H3.out.drew
  refine wpAnyH_take (i := 0) (v := ?_) rfl (by kernel_rfl) (by kernel_rfl) (by kernel_rfl) (fun _ _ _ h => h) (Or.inl ⟨by rfl, ?_⟩) hHeld0 ?_
  rotate_left
  · (intro w hSw; (try dsimp only at hSw); go_simp <;> with_reducible rfl)
  try simp only [Act.put, List.setIfInBounds_toArray, List.set_cons_zero, List.set_cons_succ]
  refine wpAnyH_take (i := 1) (v := ?_) rfl (by kernel_rfl) (by kernel_rfl) (by kernel_rfl) (fun _ _ _ h => h) (Or.inl ⟨by rfl, ?_⟩) hHeld0 ?_
  rotate_left
  · (intro w hSw; (try dsimp only at hSw); go_simp <;> with_reducible rfl)
  try simp only [Act.put, List.setIfInBounds_toArray, List.set_cons_zero, List.set_cons_succ]
  refine wpAnyH_take (i := 2) (v := ?_) rfl (by kernel_rfl) (by kernel_rfl) (by kernel_rfl) (fun _ _ _ h => h) (Or.inl ⟨by rfl, ?_⟩) hHeld0 ?_
  rotate_left
  · (intro w hSw; (try dsimp only at hSw); go_simp <;> with_reducible rfl)
  try simp only [Act.put, List.setIfInBounds_toArray, List.set_cons_zero, List.set_cons_succ]
  refine wpAnyH_ready (rs := [3]) (by kernel_rfl) (by simp) ?_
  refine AllReadyH.cons rfl (fun K hK => ?_) ?_
  · go_simp
    with_reducible refine HRO.out.mono ?_
    rintro e w4 ⟨rfl, rfl⟩
    refine hK.out _ _ ?_ (fun hHeld1 => ?_)
    · exact cutS H3.out.drew
    clear hK K hHeld0
    try simp only [Act.put, List.setIfInBounds_toArray, List.set_cons_zero, List.set_cons_succ]
    refine wpAnyH_ready (rs := [4]) (by kernel_rfl) (by simp) ?_
    refine AllReadyH.cons rfl (fun K hK => ?_) ?_
    · go_simp
      refine HLA.out.mono ?_
      rintro e w5 ⟨iv, bl, rfl, hrow, hbl, hb5⟩
      have H7 := Lib.hid (And.intro hrow (And.intro hbl (And.intro (H3.out.drew.on hb5) hb5.size)))
      clear hrow hbl hb5
      refine hK.out _ _ ?_ (fun hHeld2 => ?_)
      · exact cutS H7.out.2.2.1
      clear hK K hHeld1
      try simp only [Act.put, List.setIfInBounds_toArray, List.set_cons_zero, List.set_cons_succ]
      refine wpAnyH_take (i := 5) (v := ?_) rfl (by kernel_rfl) (by kernel_rfl) (by kernel_rfl) (fun _ _ _ h => h) (Or.inl ⟨by rfl, ?_⟩) hHeld2 ?_
      rotate_left
      · (intro w hSw; (try dsimp only at hSw); go_simp <;> with_reducible rfl)
      try simp only [Act.put, List.setIfInBounds_toArray, List.set_cons_zero, List.set_cons_succ]
      refine wpAnyH_done (by kernel_rfl) ?_ _
      refine (‹∀ (a : Act) (w : World), Code.wp Tryz.prog _ _ a w → _› _ _ ?_)
      obtain ⟨TT, g, fid, rfl, hme, hen, hput⟩ := take_iface b H7.out.1 hb256
      have hbl := H7.out.2.1
      have HA5 := Lib.hid H7.out.2.2.1
      have hs7 := H7.out.2.2.2
      have hs3 := H3.out.size
      have hpo := HP.out.1
      rw [HPC.out.1, HPC.out.2.1, HPC.out.2.2] at hput
      unfold refV at hput
      have HPU := Lib.hid hput
      have HX := Lib.hid (And.intro hbl (And.intro hs7 (And.intro hs3 hpo)))
      clear hput hbl hs7 hs3 hpo H7 HLA HRO
      go_simp
      go_wp2_with fail
      refine HPU.out.mono ?_
      rintro e w6 ⟨rfl, hrow6, hk6⟩
      have h8 : CutW w x #[.int .i64 x.kind, .string x.code, .string x.value, .string x.path, .slice Ab x.bytes.length cb, .slice Ak x.kids.length ck] w6 := HA5.out.kept hk6 (fun c hc => by have h1 := HX.out.1 c hc; have h2 := HX.out.2.2.1; simp at h1; omega) HP.out.2.2.2.2.2.2.2.1 HP.out.2.2.2.2.2.2.2.2
      have H8 := Lib.hid (And.intro (h8.on (below_box w6 (.cells #[.int .i64 pr.1, .int .u32 pr.2] 29))) (hrow6.below (below_box w6 (.cells #[.int .i64 pr.1, .int .u32 pr.2] 29))))
      have hzb := HZ.out
      clear h8 hrow6 hk6 HPU hme hen HA5
      have hwr : IntKind.i64.wrap ((x.kids.length : Int) - 1) = (x.kids.length : Int) - 1 := IntWalk.i64_in _ (by omega)
      have HKI := Lib.hid (kind_n x _ ((x.kids.length : Int) - 1) keep _ H8.out.1.drew.node H8.out.1.drew.rooms)
      rw [HP.out.2.2.2.2.2.2.1] at HKI
      go_wp2_with fail
      refine wp_region_held_drew (S := (fun V : World => (V.cell? ⟨w.heap.size + 1 + 1, 0, none⟩ = some (.int .i64 x.kind) ∧ V.cell? ⟨w.heap.size + 1 + 1, 1, none⟩ = some (.string x.code) ∧ V.cell? ⟨w.heap.size + 1 + 1, 2, none⟩ = some (.string x.value) ∧ V.cell? ⟨w.heap.size + 1 + 1, 3, none⟩ = some (.string x.path) ∧ V.cell? ⟨w.heap.size + 1 + 1, 4, none⟩ = some (.slice Ab x.bytes.length cb) ∧ V.cell? ⟨w.heap.size + 1 + 1, 5, none⟩ = some (.slice Ak x.kids.length ck)) ∧ V.cell? ⟨w.heap.size, 0, none⟩ = some (.int .i64 x.kind) ∧ V.cell? ⟨w.heap.size, 5, none⟩ = some (.slice Ak x.kids.length ck))) (by kernel_rfl) ?_ (fun hHeld0 => ?_)
      · exact cutS H8.out.1.drew
      refine wpAnyH_take (i := 0) (v := ?_) rfl (by kernel_rfl) (by kernel_rfl) (by kernel_rfl) (fun _ _ _ h => h) (Or.inl ⟨by rfl, ?_⟩) hHeld0 ?_
      rotate_left
      · (intro w hSw; (try dsimp only at hSw); go_simp <;> with_reducible rfl)
      try simp only [Act.put, List.setIfInBounds_toArray, List.set_cons_zero, List.set_cons_succ]
      refine wpAnyH_take (i := 1) (v := ?_) rfl (by kernel_rfl) (by kernel_rfl) (by kernel_rfl) (fun _ _ _ h => h) (Or.inl ⟨by rfl, ?_⟩) hHeld0 ?_
      rotate_left
      · (intro w hSw; (try dsimp only at hSw); go_simp <;> with_reducible rfl)
      try simp only [Act.put, List.setIfInBounds_toArray, List.set_cons_zero, List.set_cons_succ]
      refine wpAnyH_take (i := 2) (v := ?_) rfl (by kernel_rfl) (by kernel_rfl) (by kernel_rfl) (fun _ _ _ h => h) (Or.inl ⟨by rfl, ?_⟩) hHeld0 ?_
      rotate_left
      · (intro w hSw; (try dsimp only at hSw); go_simp <;> with_reducible rfl)
      try simp only [Act.put, List.setIfInBounds_toArray, List.set_cons_zero, List.set_cons_succ]
      refine wpAnyH_take (i := 3) (v := ?_) rfl (by kernel_rfl) (by kernel_rfl) (by kernel_rfl) (fun _ _ _ h => h) (Or.inl ⟨by rfl, ?_⟩) hHeld0 ?_
      rotate_left
      · (intro w hSw; (try dsimp only at hSw); go_simp <;> with_reducible rfl)
      try simp only [Act.put, List.setIfInBounds_toArray, List.set_cons_zero, List.set_cons_succ]
      refine wpAnyH_take (i := 4) (v := ?_) rfl (by kernel_rfl) (by kernel_rfl) (by kernel_rfl) (fun _ _ _ h => h) (Or.inl ⟨by rfl, ?_⟩) hHeld0 ?_
      rotate_left
      · (intro w hSw; (try dsimp only at hSw); go_simp <;> with_reducible rfl)
      try simp only [Act.put, List.setIfInBounds_toArray, List.set_cons_zero, List.set_cons_succ]
      refine wpAnyH_take (i := 5) (v := ?_) rfl (by kernel_rfl) (by kernel_rfl) (by kernel_rfl) (fun _ _ _ h => h) (Or.inl ⟨by rfl, ?_⟩) hHeld0 ?_
      rotate_left
      · (intro w hSw; (try dsimp only at hSw); go_simp <;> with_reducible rfl)
      try simp only [Act.put, List.setIfInBounds_toArray, List.set_cons_zero, List.set_cons_succ]
      refine wpAnyH_take (i := 6) (v := ?_) rfl (by kernel_rfl) (by kernel_rfl) (by kernel_rfl) (fun _ _ _ h => h) (Or.inl ⟨by rfl, ?_⟩) hHeld0 ?_
      rotate_left
      · (intro w hSw; (try dsimp only at hSw); go_simp <;> with_reducible rfl)
      try simp only [Act.put, List.setIfInBounds_toArray, List.set_cons_zero, List.set_cons_succ]
      refine wpAnyH_take (i := 7) (v := ?_) rfl (by kernel_rfl) (by kernel_rfl) (by kernel_rfl) (fun _ _ _ h => h) (Or.inl ⟨by rfl, ?_⟩) hHeld0 ?_
      rotate_left
      · (intro w hSw; (try dsimp only at hSw); go_simp <;> with_reducible rfl)
      try simp only [Act.put, List.setIfInBounds_toArray, List.set_cons_zero, List.set_cons_succ]
      refine wpAnyH_ready (rs := [8]) (by kernel_rfl) (by simp) ?_
      refine AllReadyH.cons rfl (fun K hK => ?_) ?_
      · go_simp
        try simp only [hwr]
        with_reducible refine HKI.out.mono ?_
        rintro e w7 ⟨rfl, hb7⟩
        have H9 := Lib.hid (H8.out.1.drew.on hb7)
        have HR9 := Lib.hid (H8.out.2.below ((Below.refl _ _).drew.trans hb7))
        have HOF := Lib.hid (of_row x _ w7 H9.out.node _ room f2 _ HR9.out q HP.out.2.2.1 HX.out.2.2.2)
        clear hb7
        refine hK.out _ _ ?_ (fun hHeld1 => ?_)
        · exact cutS H9.out
        clear hK K hHeld0
        try simp only [Act.put, List.setIfInBounds_toArray, List.set_cons_zero, List.set_cons_succ]
        refine wpAnyH_ready (rs := [9]) (by kernel_rfl) (by simp) ?_
        refine AllReadyH.cons rfl (fun K hK => ?_) ?_
        · go_simp
          refine HOF.out.mono ?_
          rintro e w8 ⟨V', rfl, hnd, hb8⟩
          have H10 := Lib.hid (H9.out.on hb8)
          have H9S := H9.out.size
          obtain ⟨hwf', A4, c4', A5, c5', rfl, hr4, hr5, ha4, ha5⟩ := hnd
          have HND := Lib.hid (And.intro hwf' (And.intro hr4 (And.intro hr5 (And.intro ha4 ha5))))
          clear hwf' hr4 hr5 ha4 ha5 hb8
          unfold Nd.v
          refine hK.out _ _ ?_ (fun hHeld2 => ?_)
          · exact cutS H10.out
          clear hK K hHeld1
          try simp only [Act.put, List.setIfInBounds_toArray, List.set_cons_zero, List.set_cons_succ]
          refine wpAnyH_ready (rs := [10]) (by kernel_rfl) (by simp) ?_
          refine AllReadyH.cons rfl (fun K hK => ?_) ?_
          · obtain ⟨d0, d1, d2, d3, d4, d5⟩ := cells6 H10.out.out
            have fz0 := H10.out.out.frozen 0
            have fz1 := H10.out.out.frozen 1
            have fz2 := H10.out.out.frozen 2
            have fz3 := H10.out.out.frozen 3
            have fz4 := H10.out.out.frozen 4
            have fz5 := H10.out.out.frozen 5
            have l6 := H10.out.out.lt
            obtain ⟨VV, hV, hg, q6⟩ := six_stores (.int .i64 (ofNd x f2 q).kind) (.string (ofNd x f2 q).code) (.string (ofNd x f2 q).value) (.string (ofNd x f2 q).path) (.slice A4 (ofNd x f2 q).bytes.length c4') (.slice A5 (ofNd x f2 q).kids.length c5') H10.out.out
            go_simp
            rw [← hV]
            clear hV d0 d1 d2 d3 d4 d5 fz0 fz1 fz2 fz3 fz4 fz5
            refine hK.out _ _ ?_ (fun hHeld3 => ?_)
            · exact cutS_off H10.out hg
            clear hK K hHeld2
            try simp only [Act.put, List.setIfInBounds_toArray, List.set_cons_zero, List.set_cons_succ]
            refine wpAnyH_take (i := 11) (v := ?_) rfl (by kernel_rfl) (by kernel_rfl) (by kernel_rfl) (fun _ _ _ h => h) (Or.inl ⟨by rfl, ?_⟩) hHeld3 ?_
            rotate_left
            · (intro w hSw; (try dsimp only at hSw); go_simp <;> with_reducible rfl)
            try simp only [Act.put, List.setIfInBounds_toArray, List.set_cons_zero, List.set_cons_succ]
            simp only [Act.put, List.getElem_toArray, List.getElem_cons_succ, List.getElem_cons_zero, List.setIfInBounds_toArray, List.set_cons_zero, List.set_cons_succ]
            refine wpAnyH_done (by kernel_rfl) ?_ _
            refine (‹∀ (a : Act) (w : World), Code.wp Tryz.prog _ _ a w → _› _ _ ?_)
            obtain ⟨c0, c1, c2, c3, c4, c5⟩ := cells6 q6
            go_wp2
            exact bodyPost_ret (v := .tuple #[.agg #[.int .i64 (ofNd x f2 q).kind, .string (ofNd x f2 q).code, .string (ofNd x f2 q).value, .string (ofNd x f2 q).path, .slice A4 (ofNd x f2 q).bytes.length c4', .slice A5 (ofNd x f2 q).kids.length c5'], .int .i64 0]) (by simp [results, Tryz.results17, go_sem, c0, c1, c2, c3, c4, c5]) rfl ⟨_, rfl, ⟨HND.out.1, A4, c4', A5, c5', rfl, reads_off HND.out.2.1 hg (fun ad e => by have := HND.out.2.2.2.1 ad e; have := H9S; omega), reads_off HND.out.2.2.1 hg (fun ad e => by have := HND.out.2.2.2.2 ad e; have := H9S; omega)⟩, H10.out.below.grown hg H10.out.below.size (fun k e => by injection e with e; omega), rowsOf_v (fun ad e => by have h1 := HND.out.2.2.2.1 ad e; have h2 := H9S; omega) (fun ad e => by have h1 := HND.out.2.2.2.2 ad e; have h2 := H9S; omega)⟩
          exact AllReadyH.nil
        exact AllReadyH.nil
      exact AllReadyH.nil
    exact AllReadyH.nil
  exact AllReadyH.nil
end Go.Proofs.YtgjgcbemgmkncaaGreatDoor
namespace Go.Proofs.YtgjgcbemgmkncaaGreatDoor
open Go.RowKit Go.Shelf
set_option linter.unusedVariables false
set_option maxRecDepth 20000
set_option linter.unusedSimpArgs false

theorem Cut_n (x : Nd) (V : Value) (b : Nat) (keep : Bool) (w : World) (h : NdAt w x V) (hr : RoomsAt w) (hb : b < 256) : Calls Tryz.prog 17 #[V, .int .u8 (b : Int), .bool keep] w (NdPair (cutN x b keep).1 (cutN x b keep).2 w) := by
  cases hm : x.may with
  | false =>
    have e : cutN x b keep = (zeroNd, 4) := by unfold cutN; rw [if_pos (by rw [hm])]
    rw [e]
    exact cut_no x V b keep w h hr hm
  | true =>
    by_cases hz : (takeK (x.row (roomN x.kind)) b).1.2 = 0
    · exact cut_yes x V b keep w h hr hb hm hz
    · exact cut_err x V b keep w h hr hb hm hz
end Go.Proofs.YtgjgcbemgmkncaaGreatDoor
namespace Go.Proofs.YtgjgcbemgmkncaaGreatDoor
open Go.RowKit Go.Shelf
set_option linter.unusedVariables false
set_option maxRecDepth 20000
set_option linter.unusedSimpArgs false

/-- Kids of bytes alone, that can be kids. -/
structure KidsOk (f : Kids) : Prop where
  lt : ∀ b, 256 ≤ b → f b = none
  kid : ∀ b r, f b = some r → kidN r = true ∧ refOk r
theorem KidsOk.no : KidsOk noKids := ⟨fun _ _ => rfl, fun _ _ h => by cases h⟩
theorem KidsOk.set {f : Kids} (h : KidsOk f) {b : Nat} (hb : b < 256) {r : Int × Int} (h1 : kidN r = true) (h2 : refOk r) : KidsOk (setK f b (some r)) := by
  refine ⟨fun c hc => ?_, fun c q hq => ?_⟩
  · unfold setK; rw [if_neg (by omega)]; exact h.lt c hc
  · unfold setK at hq
    split at hq
    · injection hq with hq; subst hq; exact ⟨h1, h2⟩
    · exact h.kid c q hq
theorem KidsOk.del {f : Kids} (h : KidsOk f) (b : Nat) : KidsOk (setK f b none) := by
  refine ⟨fun c hc => ?_, fun c q hq => ?_⟩
  · unfold setK; split
    · rfl
    · exact h.lt c hc
  · unfold setK at hq
    split at hq
    · cases hq
    · exact h.kid c q hq
theorem KidsOk.is_lt {f : Kids} (h : KidsOk f) {b : Nat} (hb : (f b).isSome = true) : b < 256 := by
  by_cases h1 : b < 256
  · exact h1
  · rw [h.lt b (by omega)] at hb; cases hb
theorem kidsIn_congr {f g : Kids} : ∀ {l : List Nat}, (∀ b ∈ l, f b = g b) → kidsIn f l = kidsIn g l
  | [], _ => rfl
  | x :: l, h => by
    have ih := kidsIn_congr (f := f) (g := g) (l := l) (fun b hb => h b (by simp [hb]))
    unfold kidsIn at ih ⊢
    rw [List.filterMap_cons, List.filterMap_cons, ih, h x (by simp)]
theorem kidsIn_no {f : Kids} : ∀ {l : List Nat}, (∀ b ∈ l, f b = none) → kidsIn f l = []
  | [], _ => rfl
  | x :: l, h => by
    have ih := kidsIn_no (f := f) (l := l) (fun b hb => h b (by simp [hb]))
    unfold kidsIn at ih ⊢
    rw [List.filterMap_cons, ih, h x (by simp)]
    rfl
theorem mem_drop_range {n b c : Nat} (h : c ∈ (List.range n).drop b) : b ≤ c ∧ c < n := by
  obtain ⟨i, hi, he⟩ := List.getElem_of_mem h
  rw [List.getElem_drop, List.getElem_range] at he
  simp at hi
  omega
/-- The kids of the bytes below b. -/
def upK (f : Kids) (b : Nat) : Kids := fun i => if i < b then f i else none
theorem upK_kids (f : Kids) {b : Nat} (hb : b ≤ 256) : kidsOf (upK f b) = lowK f b := by
  rw [kids_split _ b hb]
  have h1 : lowK (upK f b) b = lowK f b := kidsIn_congr fun c hc => by
    have : c < b := by simpa using hc
    unfold upK; rw [if_pos this]
  have h2 : highK (upK f b) b = [] := kidsIn_no fun c hc => by
    have := (mem_drop_range hc).1
    unfold upK; rw [if_neg (by omega)]
  rw [h1, h2, List.append_nil]
theorem low_succK (f : Kids) (b : Nat) : lowK f (b + 1) = lowK f b ++ ((f b).map fun r => (b, r)).toList := by
  unfold lowK
  rw [List.range_succ, kidsIn_append]
  have h : kidsIn f [b] = ((f b).map fun r => (b, r)).toList := by
    unfold kidsIn
    cases hf : f b <;> simp [List.filterMap_cons, hf]
  rw [h]
theorem lay_low (room : Int) (f : Kids) (hr : (cntK f : Int) ≤ room) : ∀ b, b ≤ 256 → layK room (lowK f b) = upK f b := by
  intro b
  induction b with
  | zero => intro _; funext i; simp [lowK, kidsIn, layK, upK, noKids]
  | succ b ih =>
    intro hb
    rw [low_succK]
    cases hf : f b with
    | none =>
      simp only [Option.map_none, Option.toList_none, List.append_nil]
      rw [ih (by omega)]
      funext i
      unfold upK
      by_cases h1 : i < b
      · rw [if_pos h1, if_pos (by omega)]
      · rw [if_neg h1]
        by_cases h2 : i = b
        · subst h2; rw [if_pos (by omega), hf]
        · rw [if_neg (by omega)]
    | some r =>
      simp only [Option.map_some, Option.toList_some]
      rw [layK_snoc, ih (by omega)]
      unfold layStep putK
      have h0 : upK f b b = none := by unfold upK; rw [if_neg (by omega)]
      have hc : cntK (upK f b) = (lowK f b).length := by unfold cntK; rw [upK_kids f (by omega)]
      have hk : cntK f = (lowK f b).length + (1 + (highK f (b + 1)).length) := by
        unfold cntK; rw [kids_at f b (by omega), hf]; simp; omega
      rw [if_neg (by rw [h0]; simp), if_neg (by rw [hc]; omega)]
      funext i
      dsimp only
      unfold setK upK
      by_cases h1 : i = b
      · subst h1; rw [if_pos rfl, if_pos (by omega), hf]
      · rw [if_neg h1]
        by_cases h2 : i < b
        · rw [if_pos h2, if_pos (by omega)]
        · rw [if_neg h2, if_neg (by omega)]
theorem lay_kids {room : Int} {f : Kids} (hf : KidsOk f) (hr : (cntK f : Int) ≤ room) : layK room (kidsOf f) = f := by
  have h := lay_low room f hr 256 (by omega)
  have h1 : lowK f 256 = kidsOf f := rfl
  rw [← h1, h]
  funext i
  unfold upK
  by_cases h2 : i < 256
  · rw [if_pos h2]
  · rw [if_neg h2, hf.lt i (by omega)]
theorem zip_ofNd (x : Nd) (f : Kids) (k : Int) : (ofNd x f k).bytes.zip (ofNd x f k).kids = kidsOf f := by
  show ((kidsF f).map (·.1.val)).zip ((kidsF f).map (·.2)) = _
  rw [List.zip_map', kidsF_map]
theorem row_ofNd {x : Nd} {f : Kids} {k room : Int} (hf : KidsOk f) (hr : (cntK f : Int) ≤ room) : (ofNd x f k).row room = f := by
  unfold Nd.row; rw [zip_ofNd]; exact lay_kids hf hr
theorem len_ofNd (x : Nd) (f : Kids) (k : Int) : (ofNd x f k).kids.length = cntK f ∧ (ofNd x f k).bytes.length = cntK f := by
  constructor
  · show ((kidsF f).map _).length = _; rw [List.length_map, kidsF_len]; rfl
  · show ((kidsF f).map _).length = _; rw [List.length_map, kidsF_len]; rfl
theorem kids_pairwise (f : Kids) : (kidsOf f).Pairwise (fun a b => a.1 < b.1) := by
  unfold kidsOf kidsIn
  refine List.Pairwise.filterMap _ ?_ (List.pairwise_lt_range (n := 256))
  intro a b hab c hc d hd
  cases ha : f a with
  | none => rw [ha] at hc; cases hc
  | some q =>
    cases hb : f b with
    | none => rw [hb] at hd; cases hd
    | some q2 =>
      rw [ha] at hc
      rw [hb] at hd
      cases hc
      cases hd
      exact hab
theorem bytes_ofNd (x : Nd) (f : Kids) (k : Int) : (ofNd x f k).bytes = (kidsOf f).map (·.1) := by
  show (kidsF f).map (·.1.val) = _
  rw [← kidsF_map, List.map_map]; rfl
theorem kids_ofNd (x : Nd) (f : Kids) (k : Int) : (ofNd x f k).kids = (kidsOf f).map (·.2) := by
  show (kidsF f).map (·.2) = _
  rw [← kidsF_map, List.map_map]; rfl
theorem rising_ofNd (x : Nd) (f : Kids) (k : Int) : risingN (ofNd x f k).bytes = true := by
  rw [bytes_ofNd, rising_iff]
  intro m h
  have hp : ((kidsOf f).map (·.1)).Pairwise (· < ·) := by rw [List.pairwise_map]; exact kids_pairwise f
  exact List.pairwise_iff_getElem.1 hp m (m + 1) (by omega) h (by omega)
theorem refs_ofNd (x : Nd) {f : Kids} (k : Int) (hf : KidsOk f) : (ofNd x f k).kids.all kidN = true := by
  rw [List.all_eq_true]
  intro r hr
  rw [kids_ofNd] at hr
  obtain ⟨p, hp, rfl⟩ := List.mem_map.1 hr
  exact (hf.kid _ _ (mem_kids hp).2).1
theorem toList_no : (ByteArray.toList { data := #[] }).isEmpty = true := by
  rw [ByteArray.toList, ByteArray.toList.loop]; rfl
theorem inner_ofNd {x : Nd} {f : Kids} {k : Int} (hf : KidsOk f) (hk : 0 < roomN k) (hp : x.path.size ≤ 34) : (ofNd x f k).isInner = true := by
  have h1 := len_ofNd x f k
  have h2 := cnt_256 f
  unfold Nd.isInner Nd.innerN Nd.bareN Nd.pairedN Nd.risingN Nd.refsN
  rw [rising_ofNd, refs_ofNd x k hf, h1.1, h1.2]
  have h3 : (ofNd x f k).code.toList.isEmpty = true := toList_no
  have h4 : (ofNd x f k).value.toList.isEmpty = true := toList_no
  rw [h3, h4]
  have h5 : (ofNd x f k).kind = k := rfl
  have h6 : (ofNd x f k).path = x.path := rfl
  rw [h5, h6]
  simp [hk, h2]
  omega
theorem right_ofNd {x : Nd} {f : Kids} {k : Int} (hf : KidsOk f) (hk : 0 < roomN k) (hp : x.path.size ≤ 34) : (ofNd x f k).isRight = (decide (1 < cntK f) && decide ((ofN (cntK f)).1 = k)) := by
  unfold Nd.isRight Nd.manyN Nd.fitsN
  rw [inner_ofNd hf hk hp, (len_ofNd x f k).1]
  have h5 : (ofNd x f k).kind = k := rfl
  rw [h5, Bool.true_and]
theorem anchor_ofNd {x : Nd} {f : Kids} {k : Int} (hf : KidsOk f) (hk : 0 < roomN k) (hp : x.path.size ≤ 34) : (ofNd x f k).isAnchor = (decide (k = 5) && x.path.toList.isEmpty) := by
  unfold Nd.isAnchor Nd.topN
  rw [inner_ofNd hf hk hp]
  have h5 : (ofNd x f k).kind = k := rfl
  have h6 : (ofNd x f k).path = x.path := rfl
  rw [h5, h6, Bool.true_and]
theorem ofNd_ofNd (x : Nd) (f g : Kids) (k l : Int) : ofNd (ofNd x f k) g l = ofNd x g l := rfl
theorem room_of {n : Int} (h0 : 0 ≤ n) (h1 : n ≤ 256) : n ≤ roomN (ofN n).1 ∧ 0 < roomN (ofN n).1 ∧ (2 ≤ (ofN n).1 ∧ (ofN n).1 ≤ 5) ∧ (ofN n).2 = true := by
  unfold ofN
  rw [if_neg (by omega)]
  split
  · refine ⟨?_, ?_, ?_, rfl⟩ <;> simp [roomN] <;> omega
  · split
    · refine ⟨?_, ?_, ?_, rfl⟩ <;> simp [roomN] <;> omega
    · split
      · refine ⟨?_, ?_, ?_, rfl⟩ <;> simp [roomN] <;> omega
      · refine ⟨?_, ?_, ?_, rfl⟩ <;> simp [roomN] <;> omega
theorem room_mono {a b : Int} (ha : 2 ≤ a ∧ a ≤ 5) (hb : 2 ≤ b ∧ b ≤ 5) (h : a ≤ b) : roomN a ≤ roomN b := by
  have h1 : a = 2 ∨ a = 3 ∨ a = 4 ∨ a = 5 := by omega
  have h2 : b = 2 ∨ b = 3 ∨ b = 4 ∨ b = 5 := by omega
  rcases h1 with rfl | rfl | rfl | rfl <;> rcases h2 with rfl | rfl | rfl | rfl <;> simp [roomN] at * 
theorem cnt_full {f : Kids} (h : 256 ≤ cntK f) {b : Nat} (hb : b < 256) : (f b).isSome = true := by
  cases hf : f b with
  | some r => rfl
  | none =>
    have h1 := cnt_set_some (f := f) (0, 0) hb hf
    have h2 := cnt_256 (setK f b (some (0, 0)))
    omega
/-- What Add makes of a node that is made of kids. -/
theorem add_ofNd {x : Nd} {f : Kids} {k : Int} (b : Nat) (r : Int × Int) (keep : Bool) (hf : KidsOk f) (hk : 0 < roomN k) (hm : (ofNd x f k).may = true) (hkd : kidN r = true) (hr : (cntK f : Int) ≤ addRoom (ofNd x f k) keep) :
    addN (ofNd x f k) b r keep = if (f b).isSome = true then (zeroNd, 8) else if (cntK f : Int) = addRoom (ofNd x f k) keep then (zeroNd, 14) else (ofNd x (setK f b (some r)) (kindN (ofNd x f k) ((cntK f : Int) + 1) keep), 0) := by
  unfold addN
  rw [if_neg (by rw [hm, hkd]; simp), row_ofNd hf hr]
  unfold putK
  split
  · rfl
  · split
    · rfl
    · rw [if_pos rfl, ofNd_ofNd, (len_ofNd x f k).1]
theorem cut_ofNd {x : Nd} {f : Kids} {k : Int} (b : Nat) (keep : Bool) (hf : KidsOk f) (hm : (ofNd x f k).may = true) (hr : (cntK f : Int) ≤ roomN k) :
    cutN (ofNd x f k) b keep = if (f b).isSome = true then (ofNd x (setK f b none) (kindN (ofNd x f k) ((cntK f : Int) - 1) keep), 0) else (zeroNd, 5) := by
  have h5 : (ofNd x f k).kind = k := rfl
  unfold cutN
  rw [if_neg (by rw [hm]; simp), h5, row_ofNd hf hr]
  unfold takeK
  cases hfb : f b with
  | none => simp
  | some q => simp [ofNd_ofNd, (len_ofNd x f k).1]
/-! ### An anchor -/
theorem may_top {x : Nd} {f : Kids} (hf : KidsOk f) (hp : x.path = { data := #[] }) : (ofNd x f 5).may = true ∧ (ofNd x f 5).isAnchor = true := by
  have h : (ofNd x f 5).isAnchor = true := by
    rw [anchor_ofNd hf (by decide) (by rw [hp]; decide), hp, toList_no]
    rfl
  exact ⟨by unfold Nd.may; rw [h, Bool.or_true], h⟩
theorem kind_keep (x : Nd) (n : Int) : kindN x n true = x.kind := rfl
theorem add_top {x : Nd} {f : Kids} {b : Nat} (r : Int × Int) (hb : b < 256) (hf : KidsOk f) (hp : x.path = { data := #[] }) (hkd : kidN r = true) :
    addN (ofNd x f 5) b r true = if (f b).isSome = true then (zeroNd, 8) else (ofNd x (setK f b (some r)) 5, 0) := by
  have h1 : addRoom (ofNd x f 5) true = 256 := rfl
  have h2 := cnt_256 f
  rw [add_ofNd b r true hf (by decide) (may_top hf hp).1 hkd (by rw [h1]; omega), h1, kind_keep]
  split
  · rfl
  · rename_i hno
    rw [if_neg]
    · rfl
    · intro e
      exact hno (cnt_full (by omega) hb)
theorem cut_top {x : Nd} {f : Kids} (b : Nat) (hf : KidsOk f) (hp : x.path = { data := #[] }) :
    cutN (ofNd x f 5) b true = if (f b).isSome = true then (ofNd x (setK f b none) 5, 0) else (zeroNd, 5) := by
  have h2 := cnt_256 f
  rw [cut_ofNd b true hf (may_top hf hp).1 (by show (cntK f : Int) ≤ 256; omega), kind_keep]
  rfl
/-! ### A right node -/
def kindK (f : Kids) : Int := (ofN (cntK f)).1
theorem kindK_room (f : Kids) : (cntK f : Int) ≤ roomN (kindK f) ∧ 0 < roomN (kindK f) ∧ 2 ≤ kindK f ∧ kindK f ≤ 5 := by
  have h := room_of (n := (cntK f : Int)) (by omega) (by have := cnt_256 f; omega)
  exact ⟨h.1, h.2.1, h.2.2.1⟩
theorem right_low {x : Nd} {f : Kids} (hf : KidsOk f) (hp : x.path.size ≤ 34) (h2 : 2 ≤ cntK f) : (ofNd x f (kindK f)).isRight = true ∧ (ofNd x f (kindK f)).may = true := by
  have h : (ofNd x f (kindK f)).isRight = true := by
    rw [right_ofNd hf (kindK_room f).2.1 hp]
    simp [kindK]; omega
  exact ⟨h, by unfold Nd.may; rw [h, Bool.true_or]⟩
theorem add_low {x : Nd} {f : Kids} {b : Nat} (r : Int × Int) (hb : b < 256) (hf : KidsOk f) (hp : x.path.size ≤ 34) (h2 : 2 ≤ cntK f) (hkd : kidN r = true) :
    addN (ofNd x f (kindK f)) b r false = if (f b).isSome = true then (zeroNd, 8) else (ofNd x (setK f b (some r)) (kindK (setK f b (some r))), 0) := by
  have hc := cnt_256 f
  have hk := kindK_room f
  have e1 : addRoom (ofNd x f (kindK f)) false = roomN (max (ofN ((cntK f : Int) + 1)).1 (kindK f)) := by
    unfold addRoom kindN; rw [(len_ofNd _ _ _).1]; rfl
  have e2 : roomN (kindK f) ≤ addRoom (ofNd x f (kindK f)) false ∨ cntK f = 256 := by
    by_cases h : cntK f = 256
    · exact .inr h
    · refine .inl ?_
      rw [e1]
      have h3 := room_of (n := (cntK f : Int) + 1) (by omega) (by omega)
      exact room_mono hk.2.2 (by omega) (by omega)
  have hr : (cntK f : Int) ≤ addRoom (ofNd x f (kindK f)) false := by
    rcases e2 with e2 | e2
    · omega
    · rw [e1, e2]; unfold kindK; rw [e2]; decide
  rw [add_ofNd b r false hf hk.2.1 (right_low hf hp h2).2 hkd hr]
  split
  · rfl
  · rename_i hno
    have hlt : cntK f < 256 := by
      by_cases h : cntK f < 256
      · exact h
      · exact absurd (cnt_full (by omega) hb) hno
    have h3 := room_of (n := (cntK f : Int) + 1) (by omega) (by omega)
    have h4 : roomN (ofN ((cntK f : Int) + 1)).1 ≤ addRoom (ofNd x f (kindK f)) false := by
      rw [e1]; exact room_mono h3.2.2.1 (by omega) (by omega)
    rw [if_neg (by omega)]
    have h5 := cnt_set_some (f := f) r hb (by cases h : f b with
      | none => rfl
      | some q => rw [h] at hno; simp at hno)
    have h6 : kindN (ofNd x f (kindK f)) ((cntK f : Int) + 1) false = kindK (setK f b (some r)) := by
      unfold kindN kindK; rw [h5]; push_cast; rfl
    rw [h6]
theorem cut_low {x : Nd} {f : Kids} {b : Nat} (hb : b < 256) (hf : KidsOk f) (hp : x.path.size ≤ 34) (h2 : 2 ≤ cntK f) :
    cutN (ofNd x f (kindK f)) b false = if (f b).isSome = true then (ofNd x (setK f b none) (kindK (setK f b none)), 0) else (zeroNd, 5) := by
  rw [cut_ofNd b false hf (right_low hf hp h2).2 (kindK_room f).1]
  split
  · rename_i h
    obtain ⟨q, hq⟩ := Option.isSome_iff_exists.1 h
    have h5 := cnt_set_none hb hq
    have h6 : kindN (ofNd x f (kindK f)) ((cntK f : Int) - 1) false = kindK (setK f b none) := by
      unfold kindN kindK
      rw [← h5]; push_cast
      rw [show ((cntK (setK f b none) : Int) + 1 - 1) = (cntK (setK f b none) : Int) by omega]
      first | done | rfl
    rw [h6]
  · rfl
end Go.Proofs.YtgjgcbemgmkncaaGreatDoor
namespace Go.Proofs.YtgjgcbemgmkncaaGreatDoor
open Go.RowKit Go.Shelf
set_option linter.unusedVariables false
set_option maxRecDepth 20000
set_option linter.unusedSimpArgs false

def Nd.full (x : Nd) : Bool := x.may && ((x.kids.length : Int) == roomN x.kind)
set_option maxHeartbeats 1600000 in
set_option maxRecDepth 100000 in
theorem Full_n (x : Nd) (V : Value) (w : World) (h : NdAt w x V) (hr : RoomsAt w) : Calls Tryz.prog 18 #[V] w (BoolEnd x.full w) := by
  have h' := h
  obtain ⟨hwf, Ab, cb, Ak, ck, rfl, _, _⟩ := h'
  have b1 := below_box w (.cells #[.int .i64 x.kind, .string x.code, .string x.value, .string x.path, .slice Ab x.bytes.length cb, .slice Ak x.kids.length ck] 26)
  have HM := Lib.hid (may_n x _ (w.alloc (.cells #[.int .i64 x.kind, .string x.code, .string x.value, .string x.path, .slice Ab x.bytes.length cb, .slice Ak x.kids.length ck] 26)).drew (h.below b1.drew) (hr.on b1.drew))
  have HB := Lib.hid (And.intro b1 (And.intro (Blk.new w 26 #[.int .i64 x.kind, .string x.code, .string x.value, .string x.path, .slice Ab x.bytes.length cb, .slice Ak x.kids.length ck]) (hr.on b1)))
  clear h hr b1 hwf
  unfold Nd.v at HM ⊢
  cases hm : x.may with
  | false =>
    rw [hm] at HM
    have E : Hid (x.full = false) := Lib.hid (by unfold Nd.full; rw [hm]; rfl)
    clear hm
    go_enter Tryz.func18, Tryz.ntmps18
    go_wp2_with fail
    refine wp_region_held_drew (S := (fun V : World => V.cell? ⟨w.heap.size, 0, none⟩ = some (.int .i64 x.kind) ∧ V.cell? ⟨w.heap.size, 1, none⟩ = some (.string x.code) ∧ V.cell? ⟨w.heap.size, 2, none⟩ = some (.string x.value) ∧ V.cell? ⟨w.heap.size, 3, none⟩ = some (.string x.path) ∧ V.cell? ⟨w.heap.size, 4, none⟩ = some (.slice Ab x.bytes.length cb) ∧ V.cell? ⟨w.heap.size, 5, none⟩ = some (.slice Ak x.kids.length ck))) (by kernel_rfl) ?_ (fun hHeld0 => ?_)
    · exact cells6 HB.out.2.1.drew
    refine wpAnyH_take (i := 0) (v := ?_) rfl (by kernel_rfl) (by kernel_rfl) (by kernel_rfl) (fun _ _ _ h => h) (Or.inl ⟨by rfl, ?_⟩) hHeld0 ?_
    rotate_left
    · (intro w hSw; (try dsimp only at hSw); go_simp <;> with_reducible rfl)
    try simp only [Act.put, List.setIfInBounds_toArray, List.set_cons_zero, List.set_cons_succ]
    refine wpAnyH_take (i := 1) (v := ?_) rfl (by kernel_rfl) (by kernel_rfl) (by kernel_rfl) (fun _ _ _ h => h) (Or.inl ⟨by rfl, ?_⟩) hHeld0 ?_
    rotate_left
    · (intro w hSw; (try dsimp only at hSw); go_simp <;> with_reducible rfl)
    try simp only [Act.put, List.setIfInBounds_toArray, List.set_cons_zero, List.set_cons_succ]
    refine wpAnyH_ready (rs := [2]) (by kernel_rfl) (by simp) ?_
    refine AllReadyH.cons rfl (fun K hK => ?_) ?_
    · go_simp
      refine HM.out.mono ?_
      rintro e w1 ⟨rfl, hb⟩
      have H3 := Lib.hid (And.intro (HB.out.1.trans (Below.trans ((Below.refl _ _).drew) hb |>.mono HB.out.1.size)) (And.intro (HB.out.2.1.below ((Below.refl _ _).drew.trans hb) (by simp)) (HB.out.2.2.on ((Below.refl _ _).drew.trans hb))))
      clear hb
      refine hK.out _ _ ?_ (fun hHeld1 => ?_)
      · exact cells6 H3.out.2.1
      clear hK K hHeld0
      try simp only [Act.put, List.setIfInBounds_toArray, List.set_cons_zero, List.set_cons_succ]
      refine wpAnyH_take (i := 3) (v := ?_) rfl (by kernel_rfl) (by kernel_rfl) (by kernel_rfl) (fun _ _ _ h => h) (Or.inl ⟨by rfl, ?_⟩) hHeld1 ?_
      rotate_left
      · (intro w hSw; (try dsimp only at hSw); go_simp <;> with_reducible rfl)
      try simp only [Act.put, List.setIfInBounds_toArray, List.set_cons_zero, List.set_cons_succ]
      refine wpAnyH_take (i := 4) (v := undef) rfl (by kernel_rfl) (by kernel_rfl) (by kernel_rfl) (fun _ _ _ h => h) (Or.inr ⟨by kernel_rfl, rfl⟩) hHeld1 ?_
      try simp only [Act.put, List.setIfInBounds_toArray, List.set_cons_zero, List.set_cons_succ]
      refine wpAnyH_take (i := 5) (v := undef) rfl (by kernel_rfl) (by kernel_rfl) (by kernel_rfl) (fun _ _ _ h => h) (Or.inr ⟨by kernel_rfl, rfl⟩) hHeld1 ?_
      try simp only [Act.put, List.setIfInBounds_toArray, List.set_cons_zero, List.set_cons_succ]
      refine wpAnyH_take (i := 6) (v := undef) rfl (by kernel_rfl) (by kernel_rfl) (by kernel_rfl) (fun _ _ _ h => h) (Or.inr ⟨by kernel_rfl, rfl⟩) hHeld1 ?_
      try simp only [Act.put, List.setIfInBounds_toArray, List.set_cons_zero, List.set_cons_succ]
      refine wpAnyH_take (i := 7) (v := undef) rfl (by kernel_rfl) (by kernel_rfl) (by kernel_rfl) (fun _ _ _ h => h) (Or.inr ⟨by kernel_rfl, rfl⟩) hHeld1 ?_
      try simp only [Act.put, List.setIfInBounds_toArray, List.set_cons_zero, List.set_cons_succ]
      refine wpAnyH_take (i := 8) (v := undef) rfl (by kernel_rfl) (by kernel_rfl) (by kernel_rfl) (fun _ _ _ h => h) (Or.inr ⟨by kernel_rfl, rfl⟩) hHeld1 ?_
      try simp only [Act.put, List.setIfInBounds_toArray, List.set_cons_zero, List.set_cons_succ]
      refine wpAnyH_take (i := 9) (v := undef) rfl (by kernel_rfl) (by kernel_rfl) (by kernel_rfl) (fun _ _ _ h => h) (Or.inr ⟨by kernel_rfl, rfl⟩) hHeld1 ?_
      try simp only [Act.put, List.setIfInBounds_toArray, List.set_cons_zero, List.set_cons_succ]
      refine wpAnyH_take (i := 10) (v := undef) rfl (by kernel_rfl) (by kernel_rfl) (by kernel_rfl) (fun _ _ _ h => h) (Or.inr ⟨by kernel_rfl, rfl⟩) hHeld1 ?_
      try simp only [Act.put, List.setIfInBounds_toArray, List.set_cons_zero, List.set_cons_succ]
      refine wpAnyH_take (i := 11) (v := ?_) rfl (by kernel_rfl) (by kernel_rfl) (by kernel_rfl) (fun _ _ _ h => h) (Or.inl ⟨by rfl, ?_⟩) hHeld1 ?_
      rotate_left
      · (intro w hSw; (try dsimp only at hSw); go_simp <;> with_reducible rfl)
      try simp only [Act.put, List.setIfInBounds_toArray, List.set_cons_zero, List.set_cons_succ]
      refine wpAnyH_take (i := 12) (v := ?_) rfl (by kernel_rfl) (by kernel_rfl) (by kernel_rfl) (fun _ _ _ h => h) (Or.inl ⟨by rfl, ?_⟩) hHeld1 ?_
      rotate_left
      · (intro w hSw; (try dsimp only at hSw); go_simp <;> with_reducible rfl)
      try simp only [Act.put, List.setIfInBounds_toArray, List.set_cons_zero, List.set_cons_succ]
      try simp only [Act.put, List.getElem_toArray, List.getElem_cons_succ, List.getElem_cons_zero, List.setIfInBounds_toArray, List.set_cons_zero, List.set_cons_succ]
      refine wpAnyH_done (by kernel_rfl) ?_ _
      refine (‹∀ (a : Act) (w : World), Code.wp Tryz.prog _ _ a w → _› _ _ ?_)
      go_wp2
      go_ret
      exact ⟨ret_bool (by rw [E.out]), H3.out.1⟩
    exact AllReadyH.nil
  | true =>
    rw [hm] at HM
    have E : Hid (x.full = ((x.kids.length : Int) == roomN x.kind)) := Lib.hid (by unfold Nd.full; rw [hm]; rfl)
    clear hm
    go_enter Tryz.func18, Tryz.ntmps18
    go_wp2_with fail
    refine wp_region_held_drew (S := (fun V : World => V.cell? ⟨w.heap.size, 0, none⟩ = some (.int .i64 x.kind) ∧ V.cell? ⟨w.heap.size, 1, none⟩ = some (.string x.code) ∧ V.cell? ⟨w.heap.size, 2, none⟩ = some (.string x.value) ∧ V.cell? ⟨w.heap.size, 3, none⟩ = some (.string x.path) ∧ V.cell? ⟨w.heap.size, 4, none⟩ = some (.slice Ab x.bytes.length cb) ∧ V.cell? ⟨w.heap.size, 5, none⟩ = some (.slice Ak x.kids.length ck))) (by kernel_rfl) ?_ (fun hHeld0 => ?_)
    · exact cells6 HB.out.2.1.drew
    refine wpAnyH_take (i := 0) (v := ?_) rfl (by kernel_rfl) (by kernel_rfl) (by kernel_rfl) (fun _ _ _ h => h) (Or.inl ⟨by rfl, ?_⟩) hHeld0 ?_
    rotate_left
    · (intro w hSw; (try dsimp only at hSw); go_simp <;> with_reducible rfl)
    try simp only [Act.put, List.setIfInBounds_toArray, List.set_cons_zero, List.set_cons_succ]
    refine wpAnyH_take (i := 1) (v := ?_) rfl (by kernel_rfl) (by kernel_rfl) (by kernel_rfl) (fun _ _ _ h => h) (Or.inl ⟨by rfl, ?_⟩) hHeld0 ?_
    rotate_left
    · (intro w hSw; (try dsimp only at hSw); go_simp <;> with_reducible rfl)
    try simp only [Act.put, List.setIfInBounds_toArray, List.set_cons_zero, List.set_cons_succ]
    refine wpAnyH_ready (rs := [2]) (by kernel_rfl) (by simp) ?_
    refine AllReadyH.cons rfl (fun K hK => ?_) ?_
    · go_simp
      refine HM.out.mono ?_
      rintro e w1 ⟨rfl, hb⟩
      have H3 := Lib.hid (And.intro (HB.out.1.trans (Below.trans ((Below.refl _ _).drew) hb |>.mono HB.out.1.size)) (And.intro (HB.out.2.1.below ((Below.refl _ _).drew.trans hb) (by simp)) (HB.out.2.2.on ((Below.refl _ _).drew.trans hb))))
      clear hb
      refine hK.out _ _ ?_ (fun hHeld1 => ?_)
      · exact cells6 H3.out.2.1
      clear hK K hHeld0
      try simp only [Act.put, List.setIfInBounds_toArray, List.set_cons_zero, List.set_cons_succ]
      refine wpAnyH_take (i := 3) (v := ?_) rfl (by kernel_rfl) (by kernel_rfl) (by kernel_rfl) (fun _ _ _ h => h) (Or.inl ⟨by rfl, ?_⟩) hHeld1 ?_
      rotate_left
      · (intro w hSw; (try dsimp only at hSw); go_simp <;> with_reducible rfl)
      try simp only [Act.put, List.setIfInBounds_toArray, List.set_cons_zero, List.set_cons_succ]
      refine wpAnyH_take (i := 4) (v := ?_) rfl (by kernel_rfl) (by kernel_rfl) (by kernel_rfl) (fun _ _ _ h => h) (Or.inl ⟨by rfl, ?_⟩) hHeld1 ?_
      rotate_left
      · (intro w hSw; (try dsimp only at hSw); go_simp <;> with_reducible rfl)
      try simp only [Act.put, List.setIfInBounds_toArray, List.set_cons_zero, List.set_cons_succ]
      refine wpAnyH_take (i := 5) (v := ?_) rfl (by kernel_rfl) (by kernel_rfl) (by kernel_rfl) (fun _ _ _ h => h) (Or.inl ⟨by rfl, ?_⟩) hHeld1 ?_
      rotate_left
      · (intro w hSw; (try dsimp only at hSw); go_simp <;> with_reducible rfl)
      try simp only [Act.put, List.setIfInBounds_toArray, List.set_cons_zero, List.set_cons_succ]
      refine wpAnyH_take (i := 6) (v := ?_) rfl (by kernel_rfl) (by kernel_rfl) (by kernel_rfl) (fun _ _ _ h => h) (Or.inl ⟨by rfl, ?_⟩) hHeld1 ?_
      rotate_left
      · (intro w hSw; (try dsimp only at hSw); go_simp <;> with_reducible rfl)
      try simp only [Act.put, List.setIfInBounds_toArray, List.set_cons_zero, List.set_cons_succ]
      refine wpAnyH_take (i := 7) (v := ?_) rfl (by kernel_rfl) (by kernel_rfl) (by kernel_rfl) (fun _ _ _ h => h) (Or.inl ⟨by rfl, ?_⟩) hHeld1 ?_
      rotate_left
      · (intro w hSw; (try dsimp only at hSw); go_simp <;> with_reducible rfl)
      try simp only [Act.put, List.setIfInBounds_toArray, List.set_cons_zero, List.set_cons_succ]
      refine wpAnyH_take (i := 8) (v := ?_) rfl (by kernel_rfl) (by kernel_rfl) (by kernel_rfl) (fun _ _ _ h => h) (Or.inl ⟨by rfl, ?_⟩) hHeld1 ?_
      rotate_left
      · (intro w hSw; (try dsimp only at hSw); go_simp <;> with_reducible rfl)
      try simp only [Act.put, List.setIfInBounds_toArray, List.set_cons_zero, List.set_cons_succ]
      refine wpAnyH_ready (rs := [9]) (by kernel_rfl) (by simp) ?_
      refine AllReadyH.cons rfl (fun K hK => ?_) ?_
      · go_simp
        with_reducible refine (room_n x.kind w1 H3.out.2.2).mono ?_
        rintro e w2 ⟨rfl, rfl⟩
        refine hK.out _ _ ?_ (fun hHeld2 => ?_)
        · exact cells6 H3.out.2.1
        clear hK K hHeld1
        try simp only [Act.put, List.setIfInBounds_toArray, List.set_cons_zero, List.set_cons_succ]
        refine wpAnyH_take (i := 10) (v := ?_) rfl (by kernel_rfl) (by kernel_rfl) (by kernel_rfl) (fun _ _ _ h => h) (Or.inl ⟨by rfl, ?_⟩) hHeld2 ?_
        rotate_left
        · (intro w hSw; (try dsimp only at hSw); go_simp <;> with_reducible rfl)
        try simp only [Act.put, List.setIfInBounds_toArray, List.set_cons_zero, List.set_cons_succ]
        refine wpAnyH_take (i := 11) (v := ?_) rfl (by kernel_rfl) (by kernel_rfl) (by kernel_rfl) (fun _ _ _ h => h) (Or.inl ⟨by rfl, ?_⟩) hHeld2 ?_
        rotate_left
        · (intro w hSw; (try dsimp only at hSw); go_simp <;> with_reducible rfl)
        try simp only [Act.put, List.setIfInBounds_toArray, List.set_cons_zero, List.set_cons_succ]
        refine wpAnyH_take (i := 12) (v := ?_) rfl (by kernel_rfl) (by kernel_rfl) (by kernel_rfl) (fun _ _ _ h => h) (Or.inl ⟨by rfl, ?_⟩) hHeld2 ?_
        rotate_left
        · (intro w hSw; (try dsimp only at hSw); go_simp <;> with_reducible rfl)
        try simp only [Act.put, List.setIfInBounds_toArray, List.set_cons_zero, List.set_cons_succ]
        try simp only [Act.put, List.getElem_toArray, List.getElem_cons_succ, List.getElem_cons_zero, List.setIfInBounds_toArray, List.set_cons_zero, List.set_cons_succ]
        refine wpAnyH_done (by kernel_rfl) ?_ _
        refine (‹∀ (a : Act) (w : World), Code.wp Tryz.prog _ _ a w → _› _ _ ?_)
        go_wp2
        go_ret
        exact ⟨ret_bool (by rw [E.out]), H3.out.1⟩
      exact AllReadyH.nil
    exact AllReadyH.nil
/-- Find's world behind its boxes. -/
structure FindW (w : World) (x : Nd) (CE : Array Value) (W : World) : Prop where
  below : Below w.heap.size w W
  box : Blk W w.heap.size 26 CE
  out : Blk W (w.heap.size + 1) 29 #[.int .i64 0, .int .u32 0]
  parts : Blk W (w.heap.size + 1 + 1) 61 CE
  node : NdAt W x (.agg CE)
  rooms : RoomsAt W
  size : w.heap.size + 3 ≤ W.heap.size
theorem FindW.on {w W W' : World} {x : Nd} {CE : Array Value} (h : FindW w x CE W) (hb : Below W.heap.size W W') : FindW w x CE W' :=
  ⟨h.below.trans (hb.mono h.below.size), h.box.below hb h.box.lt, h.out.below hb h.out.lt, h.parts.below hb h.parts.lt, h.node.below hb, h.rooms.on hb, Nat.le_trans h.size hb.size⟩
theorem FindW.drew {w W : World} {x : Nd} {CE : Array Value} (h : FindW w x CE W) : FindW w x CE W.drew := ⟨h.below.drew, h.box.drew, h.out.drew, h.parts.drew, h.node, h.rooms, h.size⟩
theorem find_start (w : World) (x : Nd) (CE : Array Value) (h : NdAt w x (.agg CE)) (hr : RoomsAt w) : FindW w x CE (((w.alloc (.cells CE 26)).alloc (.cells #[.int .i64 0, .int .u32 0] 29)).alloc (.cells CE 61)) := by
  have b4 : Below w.heap.size w (((w.alloc (.cells CE 26)).alloc (.cells #[.int .i64 0, .int .u32 0] 29)).alloc (.cells CE 61)) := (((Below.refl _ w).alloc (Nat.le_refl _) _).alloc (by simp) _).alloc (by simp; omega) _
  refine ⟨b4, ((Blk.new w 26 CE).alloc _).alloc _, ?_, ?_, h.below b4, hr.on b4, by simp⟩
  · have q := (Blk.new (w.alloc (.cells CE 26)) 29 #[.int .i64 0, .int .u32 0]).alloc (.cells CE 61)
    rw [World.size_alloc] at q
    exact q
  · have q := Blk.new ((w.alloc (.cells CE 26)).alloc (.cells #[.int .i64 0, .int .u32 0] 29)) 61 CE
    rw [World.size_alloc, World.size_alloc] at q
    exact q
theorem findS {w W : World} {x : Nd} {Ab Ak : Option Addr} {cb ck : Nat} (h : FindW w x #[.int .i64 x.kind, .string x.code, .string x.value, .string x.path, .slice Ab x.bytes.length cb, .slice Ak x.kids.length ck] W) : (W.cell? ⟨w.heap.size + 1 + 1, 0, none⟩ = some (.int .i64 x.kind) ∧ W.cell? ⟨w.heap.size + 1 + 1, 1, none⟩ = some (.string x.code) ∧ W.cell? ⟨w.heap.size + 1 + 1, 2, none⟩ = some (.string x.value) ∧ W.cell? ⟨w.heap.size + 1 + 1, 3, none⟩ = some (.string x.path) ∧ W.cell? ⟨w.heap.size + 1 + 1, 4, none⟩ = some (.slice Ab x.bytes.length cb) ∧ W.cell? ⟨w.heap.size + 1 + 1, 5, none⟩ = some (.slice Ak x.kids.length ck)) ∧ W.cell? ⟨w.heap.size, 0, none⟩ = some (.int .i64 x.kind) := ⟨cells6 h.parts, h.box.cell 0⟩
theorem findS_off {w W V : World} {x : Nd} {Ab Ak : Option Addr} {cb ck : Nat} (h : FindW w x #[.int .i64 x.kind, .string x.code, .string x.value, .string x.path, .slice Ab x.bytes.length cb, .slice Ak x.kids.length ck] W) (hg : W.grownBy V (some (w.heap.size + 1))) : (V.cell? ⟨w.heap.size + 1 + 1, 0, none⟩ = some (.int .i64 x.kind) ∧ V.cell? ⟨w.heap.size + 1 + 1, 1, none⟩ = some (.string x.code) ∧ V.cell? ⟨w.heap.size + 1 + 1, 2, none⟩ = some (.string x.value) ∧ V.cell? ⟨w.heap.size + 1 + 1, 3, none⟩ = some (.string x.path) ∧ V.cell? ⟨w.heap.size + 1 + 1, 4, none⟩ = some (.slice Ab x.bytes.length cb) ∧ V.cell? ⟨w.heap.size + 1 + 1, 5, none⟩ = some (.slice Ak x.kids.length ck)) ∧ V.cell? ⟨w.heap.size, 0, none⟩ = some (.int .i64 x.kind) := by
  have e0 : ∀ i, V.cell? ⟨w.heap.size, i, none⟩ = W.cell? ⟨w.heap.size, i, none⟩ := fun i => World.cell?_of_block (hg.block w.heap.size h.box.lt (fun e => by have e2 : w.heap.size = w.heap.size + 1 := Option.some.inj e; omega))
  have e2 : ∀ i, V.cell? ⟨w.heap.size + 1 + 1, i, none⟩ = W.cell? ⟨w.heap.size + 1 + 1, i, none⟩ := fun i => World.cell?_of_block (hg.block (w.heap.size + 1 + 1) h.parts.lt (fun e => by have e2 : w.heap.size + 1 + 1 = w.heap.size + 1 := Option.some.inj e; omega))
  simp only [e0, e2]
  exact findS h
theorem two_stores {W : World} {b : Nat} {t : TypeId} {d0 d1 : Value} (v0 v1 : Value) (h : Blk W b t #[d0, d1]) :
    ∃ V, V = (W.setCell ⟨b, 0, none⟩ v0).setCell ⟨b, 1, none⟩ v1 ∧ W.grownBy V (some b) ∧ Blk V b t #[v0, v1] := by
  refine ⟨_, rfl, grown_setCell (grown_setCell ⟨rfl, rfl, rfl, Nat.le_refl _, fun _ _ _ => rfl⟩ _ _) _ _, ?_⟩
  have q := (h.set_ 0 v0).set_ 1 v1
  simpa using q
theorem find_iface {W : World} {iv : Value} {room : Int} {f : Kids} {bl : List Nat} (b : Nat) (h : RowAt W iv room f bl) (hb : b < 256) : ∃ (T : TypeId) (g fid : Nat), iv = .iface T (.pointer (some ⟨g, 0, none⟩)) ∧ (∀ V : World, (method 263 T (.pointer (some ⟨g, 0, none⟩)) "Find").run Tryz.prog V = .ok (fid, .pointer (some ⟨g, 0, none⟩)) V) ∧ (∀ args V, (callFunc fid args).run Tryz.prog V = .ok (.enter fid args) V) ∧
    Calls Tryz.prog fid #[.pointer (some ⟨g, 0, none⟩), .int .u8 (b : Int)] W (TwoEnd (optV (f b)) (.bool (f b).isSome) W) := by
  rcases h with ⟨g, rfl, rfl, hf⟩ | ⟨g, gr, gu, n, rfl, rfl, rfl, hf⟩
  · exact ⟨_, g, _, rfl, few_Find_me g, enters_of Tryz.func109 (by kernel_rfl) rfl, Find_k g room f b W hf hb⟩
  · exact ⟨_, g, _, rfl, many_Find_me g, enters_of Tryz.func125 (by kernel_rfl) rfl, Find_m g gr gu n f b W hf hb⟩
def findN (x : Nd) (b : Nat) : Option (Int × Int) := if x.may = true then x.row (roomN x.kind) b else none
set_option maxHeartbeats 1600000 in
set_option maxRecDepth 100000 in
theorem Find_n (x : Nd) (V : Value) (b : Nat) (w : World) (h : NdAt w x V) (hr : RoomsAt w) (hb256 : b < 256) : Calls Tryz.prog 24 #[V, .int .u8 (b : Int)] w (TwoEnd (optV (findN x b)) (.bool (findN x b).isSome) w) := by
  have h' := h
  obtain ⟨hwf, Ab, cb, Ak, ck, rfl, _, _⟩ := h'
  have h4 := find_start w x #[.int .i64 x.kind, .string x.code, .string x.value, .string x.path, .slice Ab x.bytes.length cb, .slice Ak x.kids.length ck] h hr
  have HM := Lib.hid (may_n x _ _ h4.node h4.rooms)
  have H4 := Lib.hid h4
  cases hm : x.may with
  | false =>
    rw [hm] at HM
    have E : findN x b = none := by unfold findN; rw [if_neg (by rw [hm]; simp)]
    rw [E]
    clear E hwf h hr h4 hm
    unfold Nd.v optV refV at *
    simp only [Option.getD_none, Option.isSome_none]
    go_enter Tryz.func24, Tryz.ntmps24
    go_wp2_with fail
    refine HM.out.mono ?_
    rintro e w1 ⟨rfl, hb⟩
    have H7B := Lib.hid (H4.out.on hb)
    clear hb HM H4
    have d0 := H7B.out.out.cell 0
    have d1 := H7B.out.out.cell 1
    have fz0 := H7B.out.out.frozen 0
    have fz1 := H7B.out.out.frozen 1
    have l6 := H7B.out.out.lt
    simp at d0 d1
    obtain ⟨VV, hV, hg, q6⟩ := two_stores (.int .i64 0) (.int .u32 0) H7B.out.out
    go_wp2
    rw [← hV]
    clear hV d0 d1 fz0 fz1
    have c0 := q6.cell 0
    have c1 := q6.cell 1
    simp at c0 c1
    exact bodyPost_ret (v := .tuple #[.agg #[.int .i64 0, .int .u32 0], .bool false]) (by simp [results, Tryz.results24, go_sem, c0, c1]) rfl ⟨rfl, H7B.out.below.grown hg H7B.out.below.size (fun k e => by injection e with e; omega)⟩
  | true =>
    rw [hm] at HM
    have hin := inner_parts (may_inner hm)
    have hroom := roomOk_of (room_kind hin.1)
    have E : findN x b = x.row (roomN x.kind) b := by unfold findN; rw [if_pos hm]
    rw [E]
    obtain ⟨room, hrm⟩ : ∃ room, roomN x.kind = room := ⟨_, rfl⟩
    rw [hrm] at hroom ⊢
    obtain ⟨o, ho⟩ : ∃ o, x.row room b = o := ⟨_, rfl⟩
    rw [ho]
    unfold Nd.row at ho
    have HP := Lib.hid (And.intro hroom (And.intro hin (And.intro hrm ho)))
    clear E hwf h hr h4 hm hroom hin hrm ho
    unfold Nd.v optV refV at *
    go_enter Tryz.func24, Tryz.ntmps24
    go_wp2_with fail
    refine HM.out.mono ?_
    rintro e w3 ⟨rfl, hb⟩
    have H3 := Lib.hid (H4.out.on hb)
    clear hb HM H4
    have HRO := Lib.hid (room_n x.kind w3.drew H3.out.drew.rooms)
    rw [HP.out.2.2.1] at HRO
    have HLA := Lib.hid (laid_n x _ room w3.drew H3.out.drew.node HP.out.1 (by have := HP.out.2.1.2.2.2.2.1; omega))
    go_wp2_with fail
    refine wp_region_held_drew (S := (fun V : World => (V.cell? ⟨w.heap.size + 1 + 1, 0, none⟩ = some (.int .i64 x.kind) ∧ V.cell? ⟨w.heap.size + 1 + 1, 1, none⟩ = some (.string x.code) ∧ V.cell? ⟨w.heap.size + 1 + 1, 2, none⟩ = some (.string x.value) ∧ V.cell? ⟨w.heap.size + 1 + 1, 3, none⟩ = some (.string x.path) ∧ V.cell? ⟨w.heap.size + 1 + 1, 4, none⟩ = some (.slice Ab x.bytes.length cb) ∧ V.cell? ⟨w.heap.size + 1 + 1, 5, none⟩ = some (.slice Ak x.kids.length ck)) ∧ V.cell? ⟨w.heap.size, 0, none⟩ = some (.int .i64 x.kind))) (by kernel_rfl) ?_ (fun hHeld0 => ?_)
    · exact findS H3.out.drew
    refine wpAnyH_take (i := 0) (v := ?_) rfl (by kernel_rfl) (by kernel_rfl) (by kernel_rfl) (fun _ _ _ h => h) (Or.inl ⟨by rfl, ?_⟩) hHeld0 ?_
    rotate_left
    · (intro w hSw; (try dsimp only at hSw); go_simp <;> with_reducible rfl)
    try simp only [Act.put, List.setIfInBounds_toArray, List.set_cons_zero, List.set_cons_succ]
    refine wpAnyH_take (i := 1) (v := ?_) rfl (by kernel_rfl) (by kernel_rfl) (by kernel_rfl) (fun _ _ _ h => h) (Or.inl ⟨by rfl, ?_⟩) hHeld0 ?_
    rotate_left
    · (intro w hSw; (try dsimp only at hSw); go_simp <;> with_reducible rfl)
    try simp only [Act.put, List.setIfInBounds_toArray, List.set_cons_zero, List.set_cons_succ]
    refine wpAnyH_take (i := 2) (v := ?_) rfl (by kernel_rfl) (by kernel_rfl) (by kernel_rfl) (fun _ _ _ h => h) (Or.inl ⟨by rfl, ?_⟩) hHeld0 ?_
    rotate_left
    · (intro w hSw; (try dsimp only at hSw); go_simp <;> with_reducible rfl)
    try simp only [Act.put, List.setIfInBounds_toArray, List.set_cons_zero, List.set_cons_succ]
    refine wpAnyH_take (i := 5) (v := ?_) rfl (by kernel_rfl) (by kernel_rfl) (by kernel_rfl) (fun _ _ _ h => h) (Or.inl ⟨by rfl, ?_⟩) hHeld0 ?_
    rotate_left
    · (intro w hSw; (try dsimp only at hSw); go_simp <;> with_reducible rfl)
    try simp only [Act.put, List.setIfInBounds_toArray, List.set_cons_zero, List.set_cons_succ]
    refine wpAnyH_ready (rs := [3]) (by kernel_rfl) (by simp) ?_
    refine AllReadyH.cons rfl (fun K hK => ?_) ?_
    · go_simp
      with_reducible refine HRO.out.mono ?_
      rintro e w4 ⟨rfl, rfl⟩
      refine hK.out _ _ ?_ (fun hHeld1 => ?_)
      · exact findS H3.out.drew
      clear hK K hHeld0
      try simp only [Act.put, List.setIfInBounds_toArray, List.set_cons_zero, List.set_cons_succ]
      refine wpAnyH_ready (rs := [4]) (by kernel_rfl) (by simp) ?_
      refine AllReadyH.cons rfl (fun K hK => ?_) ?_
      · go_simp
        refine HLA.out.mono ?_
        rintro e w5 ⟨iv, bl, rfl, hrow, hbl, hb5⟩
        have H5 := Lib.hid (H3.out.drew.on hb5)
        obtain ⟨TT, g, fid, rfl, hme, hen, hput⟩ := find_iface b hrow hb256
        rw [HP.out.2.2.2] at hput
        unfold optV refV at hput
        have HPU := Lib.hid hput
        clear hput hrow hbl hb5
        refine hK.out _ _ ?_ (fun hHeld2 => ?_)
        · exact findS H5.out
        clear hK K hHeld1
        try simp only [Act.put, List.setIfInBounds_toArray, List.set_cons_zero, List.set_cons_succ]
        refine wpAnyH_ready (rs := [6]) (by kernel_rfl) (by simp) ?_
        refine AllReadyH.cons rfl (fun K hK => ?_) ?_
        · go_simp
          refine HPU.out.mono ?_
          rintro e w6 ⟨rfl, hb6⟩
          have H7B := Lib.hid (H5.out.on hb6)
          clear hb6 hme hen
          refine hK.out _ _ ?_ (fun hHeld3 => ?_)
          · exact findS H7B.out
          clear hK K hHeld2
          try simp only [Act.put, List.setIfInBounds_toArray, List.set_cons_zero, List.set_cons_succ]
          refine wpAnyH_take (i := 7) (v := ?_) rfl (by kernel_rfl) (by kernel_rfl) (by kernel_rfl) (fun _ _ _ h => h) (Or.inl ⟨by rfl, ?_⟩) hHeld3 ?_
          rotate_left
          · (intro w hSw; (try dsimp only at hSw); go_simp <;> with_reducible rfl)
          try simp only [Act.put, List.setIfInBounds_toArray, List.set_cons_zero, List.set_cons_succ]
          refine wpAnyH_take (i := 8) (v := ?_) rfl (by kernel_rfl) (by kernel_rfl) (by kernel_rfl) (fun _ _ _ h => h) (Or.inl ⟨by rfl, ?_⟩) hHeld3 ?_
          rotate_left
          · (intro w hSw; (try dsimp only at hSw); go_simp <;> with_reducible rfl)
          try simp only [Act.put, List.setIfInBounds_toArray, List.set_cons_zero, List.set_cons_succ]
          refine wpAnyH_ready (rs := [9]) (by kernel_rfl) (by simp) ?_
          refine AllReadyH.cons rfl (fun K hK => ?_) ?_
          · have d0 := H7B.out.out.cell 0
            have d1 := H7B.out.out.cell 1
            have fz0 := H7B.out.out.frozen 0
            have fz1 := H7B.out.out.frozen 1
            have l6 := H7B.out.out.lt
            simp at d0 d1
            obtain ⟨VV, hV, hg, q6⟩ := two_stores (.int .i64 (o.getD (0, 0)).1) (.int .u32 (o.getD (0, 0)).2) H7B.out.out
            go_simp
            rw [← hV]
            clear hV d0 d1 fz0 fz1
            refine hK.out _ _ ?_ (fun hHeld4 => ?_)
            · exact findS_off H7B.out hg
            clear hK K hHeld3
            try simp only [Act.put, List.setIfInBounds_toArray, List.set_cons_zero, List.set_cons_succ]
            refine wpAnyH_take (i := 10) (v := ?_) rfl (by kernel_rfl) (by kernel_rfl) (by kernel_rfl) (fun _ _ _ h => h) (Or.inl ⟨by rfl, ?_⟩) hHeld4 ?_
            rotate_left
            · (intro w hSw; (try dsimp only at hSw); go_simp <;> with_reducible rfl)
            try simp only [Act.put, List.setIfInBounds_toArray, List.set_cons_zero, List.set_cons_succ]
            try simp only [Act.put, List.getElem_toArray, List.getElem_cons_succ, List.getElem_cons_zero, List.setIfInBounds_toArray, List.set_cons_zero, List.set_cons_succ]
            refine wpAnyH_done (by kernel_rfl) ?_ _
            refine (‹∀ (a : Act) (w : World), Code.wp Tryz.prog _ _ a w → _› _ _ ?_)
            have c0 := q6.cell 0
            have c1 := q6.cell 1
            simp at c0 c1
            go_wp2
            exact bodyPost_ret (v := .tuple #[.agg #[.int .i64 (o.getD (0, 0)).1, .int .u32 (o.getD (0, 0)).2], .bool o.isSome]) (by simp [results, Tryz.results24, go_sem, c0, c1]) rfl ⟨rfl, H7B.out.below.grown hg H7B.out.below.size (fun k e => by injection e with e; omega)⟩
          exact AllReadyH.nil
        exact AllReadyH.nil
      exact AllReadyH.nil
    exact AllReadyH.nil
end Go.Proofs.YtgjgcbemgmkncaaGreatDoor
namespace Go.Proofs.YtgjgcbemgmkncaaGreatDoor
open Go.RowKit Go.Shelf
set_option linter.unusedVariables false
set_option maxRecDepth 20000
set_option linter.unusedSimpArgs false

theorem ne_at {α : Type} {a b : List α} {k : Nat} (h1 : k < a.length) (h2 : k < b.length) (h : a[k] ≠ b[k]) : a ≠ b := fun e => by subst e; exact h rfl
theorem take_at {α : Type} {a b : List α} {k : Nat} (h1 : k < a.length) (h2 : k < b.length) (h : a.take k = b.take k) (he : a[k] = b[k]) : a.take (k + 1) = b.take (k + 1) := by
  rw [List.take_succ_eq_append_getElem h1, List.take_succ_eq_append_getElem h2, h, he]
set_option maxHeartbeats 1600000 in
theorem SameBytes_n (a b : List Nat) (A B : Option Addr) (ca cb : Nat) (w : World) (ha : Reads w w.heap.size 1 A a.length (a.flatMap nrow)) (hb : Reads w w.heap.size 1 B b.length (b.flatMap nrow)) (hla : a.length ≤ 9223372036854775807) :
    Calls Tryz.prog 56 #[.slice A a.length ca, .slice B b.length cb] w (BoolEnd (decide (a = b)) w) := by
  by_cases hlen : a.length = b.length
  · have HA := Lib.hid (And.intro ha hb)
    have HL := Lib.hid hlen
    have hl : ((a.length : Int) != (b.length : Int)) = false := by simp [hlen]
    clear ha hb hlen
    go_enter Tryz.func56, Tryz.ntmps56
    go_wp2_with fail
    go_loopw [5] (fun i wr => ∃ k : Nat, k ≤ a.length ∧ i = .int .i64 k ∧ Hid (a.take k = b.take k) ∧ ∃ n, wr = w.drewN n) (fun i _ => a.length - (intOf i).toNat)
    case atStart => exact ⟨0, Nat.zero_le _, rfl, Lib.hid (by simp), 0, rfl⟩
    case round =>
      obtain ⟨k, hk, rfl, HT, n, rfl⟩ := hrel
      by_cases hlt : k < a.length
      · have hlt2 : k < b.length := by have := HL.out; omega
        obtain ⟨aa, rfl, haa, c0⟩ := byte_at HA.out.1 hlt
        obtain ⟨bb, rfl, hbb, c1⟩ := byte_at HA.out.2 hlt2
        have i1 : (0 : Int) ≤ (k : Int) := by omega
        have i2 : (k : Int) < (a.length : Int) := by omega
        have i3 : (k : Int) < (b.length : Int) := by omega
        have HN := Lib.hid (ne_at hlt hlt2)
        have HY := Lib.hid (take_at hlt hlt2 HT.out)
        generalize a[k] = x at c0 HN HY
        generalize b[k] = y at c1 HN HY
        by_cases hxy : x = y
        · have hne : ((x : Int) != (y : Int)) = false := by simp [hxy]
          have E := Lib.hid (HY.out hxy)
          clear HN HY hxy
          go_wp2_with fail
          go_quiet (fail)
          go_wp2
          go_roundw
          case rel => exact ⟨k + 1, by omega, by go_num, E, _, rfl⟩
          case measure => simp [intOf]; omega
        · have hne : ((x : Int) != (y : Int)) = true := by simp; omega
          have E : Hid (decide (a = b) = false) := Lib.hid (by simp [HN.out hxy])
          clear HN HY hxy
          go_wp2_with fail
          go_quiet (fail)
          go_wp2
          go_ret
          exact ⟨ret_bool E.out.symm, below_drewN (below_drewN (Below.refl _ _) _) _⟩
      · obtain rfl : k = a.length := by omega
        have E : Hid (decide (a = b) = true) := Lib.hid (by
          have h := HT.out
          rw [List.take_of_length_le (Nat.le_refl _), List.take_of_length_le (by have := HL.out; omega)] at h
          simp [h])
        have i2 : ¬ ((a.length : Int) < (a.length : Int)) := by omega
        go_wp2
        go_ret
        exact ⟨ret_bool E.out.symm, below_drewN (Below.refl _ _) _⟩
  · have hl : ((a.length : Int) != (b.length : Int)) = true := by simp; omega
    have E : Hid (decide (a = b) = false) := Lib.hid (by simp; intro e; exact hlen (by rw [e]))
    clear ha hb hlen
    go_enter Tryz.func56, Tryz.ntmps56
    go_wp2
    go_ret
    exact ⟨ret_bool E.out.symm, Below.refl _ _⟩
theorem ref_at2 {w : World} {B k : Nat} {A : Option Addr} {l : List (Int × Int)} (h : Reads w B 2 A l.length (l.flatMap rrow)) (hk : k < l.length) : ∃ ad, A = some ad ∧ ad.block < B ∧ w.cell? (ad.add (k * 2)) = some (.int .i64 (l[k]).1) ∧ w.cell? (ad.add (k * 2 + 1)) = some (.int .u32 (l[k]).2) ∧ w.cell? ⟨ad.block, (ad.add (k * 2)).off + 1, none⟩ = some (.int .u32 (l[k]).2) ∧ w.cell? ((ad.add (k * 2)).add 1) = some (.int .u32 (l[k]).2) ∧ w.cell? ⟨(ad.add (k * 2)).block, (ad.add (k * 2)).off + 1, none⟩ = some (.int .u32 (l[k]).2) := by
  obtain ⟨ad, e, hb, c1, c2⟩ := ref_at h hk
  have e1 : (ad.add (k * 2)).add 1 = ad.add (k * 2 + 1) := by
    simp [Addr.add]
    split <;> simp_all <;> omega
  have e2 : (⟨(ad.add (k * 2)).block, (ad.add (k * 2)).off + 1, none⟩ : Addr) = ad.add (k * 2 + 1) := by
    simp [Addr.add]
    split <;> simp_all <;> omega
  have e3 : (⟨ad.block, (ad.add (k * 2)).off + 1, none⟩ : Addr) = ad.add (k * 2 + 1) := by
    rw [← e2, block_of_add]
  exact ⟨ad, e, hb, c1, c2, by rw [e3]; exact c2, by rw [e1]; exact c2, by rw [e2]; exact c2⟩
set_option maxHeartbeats 1600000 in
theorem SameRefs_n (a b : List (Int × Int)) (A B : Option Addr) (ca cb : Nat) (w : World) (ha : Reads w w.heap.size 2 A a.length (a.flatMap rrow)) (hb : Reads w w.heap.size 2 B b.length (b.flatMap rrow)) (hla : a.length ≤ 9223372036854775807) :
    Calls Tryz.prog 57 #[.slice A a.length ca, .slice B b.length cb] w (BoolEnd (decide (a = b)) w) := by
  by_cases hlen : a.length = b.length
  · have HA := Lib.hid (And.intro ha hb)
    have HL := Lib.hid hlen
    have hl : ((a.length : Int) != (b.length : Int)) = false := by simp [hlen]
    clear ha hb hlen
    go_enter Tryz.func57, Tryz.ntmps57
    go_wp2_with fail
    go_loopw [5] (fun i wr => ∃ k : Nat, k ≤ a.length ∧ i = .int .i64 k ∧ Hid (a.take k = b.take k) ∧ ∃ n, wr = w.drewN n) (fun i _ => a.length - (intOf i).toNat)
    case atStart => exact ⟨0, Nat.zero_le _, rfl, Lib.hid (by simp), 0, rfl⟩
    case round =>
      obtain ⟨k, hk, rfl, HT, n, rfl⟩ := hrel
      by_cases hlt : k < a.length
      · have hlt2 : k < b.length := by have := HL.out; omega
        obtain ⟨aa, rfl, haa, c0, c0a, c0b, c0c, c0d⟩ := ref_at2 HA.out.1 hlt
        obtain ⟨bb, rfl, hbb, c1, c1a, c1b, c1c, c1d⟩ := ref_at2 HA.out.2 hlt2
        have i1 : (0 : Int) ≤ (k : Int) := by omega
        have i2 : (k : Int) < (a.length : Int) := by omega
        have i3 : (k : Int) < (b.length : Int) := by omega
        have HN := Lib.hid (ne_at hlt hlt2)
        have HY := Lib.hid (take_at hlt hlt2 HT.out)
        generalize a[k] = x at c0 c0a c0b c0c c0d HN HY
        generalize b[k] = y at c1 c1a c1b c1c c1d HN HY
        obtain ⟨x1, x2⟩ := x
        obtain ⟨y1, y2⟩ := y
        dsimp only at c0 c0a c0b c0c c0d c1 c1a c1b c1c c1d
        by_cases h1 : x1 = y1
        · have e1 : (x1 == y1) = true := by simp [h1]
          by_cases h2 : x2 = y2
          · have e2 : (x2 == y2) = true := by simp [h2]
            have E := Lib.hid (HY.out (by rw [h1, h2]))
            clear HN HY h1 h2
            go_wp2_with fail
            go_quiet (fail)
            go_wp2
            go_roundw
            case rel => exact ⟨k + 1, by omega, by go_num, E, _, rfl⟩
            case measure => simp [intOf]; omega
          · have e2 : (x2 == y2) = false := by simp [h2]
            have E : Hid (decide (a = b) = false) := Lib.hid (by simp [HN.out (fun e => h2 (by cases e; rfl))])
            clear HN HY h1 h2
            go_wp2_with fail
            go_quiet (fail)
            go_wp2
            go_ret
            exact ⟨ret_bool E.out.symm, below_drewN (below_drewN (Below.refl _ _) _) _⟩
        · have e1 : (x1 == y1) = false := by simp [h1]
          have E : Hid (decide (a = b) = false) := Lib.hid (by simp [HN.out (fun e => h1 (by cases e; rfl))])
          clear HN HY h1
          go_wp2_with fail
          go_quiet (fail)
          go_wp2
          go_ret
          exact ⟨ret_bool E.out.symm, below_drewN (below_drewN (Below.refl _ _) _) _⟩
      · obtain rfl : k = a.length := by omega
        have E : Hid (decide (a = b) = true) := Lib.hid (by
          have h := HT.out
          rw [List.take_of_length_le (Nat.le_refl _), List.take_of_length_le (by have := HL.out; omega)] at h
          simp [h])
        have i2 : ¬ ((a.length : Int) < (a.length : Int)) := by omega
        go_wp2
        go_ret
        exact ⟨ret_bool E.out.symm, below_drewN (Below.refl _ _) _⟩
  · have hl : ((a.length : Int) != (b.length : Int)) = true := by simp; omega
    have E : Hid (decide (a = b) = false) := Lib.hid (by simp; intro e; exact hlen (by rw [e]))
    clear ha hb hlen
    go_enter Tryz.func57, Tryz.ntmps57
    go_wp2
    go_ret
    exact ⟨ret_bool E.out.symm, Below.refl _ _⟩
end Go.Proofs.YtgjgcbemgmkncaaGreatDoor
namespace Go.Proofs.YtgjgcbemgmkncaaGreatDoor
open Go.RowKit Go.Shelf
set_option linter.unusedVariables false
set_option maxRecDepth 20000
set_option linter.unusedSimpArgs false

def sameN (x y : Nd) : Bool := (x.kind == y.kind) && (x.code.toList == y.code.toList) && (x.value.toList == y.value.toList) && (x.path.toList == y.path.toList) && decide (x.bytes = y.bytes) && decide (x.kids = y.kids)
theorem sameN_refl (x : Nd) : sameN x x = true := by simp [sameN]
set_option maxHeartbeats 1600000 in
theorem SameNode_n (x y : Nd) (V U : Value) (w : World) (h : NdAt w x V) (h' : NdAt w y U) : Calls Tryz.prog 36 #[V, U] w (BoolEnd (sameN x y) w) := by
  obtain ⟨hwf, Ab, cb, Ak, ck, rfl, hb, hk⟩ := h
  obtain ⟨hwf', Bb, db, Bk, dk, rfl, hb', hk'⟩ := h'
  have b2 : Below w.heap.size w ((w.alloc (.cells #[.int .i64 x.kind, .string x.code, .string x.value, .string x.path, .slice Ab x.bytes.length cb, .slice Ak x.kids.length ck] 26)).alloc (.cells #[.int .i64 y.kind, .string y.code, .string y.value, .string y.path, .slice Bb y.bytes.length db, .slice Bk y.kids.length dk] 26)) := ((Below.refl _ w).alloc (Nat.le_refl _) _).alloc (by simp) _
  have q1 := (Blk.new w 26 #[.int .i64 x.kind, .string x.code, .string x.value, .string x.path, .slice Ab x.bytes.length cb, .slice Ak x.kids.length ck]).alloc (.cells #[.int .i64 y.kind, .string y.code, .string y.value, .string y.path, .slice Bb y.bytes.length db, .slice Bk y.kids.length dk] 26)
  have q2 := Blk.new (w.alloc (.cells #[.int .i64 x.kind, .string x.code, .string x.value, .string x.path, .slice Ab x.bytes.length cb, .slice Ak x.kids.length ck] 26)) 26 #[.int .i64 y.kind, .string y.code, .string y.value, .string y.path, .slice Bb y.bytes.length db, .slice Bk y.kids.length dk]
  rw [World.size_alloc] at q2
  have HB := Lib.hid (SameBytes_n x.bytes y.bytes Ab Bb cb db ((w.alloc (.cells #[.int .i64 x.kind, .string x.code, .string x.value, .string x.path, .slice Ab x.bytes.length cb, .slice Ak x.kids.length ck] 26)).alloc (.cells #[.int .i64 y.kind, .string y.code, .string y.value, .string y.path, .slice Bb y.bytes.length db, .slice Bk y.kids.length dk] 26)) ((hb.below b2).more b2.size) ((hb'.below b2).more b2.size) hwf.lb)
  have HQ := Lib.hid (And.intro b2 (And.intro q1 (And.intro q2 (And.intro hk (And.intro hk' hwf.lk)))))
  clear hb hk hb' hk' hwf hwf' b2 q1 q2
  unfold Nd.v
  obtain ⟨s0, hs0⟩ : ∃ s, s = sameN x y := ⟨_, rfl⟩
  rw [← hs0]
  have HS := Lib.hid hs0
  clear hs0
  cases e0 : (x.kind == y.kind) with
  | false =>
    go_enter Tryz.func36, Tryz.ntmps36
    go_wp2
    go_ret
    exact ⟨ret_bool (by rw [HS.out]; simp [sameN, *]), HQ.out.1⟩
  | true =>
    cases e1 : (x.code.toList == y.code.toList) with
    | false =>
      go_enter Tryz.func36, Tryz.ntmps36
      go_wp2
      go_ret
      exact ⟨ret_bool (by rw [HS.out]; simp [sameN, *]), HQ.out.1⟩
    | true =>
      cases e2 : (x.value.toList == y.value.toList) with
      | false =>
        go_enter Tryz.func36, Tryz.ntmps36
        go_wp2
        go_ret
        exact ⟨ret_bool (by rw [HS.out]; simp [sameN, *]), HQ.out.1⟩
      | true =>
        cases e3 : (x.path.toList == y.path.toList) with
        | false =>
          go_enter Tryz.func36, Tryz.ntmps36
          go_wp2
          go_ret
          exact ⟨ret_bool (by rw [HS.out]; simp [sameN, *]), HQ.out.1⟩
        | true =>
          have E : Hid (s0 = (decide (x.bytes = y.bytes) && decide (x.kids = y.kids))) := Lib.hid (by rw [HS.out]; simp only [sameN, e0, e1, e2, e3, Bool.true_and])
          clear HS
          obtain ⟨sb, hsb⟩ : ∃ s, s = decide (x.bytes = y.bytes) := ⟨_, rfl⟩
          rw [← hsb] at HB E
          clear hsb
          go_enter Tryz.func36, Tryz.ntmps36
          go_wp2_with fail
          refine HB.out.mono ?_
          rintro e w1 ⟨rfl, hb1⟩
          have hbw := HQ.out.1.trans (hb1.mono HQ.out.1.size)
          have HW := Lib.hid hbw
          have HK := Lib.hid (SameRefs_n x.kids y.kids Ak Bk ck dk w1 ((HQ.out.2.2.2.1.below hbw).more hbw.size) ((HQ.out.2.2.2.2.1.below hbw).more hbw.size) HQ.out.2.2.2.2.2)
          obtain ⟨c0, c1, c2, c3, c4, c5⟩ := cells6 (HQ.out.2.1.below hb1 (by simp; omega))
          obtain ⟨d0, d1, d2, d3, d4, d5⟩ := cells6 (HQ.out.2.2.1.below hb1 (by simp))
          clear HB HQ hb1 hbw
          cases sb with
          | false =>
            go_wp2
            go_ret
            exact ⟨ret_bool (by rw [E.out]; rfl), HW.out⟩
          | true =>
            go_wp2_with fail
            refine HK.out.mono ?_
            rintro e w2 ⟨rfl, hb2⟩
            have HE := Lib.hid (HW.out.trans (hb2.mono HW.out.size))
            clear HK HW hb2
            go_wp2
            go_ret
            exact ⟨ret_bool (by rw [E.out]; simp), HE.out⟩
end Go.Proofs.YtgjgcbemgmkncaaGreatDoor
