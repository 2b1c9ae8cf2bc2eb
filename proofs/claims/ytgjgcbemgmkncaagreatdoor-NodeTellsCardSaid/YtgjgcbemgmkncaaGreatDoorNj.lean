/-
  Package node: Rest.
  The law of layer 9: tells is true of every node.
  The law of layer 9: tells is true of every node.
  burgagekit on nodes: LentNode.
  burgagekit on nodes: KeptNode, OverNode.
  burgagekit on nodes: OverNode.
  The law of layer 9: the world in which turns works (no walk).
  The reference of layer 9: Cut.
  The reference of layer 9: Add.
-/
import Derived.Test.YtgjgcbemgmkncaaGreatDoorNh
import Derived.Test.YtgjgcbemgmkncaaGreatDoorNe
import Derived.Test.YtgjgcbemgmkncaaGreatDoorNi
import Derived.Test.YtgjgcbemgmkncaaGreatDoorNf
namespace Go.Proofs.YtgjgcbemgmkncaaGreatDoor
open Go.RowKit Go.Shelf
set_option linter.unusedVariables false
set_option linter.unusedSimpArgs false

set_option maxHeartbeats 6400000 in
set_option maxRecDepth 100000 in
theorem Rest_n (x : Nd) (V : Value) (b : Nat) (w : World) (h : NdAt w x V) (hr : RoomsAt w) (hb256 : b < 256) : Calls Tryz.prog 28 #[V, .int .u8 (b : Int)] w (ThreeEnd (.int .u8 (restN x b).1) (refV (restN x b).2.1) (.bool (restN x b).2.2) w) := by
  obtain ⟨hwf, Ab, cb, Ak, ck, rfl, hb0, hk0⟩ := h
  have H0 := Lib.hid (FiW.start (w := w) (x := x) (Ab := Ab) (cb := cb) (Ak := Ak) (ck := ck) ⟨hwf, Ab, cb, Ak, ck, rfl, hb0, hk0⟩)
  have HR := Lib.hid (And.intro hb0 (And.intro hk0 hwf))
  clear hwf hb0 hk0
  unfold Nd.v
  obtain ⟨o, ho⟩ : ∃ o, o = restN x b := ⟨_, rfl⟩
  rw [← ho]
  have HO := Lib.hid ho
  clear ho
  have hf := Find_n x _ b _ H0.out.node (hr.on H0.out.below) hb256
  have HFI : Hid (findN x b = findN x b) := Lib.hid rfl
  obtain ⟨q, hq⟩ : ∃ q, q = findN x b := ⟨_, rfl⟩
  rw [← hq] at hf
  have HQ := Lib.hid hq
  clear hq HFI
  unfold optV refV at hf
  have HF0 := Lib.hid hf
  clear hf
  go_enter Tryz.func28, Tryz.ntmps28
  refine wp_seq_k fun K0 hK => ?_
  have HK0 := Lib.hid hK
  clear hK
  go_wp2_with fail
  refine HK0.out _ _ ?_
  clear HK0
  refine wp_seq_k fun K2 hK => ?_
  have HK2 := Lib.hid hK
  clear hK
  refine wp_seq_k fun K1 hK => ?_
  have HK1 := Lib.hid hK
  clear hK
  obtain ⟨e0, e1, e2, e3, e4, e5⟩ := cells6 H0.out.box
  go_wp2_with fail
  refine HF0.out.mono ?_
  rintro e w0 ⟨rfl, hb⟩
  have S1 := Lib.hid ((H0.out.on hb).on (below_box w0 (.cells #[.int .i64 (q.getD (0, 0)).1, .int .u32 (q.getD (0, 0)).2] 29)))
  clear hb H0 HF0 e0 e1 e2 e3 e4 e5
  go_wp2_with fail
  refine HK1.out _ _ ?_
  clear HK1
  generalize w0.alloc _ = w1 at S1 ⊢
  obtain ⟨e0, e1, e2, e3, e4, e5⟩ := cells6 S1.out.box
  cases q with
  | none =>
    have E : Hid (o = (0, ((0, 0), false))) := Lib.hid (by rw [HO.out]; unfold restN; rw [if_neg (by rw [← HQ.out]; simp)])
    simp only [Option.getD_none, Option.isSome_none]
    obtain ⟨d0, d1⟩ : w1.cell? ⟨w.heap.size + 1, 0, none⟩ = some (.int .i64 0) ∧ w1.cell? ⟨w.heap.size + 1, 1, none⟩ = some (.int .u32 0) := ⟨S1.out.out.cell 0, S1.out.out.cell 1⟩
    have fz0 := S1.out.out.frozen 0
    have fz1 := S1.out.out.frozen 1
    have l6 := S1.out.out.lt
    obtain ⟨VV, hV, hg, q6⟩ := two_stores (.int .i64 0) (.int .u32 0) S1.out.out
    have HF := Lib.hid (S1.out.below.grown hg S1.out.below.size (fun k e => by injection e with e; omega))
    go_wp2
    rw [← hV]
    clear hV d0 d1 fz0 fz1 l6
    have c0 := q6.cell 0
    have c1 := q6.cell 1
    simp at c0 c1
    exact bodyPost_ret (v := .tuple #[.int .u8 0, .agg #[.int .i64 0, .int .u32 0], .bool false]) (by simp [results, Tryz.results28, go_sem, c0, c1]) rfl ⟨by rw [E.out], HF.out⟩
  | some r0 =>
    simp only [Option.getD_some, Option.isSome_some]
    by_cases hl : x.kids.length = 2
    · have hmay := find_may (x := x) (b := b) (by rw [← HQ.out]; rfl)
      have hlb : x.bytes.length = x.kids.length := (inner_parts (may_inner hmay)).2.2.2.2.1
      have hl2 : ((x.kids.length : Int) != 2) = false := by simp; omega
      have hl3 : (x.kids.length : Int) = 2 := by omega
      obtain ⟨ad, rfl, hab, by0⟩ := byte_at HR.out.1 (k := 0) (by omega)
      obtain ⟨ad2, he, _, by1⟩ := byte_at HR.out.1 (k := 1) (by omega)
      obtain rfl : ad = ad2 := by injection he
      obtain ⟨kd, rfl, hkb, c0, c0a, c0b, c0c, c0d⟩ := ref_at2 HR.out.2.1 (k := 0) (by omega)
      obtain ⟨kd2, he2, _, c1, c1a, c1b, c1c, c1d⟩ := ref_at2 HR.out.2.1 (k := 1) (by omega)
      obtain rfl : kd = kd2 := by injection he2
      clear he he2
      have hp01 : x.bytes[0]'(by omega) < x.bytes[1]'(by omega) := (rising_iff _).1 (inner_parts (may_inner hmay)).2.2.2.2.2.2.1 0 (by omega)
      have i0 : (0 : Int) < (x.bytes.length : Int) := by omega
      have i1 : (1 : Int) < (x.bytes.length : Int) := by omega
      have i2 : (0 : Int) < (x.kids.length : Int) := by omega
      have i3 : (1 : Int) < (x.kids.length : Int) := by omega
      have E0 : Hid (o = if x.bytes[0]'(by omega) = b then ((x.bytes[1]'(by omega) : Int), (x.kids[1]'(by omega), true)) else ((x.bytes[0]'(by omega) : Int), (x.kids[0]'(by omega), true))) := Lib.hid (by
        rw [HO.out]; unfold restN
        rw [if_pos ⟨by rw [← HQ.out]; rfl, hl⟩]
        simp only [List.getD_eq_getElem?_getD, List.getElem?_eq_getElem (show 0 < x.bytes.length by omega), List.getElem?_eq_getElem (show 1 < x.bytes.length by omega), List.getElem?_eq_getElem (show 0 < x.kids.length by omega), List.getElem?_eq_getElem (show 1 < x.kids.length by omega), Option.getD_some])
      generalize x.bytes[0]'(by omega) = p0 at by0 E0 hp01
      generalize x.bytes[1]'(by omega) = p1 at by1 E0 hp01
      generalize x.kids[0]'(by omega) = k0 at c0 c0a c0b c0c c0d E0
      generalize x.kids[1]'(by omega) = k1 at c1 c1a c1b c1c c1d E0
      obtain ⟨k01, k02⟩ := k0
      obtain ⟨k11, k12⟩ := k1
      dsimp only at c0 c0d c1 c1d
      clear c0a c0b c0c c1a c1b c1c hlb hmay
      have HLB : Hid (ad.block < w.heap.size ∧ kd.block < w.heap.size) := Lib.hid ⟨hab, hkb⟩
      have b0' : w1.cell? (ad.add 0) = some (.int .u8 (p0 : Int)) := (S1.out.below.cell (p := ad.add 0) (by rw [block_of_add]; exact hab)).trans by0
      have b0'' : w1.cell? ad = some (.int .u8 (p0 : Int)) := b0'
      have b1' : w1.cell? ⟨ad.block, ad.off + 1, none⟩ = some (.int .u8 (p1 : Int)) := (S1.out.below.cell (p := ⟨ad.block, ad.off + 1, none⟩) hab).trans by1
      have k0' : w1.cell? kd = some (.int .i64 k01) := (S1.out.below.cell (p := kd) hkb).trans c0
      have k0'' : w1.cell? ⟨kd.block, kd.off + 1, none⟩ = some (.int .u32 k02) := (S1.out.below.cell (p := ⟨kd.block, kd.off + 1, none⟩) hkb).trans c0d
      have k1' : w1.cell? ⟨kd.block, kd.off + 2, none⟩ = some (.int .i64 k11) := (S1.out.below.cell (p := ⟨kd.block, kd.off + 2, none⟩) hkb).trans c1
      have k1'' : w1.cell? ⟨kd.block, kd.off + 2 + 1, none⟩ = some (.int .u32 k12) := (S1.out.below.cell (p := ⟨kd.block, kd.off + 2 + 1, none⟩) hkb).trans c1d
      have n0 : 0 < x.bytes.length := by omega
      have n1 : 1 < x.bytes.length := by omega
      have n2 : 0 < x.kids.length := by omega
      have n3 : 1 < x.kids.length := by omega
      clear c0 c0d c1 c1d by0 by1
      have hlen := hl
      go_wp2_with fail
      refine HK2.out _ _ ?_
      clear HK2
      refine wp_seq_k fun K3 hK => ?_
      have HK3 := Lib.hid hK
      clear hK
      clear hl hlen
      have HE0 := E0
      go_wp2_with fail
      go_loopw [29] (fun i wr => ∃ k : Nat, k ≤ 1 ∧ i = .int .i64 k ∧ Hid (wr = w1 ∧ (k = 1 → p0 = b))) (fun i _ => 2 - (intOf i).toNat)
      case atStart => exact ⟨0, by omega, rfl, Lib.hid ⟨rfl, fun h => by omega⟩⟩
      case round =>
        obtain ⟨k, hk, rfl, HW⟩ := hrel
        obtain rfl := HW.out.1
        by_cases hk0 : k = 0
        · subst hk0
          by_cases hpb : p0 = b
          · have hne : ((p0 : Int) != (b : Int)) = false := by simp [hpb]
            have HN : Hid (wr = wr ∧ (1 = 1 → p0 = b)) := Lib.hid ⟨rfl, fun _ => hpb⟩
            clear hpb HW
            go_wp2
            go_roundw
            case rel => exact ⟨1, by omega, by go_num, Lib.hid ⟨trivial, HN.out.2⟩⟩
            case measure => simp [intOf]
          · have E : Hid (o = ((p0 : Int), ((k01, k02), true))) := Lib.hid (by rw [E0.out, if_neg hpb])
            have hne : ((p0 : Int) != (b : Int)) = true := by simp; omega
            clear hpb HW
            go_wp2_with fail
            obtain ⟨d0, d1⟩ : wr.cell? ⟨w.heap.size + 1, 0, none⟩ = some (.int .i64 0) ∧ wr.cell? ⟨w.heap.size + 1, 1, none⟩ = some (.int .u32 0) := ⟨S1.out.out.cell 0, S1.out.out.cell 1⟩
            have fz0 := S1.out.out.frozen 0
            have fz1 := S1.out.out.frozen 1
            have l6 := S1.out.out.lt
            obtain ⟨VV, hV, hg, q6⟩ := two_stores (.int .i64 k01) (.int .u32 k02) S1.out.out
            have HF := Lib.hid (S1.out.below.grown hg S1.out.below.size (fun k e => by injection e with e; omega))
            refine wp_region_held_drew (S := (fun V : World => V.cell? ⟨w.heap.size, 5, none⟩ = some (.slice (some kd) x.kids.length ck) ∧ V.cell? (kd) = some (.int .i64 k01) ∧ V.cell? ⟨kd.block, kd.off + 1, none⟩ = some (.int .u32 k02))) (by kernel_rfl) ?_ (fun hHeld0 => ?_)
            · exact ⟨e5, k0', k0''⟩
            refine wpAnyH_take (i := 0) (v := ?_) rfl (by kernel_rfl) (by kernel_rfl) (by kernel_rfl) (fun _ _ _ h => h) (Or.inl ⟨by rfl, ?_⟩) hHeld0 ?_
            rotate_left
            · (intro w hSw; (try dsimp only at hSw); go_simp <;> with_reducible rfl)
            try simp only [Act.put, List.setIfInBounds_toArray, List.set_cons_zero, List.set_cons_succ]
            refine wpAnyH_take (i := 1) (v := ?_) rfl (by kernel_rfl) (by kernel_rfl) (by kernel_rfl) (fun _ _ _ h => h) (Or.inl ⟨by rfl, ?_⟩) hHeld0 ?_
            rotate_left
            · (intro w hSw; (try dsimp only at hSw); go_simp <;> with_reducible rfl)
            try simp only [Act.put, List.setIfInBounds_toArray, List.set_cons_zero, List.set_cons_succ]
            refine wpAnyH_take (i := 2) (v := ?_) rfl (by kernel_rfl) (by kernel_rfl) (by kernel_rfl) (fun _ _ _ h => h) (Or.inl ⟨by rfl, ?_⟩) hHeld0 ?_
            rotate_left
            · (intro w hSw; (try dsimp only at hSw); go_simp <;> with_reducible rfl)
            try simp only [Act.put, List.setIfInBounds_toArray, List.set_cons_zero, List.set_cons_succ]
            refine wpAnyH_take (i := 3) (v := ?_) rfl (by kernel_rfl) (by kernel_rfl) (by kernel_rfl) (fun _ _ _ h => h) (Or.inl ⟨by rfl, ?_⟩) hHeld0 ?_
            rotate_left
            · (intro w hSw; (try dsimp only at hSw); go_simp <;> with_reducible rfl)
            try simp only [Act.put, List.setIfInBounds_toArray, List.set_cons_zero, List.set_cons_succ]
            refine wpAnyH_take (i := 4) (v := ?_) rfl (by kernel_rfl) (by kernel_rfl) (by kernel_rfl) (fun _ _ _ h => h) (Or.inl ⟨by rfl, ?_⟩) hHeld0 ?_
            rotate_left
            · (intro w hSw; (try dsimp only at hSw); go_simp <;> with_reducible rfl)
            try simp only [Act.put, List.setIfInBounds_toArray, List.set_cons_zero, List.set_cons_succ]
            refine wpAnyH_take (i := 5) (v := ?_) rfl (by kernel_rfl) (by kernel_rfl) (by kernel_rfl) (fun _ _ _ h => h) (Or.inl ⟨by rfl, ?_⟩) hHeld0 ?_
            rotate_left
            · (intro w hSw; (try dsimp only at hSw); go_simp <;> with_reducible rfl)
            try simp only [Act.put, List.setIfInBounds_toArray, List.set_cons_zero, List.set_cons_succ]
            refine wpAnyH_take (i := 6) (v := ?_) rfl (by kernel_rfl) (by kernel_rfl) (by kernel_rfl) (fun _ _ _ h => h) (Or.inl ⟨by rfl, ?_⟩) hHeld0 ?_
            rotate_left
            · (intro w hSw; (try dsimp only at hSw); go_simp <;> with_reducible rfl)
            try simp only [Act.put, List.setIfInBounds_toArray, List.set_cons_zero, List.set_cons_succ]
            try simp only [Act.put, List.getElem_toArray, List.getElem_cons_succ, List.getElem_cons_zero, List.setIfInBounds_toArray, List.set_cons_zero, List.set_cons_succ]
            refine wpAnyH_ready (rs := [7]) (by kernel_rfl) (by simp) ?_
            refine AllReadyH.cons rfl (fun K hK => ?_) ?_
            · go_simp
              rw [← hV]
              clear hV d0 d1 fz0 fz1 l6
              refine hK.out _ _ ?_ (fun hHeld1 => ?_)
              · exact ⟨(World.cell?_of_block (hg.block _ (Nat.lt_trans (Nat.lt_succ_self _) S1.out.out.lt) (fun e => by injection e with e; exact absurd e (Nat.ne_of_lt (Nat.lt_succ_self w.heap.size))))).trans e5, (World.cell?_of_block (hg.block _ (by show kd.block < _; have := S1.out.out.lt; have := HLB.out; omega) (fun e => by injection e with e; have e : kd.block = w.heap.size + 1 := e; have := HLB.out; omega))).trans k0', (World.cell?_of_block (hg.block _ (by show kd.block < _; have := S1.out.out.lt; have := HLB.out; omega) (fun e => by injection e with e; have e : kd.block = w.heap.size + 1 := e; have := HLB.out; omega))).trans k0''⟩
              clear hK K hHeld0
              try simp only [Act.put, List.setIfInBounds_toArray, List.set_cons_zero, List.set_cons_succ]
              refine wpAnyH_take (i := 8) (v := ?_) rfl (by kernel_rfl) (by kernel_rfl) (by kernel_rfl) (fun _ _ _ h => h) (Or.inl ⟨by rfl, ?_⟩) hHeld1 ?_
              rotate_left
              · (intro w hSw; (try dsimp only at hSw); go_simp <;> with_reducible rfl)
              try simp only [Act.put, List.setIfInBounds_toArray, List.set_cons_zero, List.set_cons_succ]
              try simp only [Act.put, List.getElem_toArray, List.getElem_cons_succ, List.getElem_cons_zero, List.setIfInBounds_toArray, List.set_cons_zero, List.set_cons_succ]
              refine wpAnyH_done (by kernel_rfl) ?_ _
              refine (‹∀ (a : Act) (w : World), Code.wp Tryz.prog _ _ a w → _› _ _ ?_)
              go_wp2
              have c0 := q6.cell 0
              have c1 := q6.cell 1
              simp at c0 c1
              exact bodyPost_ret (v := .tuple #[.int .u8 (p0 : Int), .agg #[.int .i64 k01, .int .u32 k02], .bool true]) (by simp [results, Tryz.results28, go_sem, c0, c1]) rfl ⟨by rw [E.out], HF.out.drew⟩
            exact AllReadyH.nil
        · obtain rfl : k = 1 := by omega
          have hpb := HW.out.2 rfl
          have E : Hid (o = ((p1 : Int), ((k11, k12), true))) := Lib.hid (by rw [E0.out, if_pos hpb])
          have hne : ((p1 : Int) != (b : Int)) = true := by have := hp01; simp; omega
          clear hpb HW hp01
          go_wp2_with fail
          obtain ⟨d0, d1⟩ : wr.cell? ⟨w.heap.size + 1, 0, none⟩ = some (.int .i64 0) ∧ wr.cell? ⟨w.heap.size + 1, 1, none⟩ = some (.int .u32 0) := ⟨S1.out.out.cell 0, S1.out.out.cell 1⟩
          have fz0 := S1.out.out.frozen 0
          have fz1 := S1.out.out.frozen 1
          have l6 := S1.out.out.lt
          obtain ⟨VV, hV, hg, q6⟩ := two_stores (.int .i64 k11) (.int .u32 k12) S1.out.out
          have HF := Lib.hid (S1.out.below.grown hg S1.out.below.size (fun k e => by injection e with e; omega))
          refine wp_region_held_drew (S := (fun V : World => V.cell? ⟨w.heap.size, 5, none⟩ = some (.slice (some kd) x.kids.length ck) ∧ V.cell? (⟨kd.block, kd.off + 2, none⟩) = some (.int .i64 k11) ∧ V.cell? ⟨kd.block, kd.off + 2 + 1, none⟩ = some (.int .u32 k12))) (by kernel_rfl) ?_ (fun hHeld0 => ?_)
          · exact ⟨e5, k1', k1''⟩
          refine wpAnyH_take (i := 0) (v := ?_) rfl (by kernel_rfl) (by kernel_rfl) (by kernel_rfl) (fun _ _ _ h => h) (Or.inl ⟨by rfl, ?_⟩) hHeld0 ?_
          rotate_left
          · (intro w hSw; (try dsimp only at hSw); go_simp <;> with_reducible rfl)
          try simp only [Act.put, List.setIfInBounds_toArray, List.set_cons_zero, List.set_cons_succ]
          refine wpAnyH_take (i := 1) (v := ?_) rfl (by kernel_rfl) (by kernel_rfl) (by kernel_rfl) (fun _ _ _ h => h) (Or.inl ⟨by rfl, ?_⟩) hHeld0 ?_
          rotate_left
          · (intro w hSw; (try dsimp only at hSw); go_simp <;> with_reducible rfl)
          try simp only [Act.put, List.setIfInBounds_toArray, List.set_cons_zero, List.set_cons_succ]
          refine wpAnyH_take (i := 2) (v := ?_) rfl (by kernel_rfl) (by kernel_rfl) (by kernel_rfl) (fun _ _ _ h => h) (Or.inl ⟨by rfl, ?_⟩) hHeld0 ?_
          rotate_left
          · (intro w hSw; (try dsimp only at hSw); go_simp <;> with_reducible rfl)
          try simp only [Act.put, List.setIfInBounds_toArray, List.set_cons_zero, List.set_cons_succ]
          refine wpAnyH_take (i := 3) (v := ?_) rfl (by kernel_rfl) (by kernel_rfl) (by kernel_rfl) (fun _ _ _ h => h) (Or.inl ⟨by rfl, ?_⟩) hHeld0 ?_
          rotate_left
          · (intro w hSw; (try dsimp only at hSw); go_simp <;> with_reducible rfl)
          try simp only [Act.put, List.setIfInBounds_toArray, List.set_cons_zero, List.set_cons_succ]
          refine wpAnyH_take (i := 4) (v := ?_) rfl (by kernel_rfl) (by kernel_rfl) (by kernel_rfl) (fun _ _ _ h => h) (Or.inl ⟨by rfl, ?_⟩) hHeld0 ?_
          rotate_left
          · (intro w hSw; (try dsimp only at hSw); go_simp <;> with_reducible rfl)
          try simp only [Act.put, List.setIfInBounds_toArray, List.set_cons_zero, List.set_cons_succ]
          refine wpAnyH_take (i := 5) (v := ?_) rfl (by kernel_rfl) (by kernel_rfl) (by kernel_rfl) (fun _ _ _ h => h) (Or.inl ⟨by rfl, ?_⟩) hHeld0 ?_
          rotate_left
          · (intro w hSw; (try dsimp only at hSw); go_simp <;> with_reducible rfl)
          try simp only [Act.put, List.setIfInBounds_toArray, List.set_cons_zero, List.set_cons_succ]
          refine wpAnyH_take (i := 6) (v := ?_) rfl (by kernel_rfl) (by kernel_rfl) (by kernel_rfl) (fun _ _ _ h => h) (Or.inl ⟨by rfl, ?_⟩) hHeld0 ?_
          rotate_left
          · (intro w hSw; (try dsimp only at hSw); go_simp <;> with_reducible rfl)
          try simp only [Act.put, List.setIfInBounds_toArray, List.set_cons_zero, List.set_cons_succ]
          try simp only [Act.put, List.getElem_toArray, List.getElem_cons_succ, List.getElem_cons_zero, List.setIfInBounds_toArray, List.set_cons_zero, List.set_cons_succ]
          refine wpAnyH_ready (rs := [7]) (by kernel_rfl) (by simp) ?_
          refine AllReadyH.cons rfl (fun K hK => ?_) ?_
          · go_simp
            rw [← hV]
            clear hV d0 d1 fz0 fz1 l6
            refine hK.out _ _ ?_ (fun hHeld1 => ?_)
            · exact ⟨(World.cell?_of_block (hg.block _ (Nat.lt_trans (Nat.lt_succ_self _) S1.out.out.lt) (fun e => by injection e with e; exact absurd e (Nat.ne_of_lt (Nat.lt_succ_self w.heap.size))))).trans e5, (World.cell?_of_block (hg.block _ (by show kd.block < _; have := S1.out.out.lt; have := HLB.out; omega) (fun e => by injection e with e; have e : kd.block = w.heap.size + 1 := e; have := HLB.out; omega))).trans k1', (World.cell?_of_block (hg.block _ (by show kd.block < _; have := S1.out.out.lt; have := HLB.out; omega) (fun e => by injection e with e; have e : kd.block = w.heap.size + 1 := e; have := HLB.out; omega))).trans k1''⟩
            clear hK K hHeld0
            try simp only [Act.put, List.setIfInBounds_toArray, List.set_cons_zero, List.set_cons_succ]
            refine wpAnyH_take (i := 8) (v := ?_) rfl (by kernel_rfl) (by kernel_rfl) (by kernel_rfl) (fun _ _ _ h => h) (Or.inl ⟨by rfl, ?_⟩) hHeld1 ?_
            rotate_left
            · (intro w hSw; (try dsimp only at hSw); go_simp <;> with_reducible rfl)
            try simp only [Act.put, List.setIfInBounds_toArray, List.set_cons_zero, List.set_cons_succ]
            try simp only [Act.put, List.getElem_toArray, List.getElem_cons_succ, List.getElem_cons_zero, List.setIfInBounds_toArray, List.set_cons_zero, List.set_cons_succ]
            refine wpAnyH_done (by kernel_rfl) ?_ _
            refine (‹∀ (a : Act) (w : World), Code.wp Tryz.prog _ _ a w → _› _ _ ?_)
            go_wp2
            have c0 := q6.cell 0
            have c1 := q6.cell 1
            simp at c0 c1
            exact bodyPost_ret (v := .tuple #[.int .u8 (p1 : Int), .agg #[.int .i64 k11, .int .u32 k12], .bool true]) (by simp [results, Tryz.results28, go_sem, c0, c1]) rfl ⟨by rw [E.out], HF.out.drew⟩
          exact AllReadyH.nil
    · have E : Hid (o = (0, ((0, 0), false))) := Lib.hid (by rw [HO.out]; unfold restN; rw [if_neg (fun h => hl h.2)])
      have hl2 : ((x.kids.length : Int) != 2) = true := by simp; omega
      obtain ⟨d0, d1⟩ : w1.cell? ⟨w.heap.size + 1, 0, none⟩ = some (.int .i64 0) ∧ w1.cell? ⟨w.heap.size + 1, 1, none⟩ = some (.int .u32 0) := ⟨S1.out.out.cell 0, S1.out.out.cell 1⟩
      have fz0 := S1.out.out.frozen 0
      have fz1 := S1.out.out.frozen 1
      have l6 := S1.out.out.lt
      obtain ⟨VV, hV, hg, q6⟩ := two_stores (.int .i64 0) (.int .u32 0) S1.out.out
      have HF := Lib.hid (S1.out.below.grown hg S1.out.below.size (fun k e => by injection e with e; omega))
      go_wp2
      rw [← hV]
      clear hV d0 d1 fz0 fz1 l6
      have c0 := q6.cell 0
      have c1 := q6.cell 1
      simp at c0 c1
      exact bodyPost_ret (v := .tuple #[.int .u8 0, .agg #[.int .i64 0, .int .u32 0], .bool false]) (by simp [results, Tryz.results28, go_sem, c0, c1]) rfl ⟨by rw [E.out], HF.out⟩
end Go.Proofs.YtgjgcbemgmkncaaGreatDoor
namespace Go.Proofs.YtgjgcbemgmkncaaGreatDoor
open Go.RowKit Go.Shelf
set_option linter.unusedVariables false
set_option linter.unusedSimpArgs false

theorem MkW.add {w W : World} {lo : Nat} {bs : List (Nat × TypeId × Array Value)} (h : MkW w lo bs W) (t : TypeId) (cs : Array Value) : MkW w (W.heap.size + 1) ((W.heap.size, t, cs) :: bs) (W.alloc (.cells cs t)) := by
  have hb := below_box W (.cells cs t)
  refine ⟨h.below.trans (hb.mono h.below.size), by simp, by have := h.wlo; have := h.size; omega, fun p hp => ?_⟩
  rcases List.mem_cons.1 hp with rfl | hp
  · exact ⟨by dsimp only; omega, Blk.new _ _ _⟩
  · exact ⟨by have := (h.blk p hp).1; have := h.size; omega, (h.blk p hp).2.alloc _⟩
theorem MkW.get {w W : World} {lo : Nat} {bs : List (Nat × TypeId × Array Value)} (h : MkW w lo bs W) {g : Nat} {t : TypeId} {cs : Array Value} (hm : (g, t, cs) ∈ bs) : Blk W g t cs := (h.blk _ hm).2

set_option maxHeartbeats 6400000 in
set_option maxRecDepth 100000 in
theorem tells2 {u0 u4 u5 u6 u7 u8 u9 u10 u11 u12 u13 u14 u15 u16 u17 u18 u19 u20 u21 u22 u23 u24 u25 u26 u27 u28 u29 u30 u31 u32 u33 u34 u35 u36 u37 u38 u39 u40 u41 u42 u43 u44 u45 u46 u47 u48 u49 u50 u51 u52 u53 u54 u55 u56 u57 u58 u59 u60 u61 u62 u63 u64 u65 u66 u67 u68 u69 u70 u71 u72 u73 u74 u75 u76 u77 u78 u79 u80 u81 u82 u83 u84 u85 u86 u87 u88 u89 u90 u91 u92 u93 u94 u95 u96 u97 u98 u99 u100 u101 u102 u103 u104 u105 u106 u107 u108 u109 u110 u111 u112 u113 u114 u115 u116 u117 u118 u119 : Value} (x : Nd) (b : Nat) (c : Int) (w W : World) (g0 lo : Nat) (Ab : Option Addr) (cb : Nat) (Ak : Option Addr) (ck : Nat) (h : MkW w lo [(g0, 26, #[.int .i64 x.kind, .string x.code, .string x.value, .string x.path, .slice Ab x.bytes.length cb, .slice Ak x.kids.length ck])] W) (hn : ∀ W, Below w.heap.size w W → NdAt W x (.agg #[.int .i64 x.kind, .string x.code, .string x.value, .string x.path, .slice Ab x.bytes.length cb, .slice Ak x.kids.length ck]) ∧ RoomsAt W) (hb256 : b < 256) :
    Code.wp Tryz.prog (bodyTail Tryz.f9 2) (bodyPost Tryz.prog Tryz.f9 (BoolEnd true w)) ⟨#[u0, .int .u8 (b : Int), .int .i64 c, .pointer (some ⟨g0, 0, none⟩), u4, u5, u6, u7, u8, u9, u10, u11, u12, u13, u14, u15, u16, u17, u18, u19, u20, u21, u22, u23, u24, u25, u26, u27, u28, u29, u30, u31, u32, u33, u34, u35, u36, u37, u38, u39, u40, u41, u42, u43, u44, u45, u46, u47, u48, u49, u50, u51, u52, u53, u54, u55, u56, u57, u58, u59, u60, u61, u62, u63, u64, u65, u66, u67, u68, u69, u70, u71, u72, u73, u74, u75, u76, u77, u78, u79, u80, u81, u82, u83, u84, u85, u86, u87, u88, u89, u90, u91, u92, u93, u94, u95, u96, u97, u98, u99, u100, u101, u102, u103, u104, u105, u106, u107, u108, u109, u110, u111, u112, u113, u114, u115, u116, u117, u118, u119], []⟩ W := by
  conv => arg 2; whnf
  have HC : Hid (∀ V, Below w.heap.size w V → (Calls Tryz.prog 24 #[.agg #[.int .i64 x.kind, .string x.code, .string x.value, .string x.path, .slice Ab x.bytes.length cb, .slice Ak x.kids.length ck], .int .u8 (b : Int)] V (TwoEnd (optV (findN x b)) (.bool (findN x b).isSome) V)) ∧ (Calls Tryz.prog 25 #[.agg #[.int .i64 x.kind, .string x.code, .string x.value, .string x.path, .slice Ab x.bytes.length cb, .slice Ak x.kids.length ck], .int .u8 (b : Int)] V (TwoEnd (optV (findN x b)) (.bool (findN x b).isSome) V)) ∧ (Calls Tryz.prog 26 #[.agg #[.int .i64 x.kind, .string x.code, .string x.value, .string x.path, .slice Ab x.bytes.length cb, .slice Ak x.kids.length ck], .int .i64 c] V (ThreeEnd (.int .u8 (nextN x c).1) (refV (nextN x c).2.1) (.bool (nextN x c).2.2) V)) ∧ (Calls Tryz.prog 27 #[.agg #[.int .i64 x.kind, .string x.code, .string x.value, .string x.path, .slice Ab x.bytes.length cb, .slice Ak x.kids.length ck], .int .i64 c] V (ThreeEnd (.int .u8 (nextN x c).1) (refV (nextN x c).2.1) (.bool (nextN x c).2.2) V)) ∧ (Calls Tryz.prog 28 #[.agg #[.int .i64 x.kind, .string x.code, .string x.value, .string x.path, .slice Ab x.bytes.length cb, .slice Ak x.kids.length ck], .int .u8 (b : Int)] V (ThreeEnd (.int .u8 (restN x b).1) (refV (restN x b).2.1) (.bool (restN x b).2.2) V)) ∧ (Calls Tryz.prog 29 #[.agg #[.int .i64 x.kind, .string x.code, .string x.value, .string x.path, .slice Ab x.bytes.length cb, .slice Ak x.kids.length ck], .int .u8 (b : Int)] V (ThreeEnd (.int .u8 (restN x b).1) (refV (restN x b).2.1) (.bool (restN x b).2.2) V))) := Lib.hid (fun V hb => by
    have h := hn V hb
    exact ⟨Find_n x _ b V h.1 h.2 hb256, Find_r x _ b V h.1 hb256, Next_n x _ c V h.1 h.2, Next_r x _ c V h.1, Rest_n x _ b V h.1 h.2 hb256, Rest_r x _ b V h.1 hb256⟩)
  clear hn
  unfold optV refV at HC
  generalize (findN x b).isSome = fb at HC
  generalize (findN x b).getD (0, 0) = fq at HC
  generalize (nextN x c).2.2 = nb at HC
  generalize (nextN x c).2.1 = nq at HC
  generalize (nextN x c).1 = nc at HC
  generalize (restN x b).2.2 = rb at HC
  generalize (restN x b).2.1 = rq at HC
  generalize (restN x b).1 = rc at HC
  obtain ⟨fq1, fq2⟩ := fq
  obtain ⟨nq1, nq2⟩ := nq
  obtain ⟨rq1, rq2⟩ := rq
  dsimp only at HC
  have H0 := Lib.hid h
  clear h
  refine wp_seq_k fun K0 hK => ?_
  have HK0 := Lib.hid hK
  clear hK
  obtain ⟨e0, e1, e2, e3, e4, e5⟩ := cells6 (H0.out.get (g := g0) (t := 26) (cs := #[.int .i64 x.kind, .string x.code, .string x.value, .string x.path, .slice Ab x.bytes.length cb, .slice Ak x.kids.length ck]) (by simp))
  have hc := (HC.out W H0.out.below).1
  have HX := Lib.hid hc
  clear hc
  go_wp2_with fail
  refine HX.out.mono ?_
  rintro e v1 ⟨rfl, hb⟩
  have H1 := Lib.hid ((H0.out.on hb).add 29 #[.int .i64 fq1, .int .u32 fq2])
  clear hb HX H0 e0 e1 e2 e3 e4 e5
  go_wp2_with fail
  refine HK0.out _ _ ?_
  clear HK0
  generalize v1.alloc _ = W1 at H1 ⊢
  generalize v1.heap.size = g1 at H1 ⊢
  refine wp_seq_k fun K1 hK => ?_
  have HK1 := Lib.hid hK
  clear hK
  obtain ⟨e0, e1, e2, e3, e4, e5⟩ := cells6 (H1.out.get (g := g0) (t := 26) (cs := #[.int .i64 x.kind, .string x.code, .string x.value, .string x.path, .slice Ab x.bytes.length cb, .slice Ak x.kids.length ck]) (by simp))
  have hc := (HC.out W1 H1.out.below).2.1
  have HX := Lib.hid hc
  clear hc
  go_wp2_with fail
  refine HX.out.mono ?_
  rintro e v2 ⟨rfl, hb⟩
  have H2 := Lib.hid ((H1.out.on hb).add 29 #[.int .i64 fq1, .int .u32 fq2])
  clear hb HX H1 e0 e1 e2 e3 e4 e5
  go_wp2_with fail
  refine HK1.out _ _ ?_
  clear HK1
  generalize v2.alloc _ = W2 at H2 ⊢
  generalize v2.heap.size = g2 at H2 ⊢
  refine wp_seq_k fun K2 hK => ?_
  have HK2 := Lib.hid hK
  clear hK
  obtain ⟨e0, e1, e2, e3, e4, e5⟩ := cells6 (H2.out.get (g := g0) (t := 26) (cs := #[.int .i64 x.kind, .string x.code, .string x.value, .string x.path, .slice Ab x.bytes.length cb, .slice Ak x.kids.length ck]) (by simp))
  have hc := (HC.out W2 H2.out.below).2.2.1
  have HX := Lib.hid hc
  clear hc
  go_wp2_with fail
  refine HX.out.mono ?_
  rintro e v3 ⟨rfl, hb⟩
  have H3 := Lib.hid ((H2.out.on hb).add 29 #[.int .i64 nq1, .int .u32 nq2])
  clear hb HX H2 e0 e1 e2 e3 e4 e5
  go_wp2_with fail
  refine HK2.out _ _ ?_
  clear HK2
  generalize v3.alloc _ = W3 at H3 ⊢
  generalize v3.heap.size = g3 at H3 ⊢
  refine wp_seq_k fun K3 hK => ?_
  have HK3 := Lib.hid hK
  clear hK
  obtain ⟨e0, e1, e2, e3, e4, e5⟩ := cells6 (H3.out.get (g := g0) (t := 26) (cs := #[.int .i64 x.kind, .string x.code, .string x.value, .string x.path, .slice Ab x.bytes.length cb, .slice Ak x.kids.length ck]) (by simp))
  have hc := (HC.out W3 H3.out.below).2.2.2.1
  have HX := Lib.hid hc
  clear hc
  go_wp2_with fail
  refine HX.out.mono ?_
  rintro e v4 ⟨rfl, hb⟩
  have H4 := Lib.hid ((H3.out.on hb).add 29 #[.int .i64 nq1, .int .u32 nq2])
  clear hb HX H3 e0 e1 e2 e3 e4 e5
  go_wp2_with fail
  refine HK3.out _ _ ?_
  clear HK3
  generalize v4.alloc _ = W4 at H4 ⊢
  generalize v4.heap.size = g4 at H4 ⊢
  refine wp_seq_k fun K4 hK => ?_
  have HK4 := Lib.hid hK
  clear hK
  obtain ⟨e0, e1, e2, e3, e4, e5⟩ := cells6 (H4.out.get (g := g0) (t := 26) (cs := #[.int .i64 x.kind, .string x.code, .string x.value, .string x.path, .slice Ab x.bytes.length cb, .slice Ak x.kids.length ck]) (by simp))
  have hc := (HC.out W4 H4.out.below).2.2.2.2.1
  have HX := Lib.hid hc
  clear hc
  go_wp2_with fail
  refine HX.out.mono ?_
  rintro e v5 ⟨rfl, hb⟩
  have H5 := Lib.hid ((H4.out.on hb).add 29 #[.int .i64 rq1, .int .u32 rq2])
  clear hb HX H4 e0 e1 e2 e3 e4 e5
  go_wp2_with fail
  refine HK4.out _ _ ?_
  clear HK4
  generalize v5.alloc _ = W5 at H5 ⊢
  generalize v5.heap.size = g5 at H5 ⊢
  refine wp_seq_k fun K5 hK => ?_
  have HK5 := Lib.hid hK
  clear hK
  obtain ⟨e0, e1, e2, e3, e4, e5⟩ := cells6 (H5.out.get (g := g0) (t := 26) (cs := #[.int .i64 x.kind, .string x.code, .string x.value, .string x.path, .slice Ab x.bytes.length cb, .slice Ak x.kids.length ck]) (by simp))
  have hc := (HC.out W5 H5.out.below).2.2.2.2.2
  have HX := Lib.hid hc
  clear hc
  go_wp2_with fail
  refine HX.out.mono ?_
  rintro e v6 ⟨rfl, hb⟩
  have H6 := Lib.hid ((H5.out.on hb).add 29 #[.int .i64 rq1, .int .u32 rq2])
  clear hb HX H5 e0 e1 e2 e3 e4 e5
  go_wp2_with fail
  refine HK5.out _ _ ?_
  clear HK5
  generalize v6.alloc _ = W6 at H6 ⊢
  generalize v6.heap.size = g6 at H6 ⊢
  have c0 := (H6.out.get (g := g1) (t := 29) (cs := #[.int .i64 fq1, .int .u32 fq2]) (by simp)).cell 0
  have d0 := (H6.out.get (g := g1) (t := 29) (cs := #[.int .i64 fq1, .int .u32 fq2]) (by simp)).cell 1
  have c1 := (H6.out.get (g := g2) (t := 29) (cs := #[.int .i64 fq1, .int .u32 fq2]) (by simp)).cell 0
  have d1 := (H6.out.get (g := g2) (t := 29) (cs := #[.int .i64 fq1, .int .u32 fq2]) (by simp)).cell 1
  have c2 := (H6.out.get (g := g3) (t := 29) (cs := #[.int .i64 nq1, .int .u32 nq2]) (by simp)).cell 0
  have d2 := (H6.out.get (g := g3) (t := 29) (cs := #[.int .i64 nq1, .int .u32 nq2]) (by simp)).cell 1
  have c3 := (H6.out.get (g := g4) (t := 29) (cs := #[.int .i64 nq1, .int .u32 nq2]) (by simp)).cell 0
  have d3 := (H6.out.get (g := g4) (t := 29) (cs := #[.int .i64 nq1, .int .u32 nq2]) (by simp)).cell 1
  have c4 := (H6.out.get (g := g5) (t := 29) (cs := #[.int .i64 rq1, .int .u32 rq2]) (by simp)).cell 0
  have d4 := (H6.out.get (g := g5) (t := 29) (cs := #[.int .i64 rq1, .int .u32 rq2]) (by simp)).cell 1
  have c5 := (H6.out.get (g := g6) (t := 29) (cs := #[.int .i64 rq1, .int .u32 rq2]) (by simp)).cell 0
  have d5 := (H6.out.get (g := g6) (t := 29) (cs := #[.int .i64 rq1, .int .u32 rq2]) (by simp)).cell 1
  simp only [List.getElem?_toArray, List.getElem?_cons_zero, List.getElem?_cons_succ] at c0 c1 c2 c3 c4 c5 d0 d1 d2 d3 d4 d5
  go_wp2
  go_ret
  exact ⟨by simp, H6.out.below⟩
end Go.Proofs.YtgjgcbemgmkncaaGreatDoor
namespace Go.Proofs.YtgjgcbemgmkncaaGreatDoor
open Go.RowKit Go.Shelf
set_option linter.unusedVariables false
set_option linter.unusedSimpArgs false

set_option maxHeartbeats 6400000 in
set_option maxRecDepth 100000 in
/-- The three questions: the program's answers are the reference's. -/
theorem tells_n (x : Nd) (V : Value) (b : Nat) (c : Int) (w : World) (h : NdAt w x V) (hr : RoomsAt w) (hb256 : b < 256) : Calls Tryz.prog 9 #[V, .int .u8 (b : Int), .int .i64 c] w (BoolEnd true w) := by
  obtain ⟨hwf, Ab, cb, Ak, ck, rfl, hb0, hk0⟩ := h
  have hnd : NdAt w x (x.v Ab cb Ak ck) := ⟨hwf, Ab, cb, Ak, ck, rfl, hb0, hk0⟩
  have hlc := hwf.lc
  have H0 := Lib.hid ((MkW.start w).add 26 #[.int .i64 x.kind, .string x.code, .string x.value, .string x.path, .slice Ab x.bytes.length cb, .slice Ak x.kids.length ck])
  unfold Nd.v at hnd ⊢
  have HN : Hid (∀ W, Below w.heap.size w W → NdAt W x (.agg #[.int .i64 x.kind, .string x.code, .string x.value, .string x.path, .slice Ab x.bytes.length cb, .slice Ak x.kids.length ck]) ∧ RoomsAt W) := Lib.hid (fun W hb => ⟨hnd.below hb, hr.on hb⟩)
  have HLC := Lib.hid hlc
  clear hwf hb0 hk0 hnd hlc hr
  generalize hG : w.heap.size = g0 at H0
  go_enter Tryz.func9, Tryz.ntmps9
  refine wp_seq_k fun K0 hK => ?_
  have HK0 := Lib.hid hK
  clear hK
  go_wp2_with fail
  refine HK0.out _ _ ?_
  clear HK0
  clear hG
  generalize w.alloc _ = w0 at H0 ⊢
  refine wp_seq_k fun KA hK => ?_
  have HKA := Lib.hid hK
  clear hK
  refine wp_seq_k fun K1 hK => ?_
  have HK1 := Lib.hid hK
  clear hK
  have HS : Hid (∀ W : World, Below w0.heap.size w0 W → (fun V : World => V.cell? ⟨g0, 0, none⟩ = some (.int .i64 x.kind) ∧ V.cell? ⟨g0, 1, none⟩ = some (.string x.code) ∧ V.cell? ⟨g0, 2, none⟩ = some (.string x.value) ∧ V.cell? ⟨g0, 3, none⟩ = some (.string x.path) ∧ V.cell? ⟨g0, 4, none⟩ = some (.slice Ab x.bytes.length cb) ∧ V.cell? ⟨g0, 5, none⟩ = some (.slice Ak x.kids.length ck)) W) := Lib.hid (fun W hb => cells6 ((H0.out.on hb).get (g := g0) (t := 26) (cs := #[.int .i64 x.kind, .string x.code, .string x.value, .string x.path, .slice Ab x.bytes.length cb, .slice Ak x.kids.length ck]) (by simp)))
  have HB0 : Hid (Below w0.heap.size w0 w0.drew) := Lib.hid (Below.refl _ _).drew
  have HC : Hid (∀ W, Below w0.heap.size w0 W → (Calls Tryz.prog 19 #[.agg #[.int .i64 x.kind, .string x.code, .string x.value, .string x.path, .slice Ab x.bytes.length cb, .slice Ak x.kids.length ck]] W (BoolEnd x.rightN W)) ∧ (Calls Tryz.prog 21 #[.agg #[.int .i64 x.kind, .string x.code, .string x.value, .string x.path, .slice Ab x.bytes.length cb, .slice Ak x.kids.length ck]] W (BoolEnd x.rightN W)) ∧ (Calls Tryz.prog 20 #[.agg #[.int .i64 x.kind, .string x.code, .string x.value, .string x.path, .slice Ab x.bytes.length cb, .slice Ak x.kids.length ck]] W (BoolEnd x.isAnchor W)) ∧ (Calls Tryz.prog 22 #[.agg #[.int .i64 x.kind, .string x.code, .string x.value, .string x.path, .slice Ab x.bytes.length cb, .slice Ak x.kids.length ck]] W (BoolEnd x.isAnchor W)) ∧ (Calls Tryz.prog 18 #[.agg #[.int .i64 x.kind, .string x.code, .string x.value, .string x.path, .slice Ab x.bytes.length cb, .slice Ak x.kids.length ck]] W (BoolEnd x.full W)) ∧ (Calls Tryz.prog 23 #[.agg #[.int .i64 x.kind, .string x.code, .string x.value, .string x.path, .slice Ab x.bytes.length cb, .slice Ak x.kids.length ck]] W (BoolEnd x.full W))) := Lib.hid (fun W hb => by
    have hn := (HN.out W (H0.out.on hb).below)
    exact ⟨Right_n x _ W hn.1 hn.2 HLC.out, Right_r x _ W hn.1, Anchor_n x _ W hn.1 hn.2, anchor_r x _ W hn.1, Full_n x _ W hn.1 hn.2, Full_r x _ W hn.1⟩)
  generalize x.rightN = p1 at HC
  generalize x.isAnchor = p2 at HC
  generalize x.full = p3 at HC
  have n1 : (p1 != p1) = false := by simp
  have n2 : (p2 != p2) = false := by simp
  have n3 : (p3 != p3) = false := by simp
  refine wp_region_noPanic ?_
  refine wp_region_held_drew (S := (fun V : World => V.cell? ⟨g0, 0, none⟩ = some (.int .i64 x.kind) ∧ V.cell? ⟨g0, 1, none⟩ = some (.string x.code) ∧ V.cell? ⟨g0, 2, none⟩ = some (.string x.value) ∧ V.cell? ⟨g0, 3, none⟩ = some (.string x.path) ∧ V.cell? ⟨g0, 4, none⟩ = some (.slice Ab x.bytes.length cb) ∧ V.cell? ⟨g0, 5, none⟩ = some (.slice Ak x.kids.length ck))) (by kernel_rfl) ?_ (fun hHeld0 => ?_)
  · exact HS.out _ HB0.out
  refine wpAnyH_take (i := 0) (v := ?_) rfl (by kernel_rfl) (by kernel_rfl) (by kernel_rfl) (fun _ _ _ h => h) (Or.inl ⟨by rfl, ?_⟩) hHeld0 ?_
  rotate_left
  · (intro w hSw; (try dsimp only at hSw); go_simp <;> with_reducible rfl)
  try simp only [Act.put, List.setIfInBounds_toArray, List.set_cons_zero, List.set_cons_succ]
  refine wpAnyH_take (i := 2) (v := ?_) rfl (by kernel_rfl) (by kernel_rfl) (by kernel_rfl) (fun _ _ _ h => h) (Or.inl ⟨by rfl, ?_⟩) hHeld0 ?_
  rotate_left
  · (intro w hSw; (try dsimp only at hSw); go_simp <;> with_reducible rfl)
  try simp only [Act.put, List.setIfInBounds_toArray, List.set_cons_zero, List.set_cons_succ]
  refine wpAnyH_ready (rs := [1]) (by kernel_rfl) (by simp) ?_
  refine AllReadyH.cons rfl (fun K hK => ?_) ?_
  · go_simp
    refine (HC.out _ HB0.out).1.mono ?_
    rintro e w1 ⟨rfl, hb⟩
    have HB1 := Lib.hid (HB0.out.trans (hb.mono HB0.out.size))
    clear hb
    refine hK.out _ _ ?_ (fun hHeld1 => ?_)
    · exact HS.out _ HB1.out
    clear hK K hHeld0
    try simp only [Act.put, List.setIfInBounds_toArray, List.set_cons_zero, List.set_cons_succ]
    refine wpAnyH_ready (rs := [3]) (by kernel_rfl) (by simp) ?_
    refine AllReadyH.cons rfl (fun K hK => ?_) ?_
    · go_simp
      refine (HC.out _ HB1.out).2.1.mono ?_
      rintro e w2 ⟨rfl, hb⟩
      have HB2 := Lib.hid (HB1.out.trans (hb.mono HB1.out.size))
      clear hb
      refine hK.out _ _ ?_ (fun hHeld2 => ?_)
      · exact HS.out _ HB2.out
      clear hK K hHeld1
      try simp only [Act.put, List.setIfInBounds_toArray, List.set_cons_zero, List.set_cons_succ]
      refine wpAnyH_take (i := 4) (v := ?_) rfl (by kernel_rfl) (by kernel_rfl) (by kernel_rfl) (fun _ _ _ h => h) (Or.inl ⟨by rfl, ?_⟩) hHeld2 ?_
      rotate_left
      · (intro w hSw; (try dsimp only at hSw); go_simp <;> with_reducible rfl)
      try simp only [Act.put, List.setIfInBounds_toArray, List.set_cons_zero, List.set_cons_succ]
      refine wpAnyH_take (i := 5) (v := ?_) rfl (by kernel_rfl) (by kernel_rfl) (by kernel_rfl) (fun _ _ _ h => h) (Or.inl ⟨by rfl, ?_⟩) hHeld2 ?_
      rotate_left
      · (intro w hSw; (try dsimp only at hSw); go_simp <;> with_reducible rfl)
      try simp only [Act.put, List.setIfInBounds_toArray, List.set_cons_zero, List.set_cons_succ]
      refine wpAnyH_take (i := 6) (v := ?_) rfl (by kernel_rfl) (by kernel_rfl) (by kernel_rfl) (fun _ _ _ h => h) (Or.inl ⟨by kernel_rfl, ?_⟩) hHeld2 ?_
      rotate_left
      · (intro w hSw; (try dsimp only at hSw); go_simp <;> with_reducible rfl)
      try simp only [Act.put, List.setIfInBounds_toArray, List.set_cons_zero, List.set_cons_succ]
      refine wpAnyH_take (i := 8) (v := ?_) rfl (by kernel_rfl) (by kernel_rfl) (by kernel_rfl) (fun _ _ _ h => h) (Or.inl ⟨by kernel_rfl, ?_⟩) hHeld2 ?_
      rotate_left
      · (intro w hSw; (try dsimp only at hSw); go_simp <;> with_reducible rfl)
      try simp only [Act.put, List.setIfInBounds_toArray, List.set_cons_zero, List.set_cons_succ]
      refine wpAnyH_ready (rs := [7]) (by kernel_rfl) (by simp) ?_
      refine AllReadyH.cons rfl (fun K hK => ?_) ?_
      · go_simp
        refine (HC.out _ HB2.out).2.2.1.mono ?_
        rintro e w3 ⟨rfl, hb⟩
        have HB3 := Lib.hid (HB2.out.trans (hb.mono HB2.out.size))
        clear hb
        refine hK.out _ _ ?_ (fun hHeld3 => ?_)
        · exact HS.out _ HB3.out
        clear hK K hHeld2
        try simp only [Act.put, List.setIfInBounds_toArray, List.set_cons_zero, List.set_cons_succ]
        refine wpAnyH_ready (rs := [9]) (by kernel_rfl) (by simp) ?_
        refine AllReadyH.cons rfl (fun K hK => ?_) ?_
        · go_simp
          refine (HC.out _ HB3.out).2.2.2.1.mono ?_
          rintro e w4 ⟨rfl, hb⟩
          have HB4 := Lib.hid (HB3.out.trans (hb.mono HB3.out.size))
          clear hb
          refine hK.out _ _ ?_ (fun hHeld4 => ?_)
          · exact HS.out _ HB4.out
          clear hK K hHeld3
          try simp only [Act.put, List.setIfInBounds_toArray, List.set_cons_zero, List.set_cons_succ]
          refine wpAnyH_take (i := 10) (v := ?_) rfl (by kernel_rfl) (by kernel_rfl) (by kernel_rfl) (fun _ _ _ h => h) (Or.inl ⟨by kernel_rfl, ?_⟩) hHeld4 ?_
          rotate_left
          · (intro w hSw; (try dsimp only at hSw); go_simp <;> with_reducible rfl)
          try simp only [Act.put, List.setIfInBounds_toArray, List.set_cons_zero, List.set_cons_succ]
          refine wpAnyH_take (i := 11) (v := ?_) rfl (by kernel_rfl) (by kernel_rfl) (by kernel_rfl) (fun _ _ _ h => h) (Or.inl ⟨by kernel_rfl, ?_⟩) hHeld4 ?_
          rotate_left
          · (intro w hSw; (try dsimp only at hSw); go_simp <;> with_reducible rfl)
          try simp only [Act.put, List.setIfInBounds_toArray, List.set_cons_zero, List.set_cons_succ]
          refine wpAnyH_take (i := 12) (v := ?_) rfl (by kernel_rfl) (by kernel_rfl) (by kernel_rfl) (fun _ _ _ h => h) (Or.inl ⟨by rfl, ?_⟩) hHeld4 ?_
          rotate_left
          · (intro w hSw; (try dsimp only at hSw); go_simp <;> with_reducible rfl)
          try simp only [Act.put, List.setIfInBounds_toArray, List.set_cons_zero, List.set_cons_succ]
          refine wpAnyH_take (i := 13) (v := ?_) rfl (by kernel_rfl) (by kernel_rfl) (by kernel_rfl) (fun _ _ _ h => h) (Or.inl ⟨by kernel_rfl, ?_⟩) hHeld4 ?_
          rotate_left
          · (intro w hSw; (try dsimp only at hSw); go_simp <;> with_reducible rfl)
          try simp only [Act.put, List.setIfInBounds_toArray, List.set_cons_zero, List.set_cons_succ]
          refine wpAnyH_take (i := 15) (v := ?_) rfl (by kernel_rfl) (by kernel_rfl) (by kernel_rfl) (fun _ _ _ h => h) (Or.inl ⟨by kernel_rfl, ?_⟩) hHeld4 ?_
          rotate_left
          · (intro w hSw; (try dsimp only at hSw); go_simp <;> with_reducible rfl)
          try simp only [Act.put, List.setIfInBounds_toArray, List.set_cons_zero, List.set_cons_succ]
          refine wpAnyH_ready (rs := [14]) (by kernel_rfl) (by simp) ?_
          refine AllReadyH.cons rfl (fun K hK => ?_) ?_
          · go_simp
            refine (HC.out _ HB4.out).2.2.2.2.1.mono ?_
            rintro e w5 ⟨rfl, hb⟩
            have HB5 := Lib.hid (HB4.out.trans (hb.mono HB4.out.size))
            clear hb
            refine hK.out _ _ ?_ (fun hHeld5 => ?_)
            · exact HS.out _ HB5.out
            clear hK K hHeld4
            try simp only [Act.put, List.setIfInBounds_toArray, List.set_cons_zero, List.set_cons_succ]
            refine wpAnyH_ready (rs := [16]) (by kernel_rfl) (by simp) ?_
            refine AllReadyH.cons rfl (fun K hK => ?_) ?_
            · go_simp
              refine (HC.out _ HB5.out).2.2.2.2.2.mono ?_
              rintro e w6 ⟨rfl, hb⟩
              have HB6 := Lib.hid (HB5.out.trans (hb.mono HB5.out.size))
              clear hb
              refine hK.out _ _ ?_ (fun hHeld6 => ?_)
              · exact HS.out _ HB6.out
              clear hK K hHeld5
              try simp only [Act.put, List.setIfInBounds_toArray, List.set_cons_zero, List.set_cons_succ]
              refine wpAnyH_take (i := 17) (v := ?_) rfl (by kernel_rfl) (by kernel_rfl) (by kernel_rfl) (fun _ _ _ h => h) (Or.inl ⟨by kernel_rfl, ?_⟩) hHeld6 ?_
              rotate_left
              · (intro w hSw; (try dsimp only at hSw); go_simp <;> with_reducible rfl)
              try simp only [Act.put, List.setIfInBounds_toArray, List.set_cons_zero, List.set_cons_succ]
              refine wpAnyH_take (i := 18) (v := ?_) rfl (by kernel_rfl) (by kernel_rfl) (by kernel_rfl) (fun _ _ _ h => h) (Or.inl ⟨by kernel_rfl, ?_⟩) hHeld6 ?_
              rotate_left
              · (intro w hSw; (try dsimp only at hSw); go_simp <;> with_reducible rfl)
              try simp only [Act.put, List.setIfInBounds_toArray, List.set_cons_zero, List.set_cons_succ]
              try simp only [Act.put, List.getElem_toArray, List.getElem_cons_succ, List.getElem_cons_zero, List.setIfInBounds_toArray, List.set_cons_zero, List.set_cons_succ]
              refine wpAnyH_done (by kernel_rfl) ?_ _
              refine NoPanic.normal ?_
              refine HK1.out _ _ ?_
              clear HK1
              have S0 := Lib.hid (H0.out.on HB6.out)
              clear H0 HC HS HB0 HB1 HB2 HB3 HB4 HB5 HB6 n1 n2 n3
              go_wp2_with fail
              refine HKA.out _ _ ?_
              clear HKA
              exact tells2 x b c w w6 g0 _ Ab cb Ak ck S0.out (fun W hb => (HN.out W hb)) hb256
            exact AllReadyH.nil
          exact AllReadyH.nil
        exact AllReadyH.nil
      exact AllReadyH.nil
    exact AllReadyH.nil
  exact AllReadyH.nil
end Go.Proofs.YtgjgcbemgmkncaaGreatDoor
namespace Go.Proofs.YtgjgcbemgmkncaaGreatDoor
open Go.RowKit Go.Shelf
set_option linter.unusedVariables false
set_option linter.unusedSimpArgs false

theorem ownsRow_more {w : World} {B base size n : Nat} {e : TypeId} {v : Value} {xs : List Value} (h : w.ownsRow base e size v n xs) (hB : B ≤ base) : w.ownsRow B e size v n xs := by
  refine ⟨h.1, ?_⟩
  rcases h.2 with hn | ⟨g, cap, cur, hv, hb, rest⟩
  · exact Or.inl hn
  · exact Or.inr ⟨g, cap, cur, hv, by omega, rest⟩
/-- A node that is lent: its two rows, with marks behind their ends. -/
structure LentNd (B : Nat) (W : World) (x : Nd) (g1 c1 g2 c2 : Nat) : Prop where
  own1 : W.ownsRow B 5 1 (.slice (some ⟨g1, 0, none⟩) (x.bytes.length + 12) c1) (x.bytes.length + 12) ((x.bytes ++ marksB 12).flatMap nrow)
  own2 : ∃ B2, B ≤ B2 ∧ W.ownsRow B2 29 2 (.slice (some ⟨g2, 0, none⟩) (x.kids.length + 12) c2) (x.kids.length + 12) ((x.kids ++ marksR 12).flatMap rrow)
  le1 : x.bytes.length + 12 ≤ c1
  le2 : x.kids.length + 12 ≤ c2
  m1 : c1 ≤ maxLen
  m2 : c2 ≤ maxLen
  ne : g1 ≠ g2
def LentNodeEnd (x : Nd) (w : World) (e : Ending) (w' : World) : Prop := ∃ g1 c1 g2 c2, e = .returned (x.v (some ⟨g1, 0, none⟩) c1 (some ⟨g2, 0, none⟩) c2) ∧ LentNd w.heap.size w' x g1 c1 g2 c2 ∧ Below w.heap.size w w'
set_option maxHeartbeats 3200000 in
set_option maxRecDepth 100000 in
theorem LentNode_n (x : Nd) (V : Value) (w : World) (h : NdAt w x V) (hl1 : x.bytes.length ≤ 65536) (hl2 : x.kids.length ≤ 65536) : Calls Tryz.prog 30 #[V] w (LentNodeEnd x w) := by
  obtain ⟨hwf, Ab, cb, Ak, ck, rfl, hb0, hk0⟩ := h
  have b1 := below_box w (.cells (x.c Ab cb Ak ck) 26)
  have b2 := b1.alloc b1.size (.cells #[.int .i64 0, .string { data := #[] }, .string { data := #[] }, .string { data := #[] }, .slice none 0 0, .slice none 0 0] 26)
  have q1 := (Blk.new w 26 (x.c Ab cb Ak ck)).alloc (.cells #[.int .i64 0, .string { data := #[] }, .string { data := #[] }, .string { data := #[] }, .slice none 0 0, .slice none 0 0] 26)
  have q2 := Blk.new (w.alloc (.cells (x.c Ab cb Ak ck) 26)) 26 #[.int .i64 0, .string { data := #[] }, .string { data := #[] }, .string { data := #[] }, .slice none 0 0, .slice none 0 0]
  rw [World.size_alloc] at q2
  have H0 := Lib.hid (And.intro b2 (And.intro q1 q2))
  have HR := Lib.hid (And.intro hb0 hk0)
  clear b1 b2 q1 q2 hb0 hk0 hwf
  unfold Nd.c at H0
  unfold Nd.v
  go_enter Tryz.func30, Tryz.ntmps30
  refine wp_seq_k fun K0 hK => ?_
  have HK0 := Lib.hid hK
  clear hK
  go_wp2_with fail
  refine HK0.out _ _ ?_
  clear HK0
  generalize (w.alloc _).alloc _ = w0 at H0 ⊢
  refine wp_seq_k fun K1 hK => ?_
  have HK1 := Lib.hid hK
  clear hK
  obtain ⟨e0, e1, e2, e3, e4, e5⟩ := cells6 H0.out.2.1
  go_wp2_with fail
  refine (lent_bytes x.bytes Ab cb _ hl1 ((HR.out.1.below H0.out.1).more H0.out.1.size)).mono ?_
  rintro e w1 ⟨g1, c1, rfl, hc1, hm1, ho1, hb⟩
  have hg1 : w0.heap.size ≤ g1 := by
    obtain ⟨g, cap, hv, hgb, _⟩ := ho1.form (by omega)
    injection hv with e1 _ _
    injection e1 with e1
    injection e1 with e1 _ _
    omega
  have hg1w : w.heap.size + 2 ≤ g1 := by have := H0.out.2.2.lt; omega
  have hw1 : w1.grownBy (w1.setCell ⟨w.heap.size, 4, none⟩ (.slice (some ⟨g1, 0, none⟩) x.bytes.length c1)) (some w.heap.size) := grown_setCell ⟨rfl, rfl, rfl, Nat.le_refl _, fun _ _ _ => rfl⟩ _ _
  have p1 := H0.out.2.1.below hb H0.out.2.1.lt
  have p2 := H0.out.2.2.below hb H0.out.2.2.lt
  have pb : Below w.heap.size w w1 := H0.out.1.trans (hb.mono H0.out.1.size)
  have f4 := p1.frozen 4
  have l4 := p1.lt
  have d4 : w1.cell? ⟨w.heap.size, 4, none⟩ = some (.slice Ab x.bytes.length cb) := p1.cell 4
  have o1 := ownsRow_more ho1 H0.out.1.size
  have o1' := o1.kept hw1 (.inr (fun e => by injection e with e; have e : g1 = w.heap.size := e; omega))
  have p1' := p1.set_ 4 (.slice (some ⟨g1, 0, none⟩) x.bytes.length c1)
  have p2' := p2.grown hw1 (fun e => by injection e with e; omega)
  have pb' := pb.grown hw1 pb.size (fun k e => by injection e with e; omega)
  have hsz1 : g1 < w1.heap.size := by
    obtain ⟨g, cap, hv, _, hlt⟩ := ho1.form (by omega)
    injection hv with e1 _ _
    injection e1 with e1
    injection e1 with e1 _ _
    omega
  have hsz1' : g1 < (w1.setCell ⟨w.heap.size, 4, none⟩ (.slice (some ⟨g1, 0, none⟩) x.bytes.length c1)).heap.size := Nat.lt_of_lt_of_le hsz1 hw1.size
  have H1 : Hid (Below w.heap.size w (w1.setCell ⟨w.heap.size, 4, none⟩ (.slice (some ⟨g1, 0, none⟩) x.bytes.length c1)) ∧ Blk (w1.setCell ⟨w.heap.size, 4, none⟩ (.slice (some ⟨g1, 0, none⟩) x.bytes.length c1)) w.heap.size 26 (#[.int .i64 x.kind, .string x.code, .string x.value, .string x.path, .slice (some ⟨g1, 0, none⟩) x.bytes.length c1, .slice Ak x.kids.length ck]) ∧ Blk (w1.setCell ⟨w.heap.size, 4, none⟩ (.slice (some ⟨g1, 0, none⟩) x.bytes.length c1)) (w.heap.size + 1) 26 #[.int .i64 0, .string { data := #[] }, .string { data := #[] }, .string { data := #[] }, .slice none 0 0, .slice none 0 0] ∧ (w1.setCell ⟨w.heap.size, 4, none⟩ (.slice (some ⟨g1, 0, none⟩) x.bytes.length c1)).ownsRow w.heap.size 5 1 (.slice (some ⟨g1, 0, none⟩) (x.bytes.length + 12) c1) (x.bytes.length + 12) ((x.bytes ++ marksB 12).flatMap nrow)) := Lib.hid ⟨pb', by simpa using p1', p2', o1'⟩
  have HG := Lib.hid (And.intro hg1w (And.intro hc1 (And.intro hm1 hsz1')))
  clear hw1 p1 p2 pb o1 o1' p1' p2' pb' hb ho1 H0 e0 e1 e2 e3 e4 e5 hg1 hc1 hm1 hg1w hsz1 hsz1'
  go_wp2_with fail
  refine HK1.out _ _ ?_
  clear HK1 f4 l4 d4
  generalize w1.setCell _ _ = w2 at H1 HG ⊢
  refine wp_seq_k fun K2 hK => ?_
  have HK2 := Lib.hid hK
  clear hK
  obtain ⟨e0, e1, e2, e3, e4, e5⟩ := cells6 H1.out.2.1
  go_wp2_with fail
  refine (lent_refs x.kids Ak ck _ hl2 ((HR.out.2.below H1.out.1).more H1.out.1.size)).mono ?_
  rintro e w3 ⟨g2, c2, rfl, hc2, hm2, ho2, hb⟩
  have hg2 : w2.heap.size ≤ g2 := by
    obtain ⟨g, cap, hv, hgb, _⟩ := ho2.form (by omega)
    injection hv with e1 _ _
    injection e1 with e1
    injection e1 with e1 _ _
    omega
  have hlt1 := H1.out.2.2.1.lt
  have hw1 : w3.grownBy (w3.setCell ⟨w.heap.size, 5, none⟩ (.slice (some ⟨g2, 0, none⟩) x.kids.length c2)) (some w.heap.size) := grown_setCell ⟨rfl, rfl, rfl, Nat.le_refl _, fun _ _ _ => rfl⟩ _ _
  have p1 := H1.out.2.1.below hb H1.out.2.1.lt
  have p2 := H1.out.2.2.1.below hb H1.out.2.2.1.lt
  have pb : Below w.heap.size w w3 := H1.out.1.trans (hb.mono H1.out.1.size)
  have o1 := ownsRow_below H1.out.2.2.2 hb (Nat.le_refl _)
  have o1' := o1.kept hw1 (.inr (fun e => by injection e with e; have e : g1 = w.heap.size := e; have := HG.out.1; omega))
  have o2' := ho2.kept hw1 (.inr (fun e => by injection e with e; have e : g2 = w.heap.size := e; omega))
  have f5 := p1.frozen 5
  have l5 := p1.lt
  have d5 : w3.cell? ⟨w.heap.size, 5, none⟩ = some (.slice Ak x.kids.length ck) := p1.cell 5
  have p1' := p1.set_ 5 (.slice (some ⟨g2, 0, none⟩) x.kids.length c2)
  have p2' := p2.grown hw1 (fun e => by injection e with e; omega)
  have pb' := pb.grown hw1 pb.size (fun k e => by injection e with e; omega)
  have hne : g1 ≠ g2 := by have := HG.out.2.2.2; omega
  have hb2 : ∃ B2, w.heap.size ≤ B2 ∧ w.heap.size + 2 ≤ B2 ∧ (w3.setCell ⟨w.heap.size, 5, none⟩ (.slice (some ⟨g2, 0, none⟩) x.kids.length c2)).ownsRow B2 29 2 (.slice (some ⟨g2, 0, none⟩) (x.kids.length + 12) c2) (x.kids.length + 12) ((x.kids ++ marksR 12).flatMap rrow) := ⟨w2.heap.size, by omega, by omega, o2'⟩
  have hge2 : w.heap.size + 2 ≤ g2 := by omega
  have H2 : Hid (Below w.heap.size w (w3.setCell ⟨w.heap.size, 5, none⟩ (.slice (some ⟨g2, 0, none⟩) x.kids.length c2)) ∧ Blk (w3.setCell ⟨w.heap.size, 5, none⟩ (.slice (some ⟨g2, 0, none⟩) x.kids.length c2)) w.heap.size 26 (#[.int .i64 x.kind, .string x.code, .string x.value, .string x.path, .slice (some ⟨g1, 0, none⟩) x.bytes.length c1, .slice (some ⟨g2, 0, none⟩) x.kids.length c2]) ∧ Blk (w3.setCell ⟨w.heap.size, 5, none⟩ (.slice (some ⟨g2, 0, none⟩) x.kids.length c2)) (w.heap.size + 1) 26 #[.int .i64 0, .string { data := #[] }, .string { data := #[] }, .string { data := #[] }, .slice none 0 0, .slice none 0 0] ∧ (w3.setCell ⟨w.heap.size, 5, none⟩ (.slice (some ⟨g2, 0, none⟩) x.kids.length c2)).ownsRow w.heap.size 5 1 (.slice (some ⟨g1, 0, none⟩) (x.bytes.length + 12) c1) (x.bytes.length + 12) ((x.bytes ++ marksB 12).flatMap nrow) ∧ (∃ B2, w.heap.size ≤ B2 ∧ w.heap.size + 2 ≤ B2 ∧ (w3.setCell ⟨w.heap.size, 5, none⟩ (.slice (some ⟨g2, 0, none⟩) x.kids.length c2)).ownsRow B2 29 2 (.slice (some ⟨g2, 0, none⟩) (x.kids.length + 12) c2) (x.kids.length + 12) ((x.kids ++ marksR 12).flatMap rrow)) ∧ g1 ≠ g2 ∧ w.heap.size + 2 ≤ g2) := Lib.hid ⟨pb', by simpa using p1', p2', o1', hb2, hne, hge2⟩
  have HG2 := Lib.hid (And.intro hc2 hm2)
  clear hw1 p1 p2 pb o1 o1' o2' p1' p2' pb' hb ho2 H1 e0 e1 e2 e3 e4 e5 hg2 hc2 hm2 hne hb2 hge2 hlt1
  go_wp2_with fail
  refine HK2.out _ _ ?_
  clear HK2 f5 l5 d5
  generalize w3.setCell _ _ = w4 at H2 ⊢
  obtain ⟨e0, e1, e2, e3, e4, e5⟩ := cells6 H2.out.2.1
  obtain ⟨d0, d1, d2, d3, d4, d5⟩ := cells6 H2.out.2.2.1
  have fz0 := H2.out.2.2.1.frozen 0
  have fz1 := H2.out.2.2.1.frozen 1
  have fz2 := H2.out.2.2.1.frozen 2
  have fz3 := H2.out.2.2.1.frozen 3
  have fz4 := H2.out.2.2.1.frozen 4
  have fz5 := H2.out.2.2.1.frozen 5
  have l6 := H2.out.2.2.1.lt
  obtain ⟨VV, hV, hg, q6⟩ := six_stores (.int .i64 x.kind) (.string x.code) (.string x.value) (.string x.path) (.slice (some ⟨g1, 0, none⟩) x.bytes.length c1) (.slice (some ⟨g2, 0, none⟩) x.kids.length c2) H2.out.2.2.1
  obtain ⟨hbw, _, _, o1, ⟨B2, hB2, hB3, o2⟩, hne, hge2⟩ := H2.out
  have o1' := o1.kept hg (.inr (fun e => by injection e with e; have e : g1 = w.heap.size + 1 := e; have := HG.out.1; omega))
  have o2' := o2.kept hg (.inr (fun e => by injection e with e; have e : g2 = w.heap.size + 1 := e; omega))
  have HF : Hid (LentNd w.heap.size VV x g1 c1 g2 c2 ∧ Below w.heap.size w VV) := Lib.hid ⟨⟨o1', ⟨B2, hB2, o2'⟩, HG.out.2.1, HG2.out.1, HG.out.2.2.1, HG2.out.2, hne⟩, hbw.grown hg hbw.size (fun k e => by injection e with e; omega)⟩
  clear hbw o1 o2 o1' o2' hne hge2 hB2 hB3 hg H2
  go_wp2
  rw [← hV]
  clear hV d0 d1 d2 d3 d4 d5 e0 e1 e2 e3 e4 e5 fz0 fz1 fz2 fz3 fz4 fz5
  obtain ⟨c0, c1', c2', c3, c4, c5⟩ := cells6 q6
  exact bodyPost_ret (v := .agg (#[.int .i64 x.kind, .string x.code, .string x.value, .string x.path, .slice (some ⟨g1, 0, none⟩) x.bytes.length c1, .slice (some ⟨g2, 0, none⟩) x.kids.length c2])) (by simp [results, Tryz.results30, go_sem, c0, c1', c2', c3, c4, c5]) rfl ⟨g1, c1, g2, c2, rfl, HF.out.1, HF.out.2⟩
end Go.Proofs.YtgjgcbemgmkncaaGreatDoor
namespace Go.Proofs.YtgjgcbemgmkncaaGreatDoor
open Go.RowKit Go.Shelf
set_option linter.unusedVariables false
set_option linter.unusedSimpArgs false

theorem Reads.take_ {w : World} {B size n m : Nat} {A : Option Addr} {xs ys : List Value} (h : Reads w B size A (n + m) (xs ++ ys)) (hx : xs.length = n * size) : Reads w B size A n xs := by
  refine ⟨hx, fun hn => ?_⟩
  obtain ⟨ad, e, hb, hc⟩ := h.2 (by omega)
  exact ⟨ad, e, hb, fun j u hu => hc j u (by rw [List.getElem?_append_left (List.getElem?_eq_some_iff.1 hu).1]; exact hu)⟩
theorem flat_len {α : Type} {f : α → List Value} {m : Nat} (hf : ∀ x, (f x).length = m) : ∀ l : List α, (l.flatMap f).length = l.length * m
  | [] => by simp
  | x :: l => by rw [List.flatMap_cons, List.length_append, hf, flat_len hf l, List.length_cons, Nat.add_mul]; omega
section
variable {B : Nat} {W W' : World} {x : Nd} {g1 c1 g2 c2 : Nat}
theorem LentNd.below (h : LentNd B W x g1 c1 g2 c2) (hb : Below W.heap.size W W') : LentNd B W' x g1 c1 g2 c2 := by
  obtain ⟨B2, hB, h2⟩ := h.own2
  exact ⟨ownsRow_below h.own1 hb (Nat.le_refl _), ⟨B2, hB, ownsRow_below h2 hb (Nat.le_refl _)⟩, h.le1, h.le2, h.m1, h.m2, h.ne⟩
theorem LentNd.r1 (h : LentNd B W x g1 c1 g2 c2) : Reads W W.heap.size 1 (some ⟨g1, 0, none⟩) (x.bytes.length + 12) ((x.bytes ++ marksB 12).flatMap nrow) := Reads.of_own h.own1
theorem LentNd.r2 (h : LentNd B W x g1 c1 g2 c2) : Reads W W.heap.size 2 (some ⟨g2, 0, none⟩) (x.kids.length + 12) ((x.kids ++ marksR 12).flatMap rrow) := by
  obtain ⟨B2, _, h2⟩ := h.own2
  exact Reads.of_own h2
theorem LentNd.lt1 (h : LentNd B W x g1 c1 g2 c2) : g1 < W.heap.size := by
  obtain ⟨ad, e, hb, _⟩ := h.r1.2 (by omega)
  injection e with e
  rw [← e] at hb
  exact hb
theorem LentNd.lt2 (h : LentNd B W x g1 c1 g2 c2) : g2 < W.heap.size := by
  obtain ⟨ad, e, hb, _⟩ := h.r2.2 (by omega)
  injection e with e
  rw [← e] at hb
  exact hb
theorem LentNd.node (h : LentNd B W x g1 c1 g2 c2) (hx : x.wf) : NdAt W x (x.v (some ⟨g1, 0, none⟩) c1 (some ⟨g2, 0, none⟩) c2) := by
  refine ⟨hx, _, _, _, _, rfl, ?_, ?_⟩
  · exact Reads.take_ (by have := h.r1; rw [List.flatMap_append] at this; exact this) (flat_len nrow_len x.bytes)
  · exact Reads.take_ (by have := h.r2; rw [List.flatMap_append] at this; exact this) (flat_len rrow_len x.kids)
end
set_option maxHeartbeats 3200000 in
set_option maxRecDepth 100000 in
theorem KeptNode_n (x : Nd) (B g1 c1 g2 c2 : Nat) (V : Value) (w : World) (hL : LentNd B w x g1 c1 g2 c2) (h : NdAt w x V) (hl1 : x.bytes.length ≤ 65536) (hl2 : x.kids.length ≤ 65536) : Calls Tryz.prog 35 #[x.v (some ⟨g1, 0, none⟩) c1 (some ⟨g2, 0, none⟩) c2, V] w (KeptEnd w) := by
  obtain ⟨hwf, Ab, cb, Ak, ck, rfl, hb0, hk0⟩ := h
  have b1 := below_box w (.cells #[.int .i64 x.kind, .string x.code, .string x.value, .string x.path, .slice (some ⟨g1, 0, none⟩) x.bytes.length c1, .slice (some ⟨g2, 0, none⟩) x.kids.length c2] 26)
  have b2 := b1.alloc b1.size (.cells #[.int .i64 x.kind, .string x.code, .string x.value, .string x.path, .slice Ab x.bytes.length cb, .slice Ak x.kids.length ck] 26)
  have q1 := (Blk.new w 26 #[.int .i64 x.kind, .string x.code, .string x.value, .string x.path, .slice (some ⟨g1, 0, none⟩) x.bytes.length c1, .slice (some ⟨g2, 0, none⟩) x.kids.length c2]).alloc (.cells #[.int .i64 x.kind, .string x.code, .string x.value, .string x.path, .slice Ab x.bytes.length cb, .slice Ak x.kids.length ck] 26)
  have q2 := Blk.new (w.alloc (.cells #[.int .i64 x.kind, .string x.code, .string x.value, .string x.path, .slice (some ⟨g1, 0, none⟩) x.bytes.length c1, .slice (some ⟨g2, 0, none⟩) x.kids.length c2] 26)) 26 #[.int .i64 x.kind, .string x.code, .string x.value, .string x.path, .slice Ab x.bytes.length cb, .slice Ak x.kids.length ck]
  rw [World.size_alloc] at q2
  have H0 := Lib.hid (And.intro b2 (And.intro q1 q2))
  have HR := Lib.hid (And.intro hL (And.intro hwf (And.intro hb0 hk0)))
  clear b1 b2 q1 q2 hb0 hk0 hL
  unfold Nd.v
  go_enter Tryz.func35, Tryz.ntmps35
  refine wp_seq_k fun K0 hK => ?_
  have HK0 := Lib.hid hK
  clear hK
  go_wp2_with fail
  refine HK0.out _ _ ?_
  clear HK0
  generalize (w.alloc _).alloc _ = w0 at H0 ⊢
  have HS := Lib.hid (SameNode_n x x _ _ w0 ((HR.out.1.below H0.out.1).node HR.out.2.1) (NdAt.below ⟨HR.out.2.1, Ab, cb, Ak, ck, rfl, HR.out.2.2.1, HR.out.2.2.2⟩ H0.out.1))
  unfold Nd.v at HS
  obtain ⟨e0, e1, e2, e3, e4, e5⟩ := cells6 H0.out.2.1
  obtain ⟨d0, d1, d2, d3, d4, d5⟩ := cells6 H0.out.2.2
  go_wp2_with fail
  refine HS.out.mono ?_
  rintro e w1 ⟨rfl, hb⟩
  rw [sameN_refl]
  have H1 : Hid (Below w.heap.size w w1 ∧ Blk w1 w.heap.size 26 #[.int .i64 x.kind, .string x.code, .string x.value, .string x.path, .slice (some ⟨g1, 0, none⟩) x.bytes.length c1, .slice (some ⟨g2, 0, none⟩) x.kids.length c2] ∧ Blk w1 (w.heap.size + 1) 26 #[.int .i64 x.kind, .string x.code, .string x.value, .string x.path, .slice Ab x.bytes.length cb, .slice Ak x.kids.length ck]) := Lib.hid ⟨H0.out.1.trans (hb.mono H0.out.1.size), H0.out.2.1.below hb H0.out.2.1.lt, H0.out.2.2.below hb H0.out.2.2.lt⟩
  clear hb H0 HS e0 e1 e2 e3 e4 e5 d0 d1 d2 d3 d4 d5
  have HL1 := Lib.hid (HR.out.1.below H1.out.1)
  have HKB := Lib.hid (kept_bytes x.bytes Ab cb g1 c1 w1 hl1 ((HR.out.2.2.1.below H1.out.1).more H1.out.1.size) HL1.out.r1 HL1.out.lt1 HL1.out.le1 HL1.out.m1)
  obtain ⟨e0, e1, e2, e3, e4, e5⟩ := cells6 H1.out.2.1
  obtain ⟨d0, d1, d2, d3, d4, d5⟩ := cells6 H1.out.2.2
  go_wp2_with fail
  refine HKB.out.mono ?_
  rintro e w2 ⟨rfl, hb⟩
  have H2 : Hid (Below w.heap.size w w2 ∧ Blk w2 w.heap.size 26 #[.int .i64 x.kind, .string x.code, .string x.value, .string x.path, .slice (some ⟨g1, 0, none⟩) x.bytes.length c1, .slice (some ⟨g2, 0, none⟩) x.kids.length c2] ∧ Blk w2 (w.heap.size + 1) 26 #[.int .i64 x.kind, .string x.code, .string x.value, .string x.path, .slice Ab x.bytes.length cb, .slice Ak x.kids.length ck]) := Lib.hid ⟨H1.out.1.trans (hb.mono H1.out.1.size), H1.out.2.1.below hb H1.out.2.1.lt, H1.out.2.2.below hb H1.out.2.2.lt⟩
  clear hb H1 HKB HL1 e0 e1 e2 e3 e4 e5 d0 d1 d2 d3 d4 d5
  have HL2 := Lib.hid (HR.out.1.below H2.out.1)
  have HKR := Lib.hid (kept_refs x.kids Ak ck g2 c2 w2 hl2 ((HR.out.2.2.2.below H2.out.1).more H2.out.1.size) HL2.out.r2 HL2.out.lt2 HL2.out.le2 HL2.out.m2)
  obtain ⟨e0, e1, e2, e3, e4, e5⟩ := cells6 H2.out.2.1
  obtain ⟨d0, d1, d2, d3, d4, d5⟩ := cells6 H2.out.2.2
  go_wp2_with fail
  refine HKR.out.mono ?_
  rintro e w3 ⟨rfl, hb⟩
  have HF := Lib.hid (H2.out.1.trans (hb.mono H2.out.1.size))
  clear hb H2 HKR HL2 e0 e1 e2 e3 e4 e5 d0 d1 d2 d3 d4 d5
  go_wp2
  go_ret
  exact ⟨rfl, HF.out⟩
end Go.Proofs.YtgjgcbemgmkncaaGreatDoor
namespace Go.Proofs.YtgjgcbemgmkncaaGreatDoor
open Go.RowKit Go.Shelf
set_option linter.unusedVariables false
set_option linter.unusedSimpArgs false

section
variable {B : Nat} {W W' : World} {x : Nd} {g1 c1 g2 c2 : Nat}
theorem LentNd.blk1 (h : LentNd B W x g1 c1 g2 c2) : ∃ cs, Blk W g1 5 cs ∧ cs.size = c1 * 1 := by
  rcases h.own1.2 with ⟨h0, _⟩ | ⟨g, cap, cur, hv, _, hh, hnc, hc, hs, _⟩
  · cases h0
  · injection hv with e1 _ e3
    injection e1 with e1
    injection e1 with e1 _ _
    subst e1 e3
    exact ⟨cur, hh, hs⟩
theorem LentNd.blk2 (h : LentNd B W x g1 c1 g2 c2) : ∃ cs, Blk W g2 29 cs ∧ cs.size = c2 * 2 := by
  obtain ⟨B2, _, h2⟩ := h.own2
  rcases h2.2 with ⟨h0, _⟩ | ⟨g, cap, cur, hv, _, hh, hnc, hc, hs, _⟩
  · cases h0
  · injection hv with e1 _ e3
    injection e1 with e1
    injection e1 with e1 _ _
    subst e1 e3
    exact ⟨cur, hh, hs⟩
end
/-- What lies outside the lent node's two rows is kept. -/
def OverNodeEnd (g1 g2 : Nat) (w : World) (e : Ending) (w' : World) : Prop := (∃ v, e = .returned v) ∧ ∃ wa wb, Below w.heap.size w wa ∧ wa.grownBy wb (some g1) ∧ wb.grownBy w' (some g2)
set_option maxHeartbeats 3200000 in
set_option maxRecDepth 100000 in
theorem OverNode_n (x : Nd) (B g1 c1 g2 c2 : Nat) (w : World) (hL : LentNd B w x g1 c1 g2 c2) (hl1 : x.bytes.length ≤ 65536) (hl2 : x.kids.length ≤ 65536) : Calls Tryz.prog 37 #[x.v (some ⟨g1, 0, none⟩) c1 (some ⟨g2, 0, none⟩) c2] w (OverNodeEnd g1 g2 w) := by
  have b1 := below_box w (.cells (x.c (some ⟨g1, 0, none⟩) c1 (some ⟨g2, 0, none⟩) c2) 26)
  have q1 := Blk.new w 26 (x.c (some ⟨g1, 0, none⟩) c1 (some ⟨g2, 0, none⟩) c2)
  have H0 := Lib.hid (And.intro b1 (And.intro q1 (And.intro (hL.below b1) hL)))
  clear b1 q1 hL
  unfold Nd.c at H0
  unfold Nd.v
  go_enter Tryz.func37, Tryz.ntmps37
  refine wp_seq_k fun K0 hK => ?_
  have HK0 := Lib.hid hK
  clear hK
  go_wp2_with fail
  refine HK0.out _ _ ?_
  clear HK0
  generalize w.alloc _ = w0 at H0 ⊢
  obtain ⟨cs1, hb1, hs1⟩ := H0.out.2.2.1.blk1
  have HO := Lib.hid (over_bytes g1 x.bytes.length c1 cs1 w0 hl1 hb1 hs1 (by have := H0.out.2.2.1.le1; omega) H0.out.2.2.1.m1)
  clear hb1 hs1
  refine wp_seq_k fun K1 hK => ?_
  have HK1 := Lib.hid hK
  clear hK
  obtain ⟨e0, e1, e2, e3, e4, e5⟩ := cells6 H0.out.2.1
  go_wp2_with fail
  refine HO.out.mono ?_
  rintro e w1 ⟨⟨v1, rfl⟩, hg⟩
  have hlt1 := H0.out.2.2.2.lt1
  have hlt2 := H0.out.2.2.2.lt2
  obtain ⟨cs2, hb2, hs2⟩ := H0.out.2.2.1.blk2
  have hne := H0.out.2.2.1.ne
  have hb2' := hb2.grown hg (fun e => by injection e with e; exact hne e.symm)
  have hbx := H0.out.2.1.grown hg (fun e => by injection e with e; omega)
  have HO2 := Lib.hid (over_refs g2 x.kids.length c2 cs2 w1 hl2 hb2' hs2 (by have := H0.out.2.2.1.le2; omega) H0.out.2.2.1.m2)
  have H1 := Lib.hid (And.intro H0.out.1 (And.intro hg hbx))
  clear H0 HO hg hlt1 hlt2 hb2 hs2 hne hb2' hbx e0 e1 e2 e3 e4 e5
  go_wp2_with fail
  refine HK1.out _ _ ?_
  clear HK1
  obtain ⟨e0, e1, e2, e3, e4, e5⟩ := cells6 H1.out.2.2
  go_wp2_with fail
  refine HO2.out.mono ?_
  rintro e w2 ⟨⟨v2, rfl⟩, hg2⟩
  have HF := Lib.hid (And.intro H1.out.1 (And.intro H1.out.2.1 hg2))
  clear H1 HO2 hg2 e0 e1 e2 e3 e4 e5
  go_wp2
  go_end0
  exact ⟨⟨_, rfl⟩, w0, w1, HF.out.1, HF.out.2.1, HF.out.2.2⟩
end Go.Proofs.YtgjgcbemgmkncaaGreatDoor
namespace Go.Proofs.YtgjgcbemgmkncaaGreatDoor
open Go.RowKit Go.Shelf
set_option linter.unusedVariables false
set_option linter.unusedSimpArgs false

/-- The boxes of turns: the node, the Ref, the node that was lent, and those of what was made. -/
structure TuW (w : World) (x : Nd) (Ab : Option Addr) (cb : Nat) (Ak : Option Addr) (ck : Nat) (r : Int × Int) (b0 b1 b2 g1 c1 g2 c2 : Nat) (bs : List NB) (W : World) : Prop where
  ctx : Ctx w bs W
  boxn : Blk W b0 26 #[.int .i64 x.kind, .string x.code, .string x.value, .string x.path, .slice Ab x.bytes.length cb, .slice Ak x.kids.length ck]
  boxr : Blk W b1 29 #[.int .i64 r.1, .int .u32 r.2]
  boxi : Blk W b2 26 #[.int .i64 x.kind, .string x.code, .string x.value, .string x.path, .slice (some ⟨g1, 0, none⟩) x.bytes.length c1, .slice (some ⟨g2, 0, none⟩) x.kids.length c2]
  lent : LentNd w.heap.size W x g1 c1 g2 c2
  apart : ∀ b ∈ bs, b.g ≠ g1 ∧ b.g ≠ g2 ∧ g1 ∉ b.rows ∧ g2 ∉ b.rows
section
variable {w W W' : World} {x : Nd} {Ab Ak : Option Addr} {cb ck : Nat} {r : Int × Int} {b0 b1 b2 g1 c1 g2 c2 : Nat} {bs : List NB}
theorem TuW.on (h : TuW w x Ab cb Ak ck r b0 b1 b2 g1 c1 g2 c2 bs W) (hb : Below W.heap.size W W') : TuW w x Ab cb Ak ck r b0 b1 b2 g1 c1 g2 c2 bs W' :=
  ⟨h.ctx.on hb, h.boxn.below hb h.boxn.lt, h.boxr.below hb h.boxr.lt, h.boxi.below hb h.boxi.lt, h.lent.below hb, h.apart⟩
theorem TuW.push (h : TuW w x Ab cb Ak ck r b0 b1 b2 g1 c1 g2 c2 bs W) (hb : Below W.heap.size W W') {y : Nd} {A A' : Option Addr} {c c' : Nat} (hy : NdAt W' y (.agg #[.int .i64 y.kind, .string y.code, .string y.value, .string y.path, .slice A y.bytes.length c, .slice A' y.kids.length c'])) (hr : ∀ g ∈ rowsOf (.agg #[.int .i64 y.kind, .string y.code, .string y.value, .string y.path, .slice A y.bytes.length c, .slice A' y.kids.length c']), W.heap.size ≤ g) :
    TuW w x Ab cb Ak ck r b0 b1 b2 g1 c1 g2 c2 (⟨W'.heap.size, y, A, c, A', c'⟩ :: bs) (W'.alloc (.cells #[.int .i64 y.kind, .string y.code, .string y.value, .string y.path, .slice A y.bytes.length c, .slice A' y.kids.length c'] 26)) := by
  have h2 := h.on hb
  have h3 := h2.on (below_box W' (.cells #[.int .i64 y.kind, .string y.code, .string y.value, .string y.path, .slice A y.bytes.length c, .slice A' y.kids.length c'] 26))
  refine ⟨h2.ctx.new hy, h3.boxn, h3.boxr, h3.boxi, h3.lent, fun b hm => ?_⟩
  rcases List.mem_cons.1 hm with rfl | hm
  · have l1 := h.lent.lt1
    have l2 := h.lent.lt2
    have hs := hb.size
    refine ⟨by dsimp only; omega, by dsimp only; omega, fun hg => ?_, fun hg => ?_⟩
    · have := hr g1 hg; omega
    · have := hr g2 hg; omega
  · exact h.apart b hm
/-- Behind OverNode: what was made stands. -/
theorem TuW.over (h : TuW w x Ab cb Ak ck r b0 b1 b2 g1 c1 g2 c2 bs W) (hr0 : RoomsAt w) {wa wb : World} (ha : Below W.heap.size W wa) (hb : wa.grownBy wb (some g1)) (hc : wb.grownBy W' (some g2)) : Ctx w bs W' := by
  have l1 : w.heap.size ≤ g1 := by
    obtain ⟨g, cap, hv, hgb, _⟩ := h.lent.own1.form (by omega)
    injection hv with e1 _ _
    injection e1 with e1
    injection e1 with e1 _ _
    omega
  have l2 : w.heap.size ≤ g2 := by
    obtain ⟨B2, hB2, h2⟩ := h.lent.own2
    obtain ⟨g, cap, hv, hgb, _⟩ := h2.form (by omega)
    injection hv with e1 _ _
    injection e1 with e1
    injection e1 with e1 _ _
    omega
  have k1 := (h.ctx.on ha).off hr0 hb l1 (fun b hm => ⟨(h.apart b hm).1, (h.apart b hm).2.2.1⟩)
  exact k1.off hr0 hc l2 (fun b hm => ⟨(h.apart b hm).2.1, (h.apart b hm).2.2.2⟩)
theorem Ctx.b5 {q0 q1 q2 q3 q4 : NB} {g : Nat} (h : Ctx w (q0 :: q1 :: q2 :: q3 :: q4 :: ⟨g, x, Ab, cb, Ak, ck⟩ :: bs) W) : BoxAt W g x Ab cb Ak ck := (h.box ⟨g, x, Ab, cb, Ak, ck⟩ (by simp)).2
end
end Go.Proofs.YtgjgcbemgmkncaaGreatDoor
namespace Go.Proofs.YtgjgcbemgmkncaaGreatDoor
open Go.RowKit Go.Shelf
set_option linter.unusedVariables false
set_option linter.unusedSimpArgs false

theorem zero_out {w W W' : World} {go : Nat} {c : Int} (hbel : Below w.heap.size w W) (hg : W.grownBy W' (some go)) (hgo : w.heap.size ≤ go) :
    NdPair zeroNd c w (.returned (.tuple #[.agg #[.int .i64 0, .string { data := #[] }, .string { data := #[] }, .string { data := #[] }, .slice none 0 0, .slice none 0 0], .int .i64 c])) W' :=
  ⟨_, rfl, zeroNd_at W', hbel.grown hg hbel.size (fun k e => by injection e with e; omega), rowsOf_zero⟩
/-- The pairs that Cut keeps of the first k. -/
def cutTo (x : Nd) (b k : Nat) : List (Nat × (Int × Int)) := ((x.bytes.zip x.kids).take k).filter (fun p => decide (p.1 ≠ b))
theorem zip_take {x : Nd} {k : Nat} (h1 : k < x.bytes.length) (h2 : k < x.kids.length) : (x.bytes.zip x.kids).take (k + 1) = (x.bytes.zip x.kids).take k ++ [(x.bytes[k], x.kids[k])] := by
  have h3 : k < (x.bytes.zip x.kids).length := by rw [List.length_zip]; omega
  rw [List.take_succ_eq_append_getElem h3, List.getElem_zip]
theorem cutTo_hit {x : Nd} {b k : Nat} (h1 : k < x.bytes.length) (h2 : k < x.kids.length) (e : x.bytes[k] = b) : cutTo x b (k + 1) = cutTo x b k := by
  unfold cutTo
  rw [zip_take h1 h2, List.filter_append]
  simp [e]
theorem cutTo_miss {x : Nd} {b k : Nat} (h1 : k < x.bytes.length) (h2 : k < x.kids.length) (e : x.bytes[k] ≠ b) : cutTo x b (k + 1) = cutTo x b k ++ [(x.bytes[k], x.kids[k])] := by
  unfold cutTo
  rw [zip_take h1 h2, List.filter_append]
  simp [e]
theorem cutTo_all {x : Nd} {b : Nat} (h : x.bytes.length = x.kids.length) : cutTo x b x.bytes.length = cutL x b := by
  unfold cutTo cutL
  rw [List.take_of_length_le (by rw [List.length_zip]; omega)]
theorem cutTo_len (x : Nd) (b k : Nat) : (cutTo x b k).length ≤ k := by
  unfold cutTo
  exact Nat.le_trans (List.length_filter_le _ _) (List.length_take_le _ _)
theorem cutL_mem {x : Nd} {b : Nat} (hx : x.wf) : (∀ c ∈ (cutL x b).map (·.1), c < 256) ∧ ∀ r ∈ (cutL x b).map (·.2), refOk r := by
  unfold cutL
  refine ⟨fun c hc => ?_, fun r hr => ?_⟩
  · obtain ⟨p, hp, rfl⟩ := List.mem_map.1 hc
    have hm := (List.mem_filter.1 hp).1
    exact hx.bytes _ (List.of_mem_zip hm).1
  · obtain ⟨p, hp, rfl⟩ := List.mem_map.1 hr
    have hm := (List.mem_filter.1 hp).1
    exact hx.refs _ (List.of_mem_zip hm).2
/-- The boxes of Cut. -/
def cuB (w : World) (x : Nd) (Ab : Option Addr) (cb : Nat) (Ak : Option Addr) (ck : Nat) : List (Nat × TypeId × Array Value) := [(w.heap.size + 1, 26, #[.int .i64 0, .string { data := #[] }, .string { data := #[] }, .string { data := #[] }, .slice none 0 0, .slice none 0 0]), (w.heap.size, 26, #[.int .i64 x.kind, .string x.code, .string x.value, .string x.path, .slice Ab x.bytes.length cb, .slice Ak x.kids.length ck])]
theorem box_cu {w W : World} {x : Nd} {Ab Ak : Option Addr} {cb ck lo : Nat} (h : MkW w lo (cuB w x Ab cb Ak ck) W) : Blk W w.heap.size 26 #[.int .i64 x.kind, .string x.code, .string x.value, .string x.path, .slice Ab x.bytes.length cb, .slice Ak x.kids.length ck] := (h.blk (w.heap.size, 26, #[.int .i64 x.kind, .string x.code, .string x.value, .string x.path, .slice Ab x.bytes.length cb, .slice Ak x.kids.length ck]) (by simp [cuB])).2
theorem out_cu {w W : World} {x : Nd} {Ab Ak : Option Addr} {cb ck lo : Nat} (h : MkW w lo (cuB w x Ab cb Ak ck) W) : Blk W (w.heap.size + 1) 26 #[.int .i64 0, .string { data := #[] }, .string { data := #[] }, .string { data := #[] }, .slice none 0 0, .slice none 0 0] := (h.blk (w.heap.size + 1, 26, #[.int .i64 0, .string { data := #[] }, .string { data := #[] }, .string { data := #[] }, .slice none 0 0, .slice none 0 0]) (by simp [cuB])).2

set_option maxHeartbeats 6400000 in
set_option maxRecDepth 100000 in
theorem Cut_r (x : Nd) (V : Value) (b : Nat) (keep : Bool) (w : World) (h : NdAt w x V) (hb256 : b < 256) : Calls Tryz.prog 32 #[V, .int .u8 (b : Int), .bool keep] w (fun e w' => NdPair (cutR x b keep).1 (cutR x b keep).2 w e w') := by
  obtain ⟨hwf, Ab, cb, Ak, ck, rfl, hb0, hk0⟩ := h
  have hnd : NdAt w x (x.v Ab cb Ak ck) := ⟨hwf, Ab, cb, Ak, ck, rfl, hb0, hk0⟩
  have h0 : MkW w (w.heap.size + 1 + 1) (cuB w x Ab cb Ak ck) ((w.alloc (.cells #[.int .i64 x.kind, .string x.code, .string x.value, .string x.path, .slice Ab x.bytes.length cb, .slice Ak x.kids.length ck] 26)).alloc (.cells #[.int .i64 0, .string { data := #[] }, .string { data := #[] }, .string { data := #[] }, .slice none 0 0, .slice none 0 0] 26)) := ((MkW.start w).push rfl 26 #[.int .i64 x.kind, .string x.code, .string x.value, .string x.path, .slice Ab x.bytes.length cb, .slice Ak x.kids.length ck]).push (by simp) 26 #[.int .i64 0, .string { data := #[] }, .string { data := #[] }, .string { data := #[] }, .slice none 0 0, .slice none 0 0]
  have H0 := Lib.hid h0
  have HN := Lib.hid hnd
  have HR := Lib.hid (And.intro hb0 (And.intro hk0 hwf))
  obtain ⟨y, hy⟩ : ∃ y, y = cutR x b keep := ⟨_, rfl⟩
  rw [← hy]
  have HY := Lib.hid hy
  clear hwf hb0 hk0 hnd h0 hy
  unfold Nd.v at HN ⊢
  go_enter Tryz.func32, Tryz.ntmps32
  refine wp_seq_k fun K0 hK => ?_
  have HK0 := Lib.hid hK
  clear hK
  go_wp2_with fail
  refine HK0.out _ _ ?_
  clear HK0
  generalize (w.alloc _).alloc _ = w0 at H0 ⊢
  refine wp_seq_k fun K1 hK => ?_
  have HK1 := Lib.hid hK
  clear hK
  obtain ⟨e0, e1, e2, e3, e4, e5⟩ := cells6 (box_cu H0.out)
  have HM := Lib.hid (may_r x _ w0 (HN.out.below H0.out.below))
  cases hm : x.may with
  | false =>
    rw [hm] at HM
    have E : Hid (y = (zeroNd, 4)) := Lib.hid (by rw [HY.out]; unfold cutR; rw [if_pos hm])
    clear hm
    go_wp2_with fail
    refine HM.out.mono ?_
    rintro e w1 ⟨rfl, hb⟩
    have S1 := Lib.hid (H0.out.on hb)
    clear hb HM H0 e0 e1 e2 e3 e4 e5
    have q5 := out_cu S1.out
    obtain ⟨d0, d1, d2, d3, d4, d5⟩ := cells6 q5
    have fz0 := q5.frozen 0
    have fz1 := q5.frozen 1
    have fz2 := q5.frozen 2
    have fz3 := q5.frozen 3
    have fz4 := q5.frozen 4
    have fz5 := q5.frozen 5
    have l6 := q5.lt
    obtain ⟨VV, hV, hg, q6⟩ := six_stores (.int .i64 0) (.string { data := #[] }) (.string { data := #[] }) (.string { data := #[] }) (.slice none 0 0) (.slice none 0 0) q5
    have HF := Lib.hid (zero_out (c := 4) S1.out.below hg (by omega))
    clear hg q5
    go_wp2
    rw [← hV]
    clear hV d0 d1 d2 d3 d4 d5 fz0 fz1 fz2 fz3 fz4 fz5
    obtain ⟨c0, c1, c2, c3, c4, c5⟩ := cells6 q6
    exact bodyPost_ret (v := .tuple #[.agg #[.int .i64 0, .string { data := #[] }, .string { data := #[] }, .string { data := #[] }, .slice none 0 0, .slice none 0 0], .int .i64 4]) (by simp [results, Tryz.results32, go_sem, c0, c1, c2, c3, c4, c5]) rfl (by rw [E.out]; exact HF.out)
  | true =>
    rw [hm] at HM
    have hlk0 : x.bytes.length = x.kids.length := (inner_parts (may_inner hm)).2.2.2.2.1
    have hlk1 : x.bytes.length ≤ x.kids.length := by omega
    have hlk2 : x.kids.length ≤ x.bytes.length := by omega
    clear hlk0
    have hl256 : x.kids.length ≤ 256 := (inner_parts (may_inner hm)).2.2.2.2.2.1
    have E0 : Hid (y = if (findN x b).isSome = false then (zeroNd, 5) else (madeN x ((cutL x b).map (·.1)) ((cutL x b).map (·.2)) keep, 0)) := Lib.hid (by rw [HY.out]; unfold cutR; rw [if_neg (by rw [hm]; simp)])
    clear hm
    go_wp2_with fail
    refine HM.out.mono ?_
    rintro e w1 ⟨rfl, hb⟩
    have S1 := Lib.hid (H0.out.on hb)
    clear hb HM H0 e0 e1 e2 e3 e4 e5
    go_wp2_with fail
    refine HK1.out _ _ ?_
    clear HK1
    refine wp_seq_k fun K2 hK => ?_
    have HK2 := Lib.hid hK
    clear hK
    obtain ⟨e0, e1, e2, e3, e4, e5⟩ := cells6 (box_cu S1.out)
    have hf := Find_r x _ b w1 (HN.out.below S1.out.below) hb256
    obtain ⟨q, hq⟩ : ∃ q, q = findN x b := ⟨_, rfl⟩
    rw [← hq] at hf E0
    clear hq
    unfold optV refV at hf
    have HF0 := Lib.hid hf
    clear hf
    go_wp2_with fail
    refine HF0.out.mono ?_
    rintro e w2 ⟨rfl, hb⟩
    have S2 := Lib.hid ((S1.out.on hb).on (below_box w2 (.cells #[.int .i64 (q.getD (0, 0)).1, .int .u32 (q.getD (0, 0)).2] 29)))
    clear hb S1 HF0 e0 e1 e2 e3 e4 e5
    go_wp2_with fail
    refine HK2.out _ _ ?_
    clear HK2
    generalize w2.alloc _ = w3 at S2 ⊢
    refine wp_seq_k fun K3 hK => ?_
    have HK3 := Lib.hid hK
    clear hK
    cases q with
    | none =>
      have E : Hid (y = (zeroNd, 5)) := Lib.hid (by rw [E0.out]; rfl)
      simp only [Option.isSome_none, Option.getD_none]
      have q5 := out_cu S2.out
      obtain ⟨d0, d1, d2, d3, d4, d5⟩ := cells6 q5
      have fz0 := q5.frozen 0
      have fz1 := q5.frozen 1
      have fz2 := q5.frozen 2
      have fz3 := q5.frozen 3
      have fz4 := q5.frozen 4
      have fz5 := q5.frozen 5
      have l6 := q5.lt
      obtain ⟨VV, hV, hg, q6⟩ := six_stores (.int .i64 0) (.string { data := #[] }) (.string { data := #[] }) (.string { data := #[] }) (.slice none 0 0) (.slice none 0 0) q5
      have HF := Lib.hid (zero_out (c := 5) S2.out.below hg (by omega))
      clear hg q5
      go_wp2
      rw [← hV]
      clear hV d0 d1 d2 d3 d4 d5 fz0 fz1 fz2 fz3 fz4 fz5
      obtain ⟨c0, c1, c2, c3, c4, c5⟩ := cells6 q6
      exact bodyPost_ret (v := .tuple #[.agg #[.int .i64 0, .string { data := #[] }, .string { data := #[] }, .string { data := #[] }, .slice none 0 0, .slice none 0 0], .int .i64 5]) (by simp [results, Tryz.results32, go_sem, c0, c1, c2, c3, c4, c5]) rfl (by rw [E.out]; exact HF.out)
    | some q0 =>
      have E : Hid (y = (madeN x ((cutL x b).map (·.1)) ((cutL x b).map (·.2)) keep, 0)) := Lib.hid (by rw [E0.out]; rfl)
      clear E0
      simp only [Option.isSome_some, Option.getD_some]
      go_wp2_with fail
      refine HK3.out _ _ ?_
      clear HK3
      refine wp_seq_k fun K4 hK => ?_
      have HK4 := Lib.hid hK
      clear hK
      go_wp2_with fail
      refine HK4.out _ _ ?_
      clear HK4
      refine wp_seq_k fun K5 hK => ?_
      have HK5 := Lib.hid hK
      clear hK
      go_wp2_with fail
      refine HK5.out _ _ ?_
      clear HK5
      refine wp_seq_k fun K6 hK => ?_
      have HK6 := Lib.hid hK
      clear hK
      have H3 : Hid (MkR w (w.heap.size + 1 + 1) (cuB w x Ab cb Ak ck) (.slice none 0 0) (.slice none 0 0) ((cutTo x b 0).map (·.1)) ((cutTo x b 0).map (·.2)) w3) := Lib.hid (MkR.start S2.out)
      clear S2
      obtain ⟨i0, hi0, iz0, iz1, iz2⟩ := info_parts infoBytes
      obtain ⟨j0, hj0, jz0, jz1, jz2⟩ := info_parts infoRefs
      have HI := Lib.hid (And.intro hi0 (And.intro iz0 (And.intro iz1 (And.intro iz2 (And.intro hj0 (And.intro jz0 (And.intro jz1 jz2)))))))
      clear hi0 iz0 iz1 iz2 hj0 jz0 jz1 jz2
      go_wp2_with fail
      go_loopw [10, 11, 12] (fun v4 v5 i wr => ∃ k : Nat, k ≤ x.bytes.length ∧ i = .int .i64 k ∧ Hid (MkR w (w.heap.size + 1 + 1) (cuB w x Ab cb Ak ck) v4 v5 ((cutTo x b k).map (·.1)) ((cutTo x b k).map (·.2)) wr)) (fun _ _ i _ => x.bytes.length - (intOf i).toNat)
      case atStart => exact ⟨0, Nat.zero_le _, rfl, H3⟩
      case round =>
        clear H3
        obtain ⟨k, hk, rfl, HW⟩ := hrel
        obtain ⟨e0, e1, e2, e3, e4, e5⟩ := cells6 (box_cu HW.out.base)
        by_cases hlt : k < x.bytes.length
        · have j1 : (0 : Int) ≤ (k : Int) := by omega
          have j2 : (k : Int) < (x.bytes.length : Int) := by omega
          have hltk : k < x.kids.length := by omega
          have j3 : (k : Int) < (x.kids.length : Int) := by omega
          obtain ⟨ad, rfl, hab, hby⟩ := byte_at HR.out.1 hlt
          obtain ⟨kd, rfl, hkb, c0, c0a, c0b, c0c, c0d⟩ := ref_at2 HR.out.2.1 hltk
          have hby' := (HW.out.base.below.cell (p := ad.add k) (by rw [block_of_add]; exact hab)).trans hby
          by_cases hq : x.bytes[k] = b
          · have hne : ((x.bytes[k] : Int) != (b : Int)) = false := by simp [hq]
            have HC := Lib.hid (cutTo_hit hlt hltk hq)
            clear c0 c0a c0b c0c c0d hby hq
            generalize x.bytes[k] = p at hby' hne
            go_wp2
            go_roundw
            case rel => exact ⟨k + 1, by omega, by go_num, by rw [HC.out]; exact HW⟩
            case measure => simp [intOf]; omega
          · have hne : ((x.bytes[k] : Int) != (b : Int)) = true := by simp; omega
            have HC := Lib.hid (cutTo_miss hlt hltk hq)
            have hll := cutTo_len x b k
            have hl4 : ((cutTo x b k).map (·.1)).length ≤ 256 := by rw [List.length_map]; omega
            have hl5 : ((cutTo x b k).map (·.2)).length ≤ 256 := by rw [List.length_map]; omega
            generalize cutTo x b k = L at HC hl4 hl5 HW
            generalize x.bytes[k] = p at hby hby' hne HC
            generalize x.kids[k] = q at c0 c0a c0b c0c c0d HC
            clear c0a c0b c0c hq hll
            obtain ⟨q1, q2⟩ := q
            dsimp only at c0 c0d
            have HD := Lib.hid (And.intro hby (And.intro c0 c0d))
            clear hby c0 c0d
            obtain ⟨hi0, iz0, iz1, iz2, hj0, jz0, jz1, jz2⟩ := HI.out
            go_wp2_with (first
              | (at_builtin
                 refine wpList_append_any _ rfl (.tmp 40) (.tmp 46) _ rfl (w.heap.size + 1 + 1) 5 i0 _ 1 1 Tryz.underlying23 hi0 iz0 iz1 iz2 rfl (by omega) u10 (L.map (·.1)).length ((L.map (·.1)).flatMap nrow) rfl
                   (HW.out.alloc _).row4 _ (some ⟨wr.heap.size, 0, none⟩) 1 1 (nrow p) rfl (reads_of_blk (blk_newAt rfl) rfl rfl) (nrow_one _) (by unfold maxLen; omega) (by omega) (HW.out.alloc _).base.size ?_
                 intro v4 w4 hown hg hat
                 have S4 := Lib.hid ((HW.out.alloc _).app4 hown hg)
                 clear hown hg hat
                 obtain ⟨f0, f1, f2, f3, f4, f5⟩ := cells6 (box_cu S4.out.base)
                 have g0 := (S4.out.base.below.cell (p := kd.add (k * 2)) (by rw [block_of_add]; exact hkb)).trans HD.out.2.1
                 have g1 := (S4.out.base.below.cell (p := ⟨(kd.add (k * 2)).block, (kd.add (k * 2)).off + 1, none⟩) (by rw [block_of_add]; exact hkb)).trans HD.out.2.2
                 clear e0 e1 e2 e3 e4 e5 hby' HW)
              | (at_builtin
                 refine wpList_append_any _ rfl (.tmp 48) (.tmp 54) _ rfl (w.heap.size + 1 + 1) 29 j0 _ 2 16 Tryz.underlying24 hj0 jz0 jz1 jz2 rfl (by omega) u11 (L.map (·.2)).length ((L.map (·.2)).flatMap rrow) rfl
                   (S4.out.alloc _).row5 _ (some ⟨w4.heap.size, 0, none⟩) 1 1 (rrow (q1, q2)) rfl (reads_of_blk (blk_newAt rfl) rfl rfl) (rrow_one _) (by unfold maxLen; omega) (by omega) (S4.out.alloc _).base.size ?_
                 intro v5 w5 hown hg hat
                 have S5 := Lib.hid ((S4.out.alloc _).app5 hown hg)
                 clear hown hg hat
                 skip))
            go_roundw
            case rel => exact ⟨k + 1, by omega, by go_num, Lib.hid (by rw [HC.out, List.map_append, List.map_append]; exact S5.out)⟩
            case measure => simp [intOf]; omega
        · obtain rfl : k = x.bytes.length := by omega
          have i1 : ¬ ((x.bytes.length : Int) < (x.bytes.length : Int)) := by omega
          have HC := cutTo_all (x := x) (b := b) (by omega)
          rw [HC] at HW
          have hmem := cutL_mem (b := b) HR.out.2.2
          generalize (cutL x b).map (·.1) = l4 at HW E hmem
          generalize (cutL x b).map (·.2) = l5 at HW E hmem
          have HMEM := Lib.hid hmem
          clear HC hmem hk
          obtain ⟨A1, c1, A2, c2, rfl, rfl, a1, a2, -, -, n1, n2⟩ := HW.out.form
          have HA := Lib.hid (And.intro a1 (And.intro a2 (And.intro n1 n2)))
          clear a1 a2 n1 n2
          go_wp2_with fail
          refine HK6.out _ _ ?_
          clear HK6
          have hmd := made_r x _ l4 l5 A1 A2 c1 c2 keep wr (HN.out.below HW.out.base.below)
          unfold Nd.v at hmd
          have HMD := Lib.hid hmd
          clear hmd
          go_wp2_with fail
          refine HMD.out.mono ?_
          rintro e w5 ⟨rfl, hb⟩
          have S5 := Lib.hid (HW.out.on hb)
          clear hb HMD HW e0 e1 e2 e3 e4 e5
          have q5 := out_cu S5.out.base
          obtain ⟨d0, d1, d2, d3, d4, d5⟩ := cells6 q5
          have fz0 := q5.frozen 0
          have fz1 := q5.frozen 1
          have fz2 := q5.frozen 2
          have fz3 := q5.frozen 3
          have fz4 := q5.frozen 4
          have fz5 := q5.frozen 5
          have l6 := q5.lt
          obtain ⟨m, hm⟩ : ∃ m, m = madeN x l4 l5 keep := ⟨_, rfl⟩
          rw [← hm] at E
          have hm1 : m.bytes.length = l4.length := by rw [hm]; rfl
          have hm2 : m.kids.length = l5.length := by rw [hm]; rfl
          rw [← hm]
          obtain ⟨VV, hV, hg, q6⟩ := six_stores (.int .i64 m.kind) (.string m.code) (.string m.value) (.string m.path) (.slice A1 m.bytes.length c1) (.slice A2 m.kids.length c2) q5
          have HF : Hid (NdPair m 0 w (.returned (.tuple #[m.v A1 c1 A2 c2, .int .i64 0])) VV) := Lib.hid (by
            obtain ⟨B1, e1, B2, e2, h1, h2, -, -, r1, r2, -, -⟩ := S5.out.form
            injection h1 with h1a h1b h1c
            injection h2 with h2a h2b h2c
            subst h1a h1c h2a h2c
            rw [hm]
            exact made_out HR.out.2.2 keep HMEM.out.1 HMEM.out.2 HA.out.2.2.1 HA.out.2.2.2 r1 r2 (fun ad e => by have := HA.out.1 ad e; omega) (fun ad e => by have := HA.out.2.1 ad e; omega) hg (by omega) S5.out.base.below)
          have HMM := Lib.hid (And.intro hm1 hm2)
          clear hg q5 hm hm1 hm2 S5
          go_wp2
          rw [← hV]
          clear hV d0 d1 d2 d3 d4 d5 fz0 fz1 fz2 fz3 fz4 fz5
          obtain ⟨c0, c1', c2', c3, c4, c5⟩ := cells6 q6
          exact bodyPost_ret (v := .tuple #[.agg #[.int .i64 m.kind, .string m.code, .string m.value, .string m.path, .slice A1 m.bytes.length c1, .slice A2 m.kids.length c2], .int .i64 0]) (by simp [results, Tryz.results32, go_sem, c0, c1', c2', c3, c4, c5]) rfl (by rw [E.out]; exact HF.out)
end Go.Proofs.YtgjgcbemgmkncaaGreatDoor
namespace Go.Proofs.YtgjgcbemgmkncaaGreatDoor
open Go.RowKit Go.Shelf
set_option linter.unusedVariables false
set_option linter.unusedSimpArgs false

/-- The boxes of Add and Turn. -/
def adB (w : World) (x : Nd) (Ab : Option Addr) (cb : Nat) (Ak : Option Addr) (ck : Nat) (r : Int × Int) : List (Nat × TypeId × Array Value) := [(w.heap.size + 1 + 1, 26, #[.int .i64 0, .string { data := #[] }, .string { data := #[] }, .string { data := #[] }, .slice none 0 0, .slice none 0 0]), (w.heap.size + 1, 29, #[.int .i64 r.1, .int .u32 r.2]), (w.heap.size, 26, #[.int .i64 x.kind, .string x.code, .string x.value, .string x.path, .slice Ab x.bytes.length cb, .slice Ak x.kids.length ck])]
section
variable {w W : World} {x : Nd} {Ab Ak : Option Addr} {cb ck lo : Nat} {r : Int × Int}
theorem box_ad (h : MkW w lo (adB w x Ab cb Ak ck r) W) : Blk W w.heap.size 26 #[.int .i64 x.kind, .string x.code, .string x.value, .string x.path, .slice Ab x.bytes.length cb, .slice Ak x.kids.length ck] := (h.blk (w.heap.size, 26, #[.int .i64 x.kind, .string x.code, .string x.value, .string x.path, .slice Ab x.bytes.length cb, .slice Ak x.kids.length ck]) (by simp [adB])).2
theorem ref_ad (h : MkW w lo (adB w x Ab cb Ak ck r) W) : Blk W (w.heap.size + 1) 29 #[.int .i64 r.1, .int .u32 r.2] := (h.blk (w.heap.size + 1, 29, #[.int .i64 r.1, .int .u32 r.2]) (by simp [adB])).2
theorem out_ad (h : MkW w lo (adB w x Ab cb Ak ck r) W) : Blk W (w.heap.size + 1 + 1) 26 #[.int .i64 0, .string { data := #[] }, .string { data := #[] }, .string { data := #[] }, .slice none 0 0, .slice none 0 0] := (h.blk (w.heap.size + 1 + 1, 26, #[.int .i64 0, .string { data := #[] }, .string { data := #[] }, .string { data := #[] }, .slice none 0 0, .slice none 0 0]) (by simp [adB])).2
theorem ref_cells (h : MkW w lo (adB w x Ab cb Ak ck r) W) : W.cell? ⟨w.heap.size + 1, 0, none⟩ = some (.int .i64 r.1) ∧ W.cell? ⟨w.heap.size + 1, 1, none⟩ = some (.int .u32 r.2) := ⟨(ref_ad h).cell 0, (ref_ad h).cell 1⟩
end
theorem addL_mem {x : Nd} {b : Nat} {r : Int × Int} (hx : x.wf) (hb : b < 256) (hr : refOk r) : (∀ c ∈ (addL x b r).map (·.1), c < 256) ∧ ∀ q ∈ (addL x b r).map (·.2), refOk q := by
  have key : ∀ (l : List (Nat × (Int × Int))), (∀ p ∈ l, p.1 < 256 ∧ refOk p.2) → ∀ s : List (Nat × (Int × Int)) × Bool, (∀ p ∈ s.1, p.1 < 256 ∧ refOk p.2) → ∀ p ∈ (l.foldl (insStep b r) s).1, p.1 < 256 ∧ refOk p.2 := by
    intro l
    induction l with
    | nil => intro _ s hs; exact hs
    | cons p l ih =>
      intro hl s hs
      rw [List.foldl_cons]
      refine ih (fun q hq => hl q (by simp [hq])) _ ?_
      intro q hq
      unfold insStep at hq
      split at hq
      · simp only [List.mem_append, List.mem_singleton] at hq
        rcases hq with (hq | rfl) | rfl
        · exact hs q hq
        · exact ⟨hb, hr⟩
        · exact hl _ (by simp)
      · simp only [List.mem_append, List.mem_singleton] at hq
        rcases hq with hq | rfl
        · exact hs q hq
        · exact hl _ (by simp)
  have h0 : ∀ p ∈ (insTo (x.bytes.zip x.kids) b r (x.bytes.zip x.kids).length).1, p.1 < 256 ∧ refOk p.2 := by
    unfold insTo
    exact key _ (fun p hp => by
      have hm := List.mem_of_mem_take hp
      exact ⟨hx.bytes _ (List.of_mem_zip hm).1, hx.refs _ (List.of_mem_zip hm).2⟩) _ (fun p hp => by cases hp)
  have h1 : ∀ p ∈ addL x b r, p.1 < 256 ∧ refOk p.2 := by
    unfold addL putInL
    intro p hp
    split at hp
    · exact h0 p hp
    · simp only [List.mem_append, List.mem_singleton] at hp
      rcases hp with hp | rfl
      · exact h0 p hp
      · exact ⟨hb, hr⟩
  refine ⟨fun c hc => ?_, fun q hq => ?_⟩
  · obtain ⟨p, hp, rfl⟩ := List.mem_map.1 hc
    exact (h1 p hp).1
  · obtain ⟨p, hp, rfl⟩ := List.mem_map.1 hq
    exact (h1 p hp).2

set_option maxHeartbeats 6400000 in
set_option maxRecDepth 100000 in
theorem add3 {u0 u2 u5 u7 u9 u10 u11 u14 u15 u16 u17 u18 u19 u20 u21 u22 u23 u24 u25 u26 u27 u28 u29 u30 u31 u32 u33 u34 u35 u36 u37 u38 u39 u40 u41 u42 u43 u44 u45 u46 u47 u48 u49 u50 u51 u52 u53 u54 u55 u56 u57 u58 u59 u60 u61 u62 u63 u64 u65 u66 u67 u68 u69 u70 u71 u72 u73 u74 u75 u76 u77 u78 u79 u80 u81 u82 u83 u84 u85 u86 u87 u88 u89 u90 u91 u92 u93 u94 u95 u96 u97 u98 u99 u100 u101 v4 v5 : Value} (x : Nd) (b : Nat) (r : Int × Int) (keep : Bool) (l4 : List Nat) (l5 : List (Int × Int)) (w W : World) (Ab : Option Addr) (cb : Nat) (Ak : Option Addr) (ck : Nat) (hn : NdAt w x (.agg #[.int .i64 x.kind, .string x.code, .string x.value, .string x.path, .slice Ab x.bytes.length cb, .slice Ak x.kids.length ck])) (hmem : (∀ c ∈ l4, c < 256) ∧ ∀ q ∈ l5, refOk q)
    (h : MkR w (w.heap.size + 1 + 1 + 1) (adB w x Ab cb Ak ck r) v4 v5 l4 l5 W) :
    Code.wp Tryz.prog (bodyTail Tryz.f31 10) (bodyPost Tryz.prog Tryz.f31 (fun e w' => NdPair (madeN x l4 l5 keep) 0 w e w')) ⟨#[u0, .int .u8 (b : Int), u2, .bool keep, .pointer (some ⟨w.heap.size, 0, none⟩), u5, .pointer (some ⟨w.heap.size + 1, 0, none⟩), u7, .pointer (some ⟨w.heap.size + 1 + 1, 0, none⟩), u9, u10, u11, v4, v5, u14, u15, u16, u17, u18, u19, u20, u21, u22, u23, u24, u25, u26, u27, u28, u29, u30, u31, u32, u33, u34, u35, u36, u37, u38, u39, u40, u41, u42, u43, u44, u45, u46, u47, u48, u49, u50, u51, u52, u53, u54, u55, u56, u57, u58, u59, u60, u61, u62, u63, u64, u65, u66, u67, u68, u69, u70, u71, u72, u73, u74, u75, u76, u77, u78, u79, u80, u81, u82, u83, u84, u85, u86, u87, u88, u89, u90, u91, u92, u93, u94, u95, u96, u97, u98, u99, u100, u101], []⟩ W := by
  conv => arg 2; whnf
  have HW := Lib.hid h
  have HN := Lib.hid hn
  have HMEM := Lib.hid hmem
  clear h hn hmem
  obtain ⟨e0, e1, e2, e3, e4, e5⟩ := cells6 (box_ad HW.out.base)
  obtain ⟨A1, c1, A2, c2, rfl, rfl, a1, a2, -, -, n1, n2⟩ := HW.out.form
  have HA := Lib.hid (And.intro a1 (And.intro a2 (And.intro n1 n2)))
  clear a1 a2 n1 n2
  have hmd := made_r x _ l4 l5 A1 A2 c1 c2 keep W (HN.out.below HW.out.base.below)
  unfold Nd.v at hmd
  have HMD := Lib.hid hmd
  clear hmd
  go_wp2_with fail
  refine HMD.out.mono ?_
  rintro e w5 ⟨rfl, hb⟩
  have S5 := Lib.hid (HW.out.on hb)
  clear hb HMD HW e0 e1 e2 e3 e4 e5
  have q5 := out_ad S5.out.base
  obtain ⟨d0, d1, d2, d3, d4, d5⟩ := cells6 q5
  have fz0 := q5.frozen 0
  have fz1 := q5.frozen 1
  have fz2 := q5.frozen 2
  have fz3 := q5.frozen 3
  have fz4 := q5.frozen 4
  have fz5 := q5.frozen 5
  have l6 := q5.lt
  obtain ⟨m, hm⟩ : ∃ m, m = madeN x l4 l5 keep := ⟨_, rfl⟩
  have hm1 : m.bytes.length = l4.length := by rw [hm]; rfl
  have hm2 : m.kids.length = l5.length := by rw [hm]; rfl
  rw [← hm]
  obtain ⟨VV, hV, hg, q6⟩ := six_stores (.int .i64 m.kind) (.string m.code) (.string m.value) (.string m.path) (.slice A1 m.bytes.length c1) (.slice A2 m.kids.length c2) q5
  have HF : Hid (NdPair m 0 w (.returned (.tuple #[m.v A1 c1 A2 c2, .int .i64 0])) VV) := Lib.hid (by
    obtain ⟨B1, e1, B2, e2, h1, h2, -, -, r1, r2, -, -⟩ := S5.out.form
    injection h1 with h1a h1b h1c
    injection h2 with h2a h2b h2c
    subst h1a h1c h2a h2c
    rw [hm]
    exact made_out HN.out.1 keep HMEM.out.1 HMEM.out.2 HA.out.2.2.1 HA.out.2.2.2 r1 r2 (fun ad e => by have := HA.out.1 ad e; omega) (fun ad e => by have := HA.out.2.1 ad e; omega) hg (by omega) S5.out.base.below)
  have HMM := Lib.hid hm
  clear hg q5 hm hm1 hm2 S5
  go_wp2
  rw [← hV]
  clear hV d0 d1 d2 d3 d4 d5 fz0 fz1 fz2 fz3 fz4 fz5
  obtain ⟨c0, c1', c2', c3, c4, c5⟩ := cells6 q6
  exact bodyPost_ret (v := .tuple #[.agg #[.int .i64 m.kind, .string m.code, .string m.value, .string m.path, .slice A1 m.bytes.length c1, .slice A2 m.kids.length c2], .int .i64 0]) (by simp [results, Tryz.results31, go_sem, c0, c1', c2', c3, c4, c5]) rfl (by rw [← HMM.out]; exact HF.out)

set_option maxHeartbeats 12800000 in
set_option maxRecDepth 100000 in
theorem add2 {u0 u2 u5 u7 u9 u10 u11 u12 u13 u14 u15 u16 u17 u18 u19 u20 u21 u22 u23 u24 u25 u26 u27 u28 u29 u30 u31 u32 u33 u34 u35 u36 u37 u38 u39 u40 u41 u42 u43 u44 u45 u46 u47 u48 u49 u50 u51 u52 u53 u54 u55 u56 u57 u58 u59 u60 u61 u62 u63 u64 u65 u66 u67 u68 u69 u70 u71 u72 u73 u74 u75 u76 u77 u78 u79 u80 u81 u82 u83 u84 u85 u86 u87 u88 u89 u90 u91 u92 u93 u94 u95 u96 u97 u98 u99 u100 u101 : Value} (x : Nd) (b : Nat) (r : Int × Int) (keep : Bool) (w W : World) (Ab : Option Addr) (cb : Nat) (Ak : Option Addr) (ck : Nat) (hn : NdAt w x (.agg #[.int .i64 x.kind, .string x.code, .string x.value, .string x.path, .slice Ab x.bytes.length cb, .slice Ak x.kids.length ck])) (hb0 : Reads w w.heap.size 1 Ab x.bytes.length (x.bytes.flatMap nrow)) (hk0 : Reads w w.heap.size 2 Ak x.kids.length (x.kids.flatMap rrow)) (hb256 : b < 256) (hrok : refOk r) (hm : x.may = true)
    (h : MkW w (w.heap.size + 1 + 1 + 1) (adB w x Ab cb Ak ck r) W) :
    Code.wp Tryz.prog (bodyTail Tryz.f31 5) (bodyPost Tryz.prog Tryz.f31 (fun e w' => NdPair (madeN x ((addL x b r).map (·.1)) ((addL x b r).map (·.2)) keep) 0 w e w')) ⟨#[u0, .int .u8 (b : Int), u2, .bool keep, .pointer (some ⟨w.heap.size, 0, none⟩), u5, .pointer (some ⟨w.heap.size + 1, 0, none⟩), u7, .pointer (some ⟨w.heap.size + 1 + 1, 0, none⟩), u9, u10, u11, u12, u13, u14, u15, u16, u17, u18, u19, u20, u21, u22, u23, u24, u25, u26, u27, u28, u29, u30, u31, u32, u33, u34, u35, u36, u37, u38, u39, u40, u41, u42, u43, u44, u45, u46, u47, u48, u49, u50, u51, u52, u53, u54, u55, u56, u57, u58, u59, u60, u61, u62, u63, u64, u65, u66, u67, u68, u69, u70, u71, u72, u73, u74, u75, u76, u77, u78, u79, u80, u81, u82, u83, u84, u85, u86, u87, u88, u89, u90, u91, u92, u93, u94, u95, u96, u97, u98, u99, u100, u101], []⟩ W := by
  conv => arg 2; whnf
  have hlk0 : x.bytes.length = x.kids.length := (inner_parts (may_inner hm)).2.2.2.2.1
  have hlk1 : x.bytes.length ≤ x.kids.length := by omega
  have hlk2 : x.kids.length ≤ x.bytes.length := by omega
  clear hlk0
  have hl256 : x.kids.length ≤ 256 := (inner_parts (may_inner hm)).2.2.2.2.2.1
  have hzl : (x.bytes.zip x.kids).length = x.bytes.length := by rw [List.length_zip]; omega
  have HZ := Lib.hid hzl
  have HR := Lib.hid (And.intro hb0 hk0)
  have HMEM := Lib.hid (addL_mem (b := b) (r := r) hn.1 hb256 hrok)
  have HN := Lib.hid hn
  have H3 : Hid (MkR w (w.heap.size + 1 + 1 + 1) (adB w x Ab cb Ak ck r) (.slice none 0 0) (.slice none 0 0) ((insTo (x.bytes.zip x.kids) b r 0).1.map (·.1)) ((insTo (x.bytes.zip x.kids) b r 0).1.map (·.2)) W) := Lib.hid (MkR.start h)
  clear hm hb0 hk0 hn h hzl hrok
  refine wp_seq_k fun K0 hK => ?_
  have HK0 := Lib.hid hK
  clear hK
  go_wp2_with fail
  refine HK0.out _ _ ?_
  clear HK0
  refine wp_seq_k fun K1 hK => ?_
  have HK1 := Lib.hid hK
  clear hK
  go_wp2_with fail
  refine HK1.out _ _ ?_
  clear HK1
  refine wp_seq_k fun K2 hK => ?_
  have HK2 := Lib.hid hK
  clear hK
  go_wp2_with fail
  refine HK2.out _ _ ?_
  clear HK2
  refine wp_seq_k fun K6 hK => ?_
  have HK6 := Lib.hid hK
  clear hK
  obtain ⟨i0, hi0, iz0, iz1, iz2⟩ := info_parts infoBytes
  obtain ⟨j0, hj0, jz0, jz1, jz2⟩ := info_parts infoRefs
  have HI := Lib.hid (And.intro hi0 (And.intro iz0 (And.intro iz1 (And.intro iz2 (And.intro hj0 (And.intro jz0 (And.intro jz1 jz2)))))))
  clear hi0 iz0 iz1 iz2 hj0 jz0 jz1 jz2
  go_wp2_with fail
  go_loopw [12, 13, 14, 15] (fun v4 v5 d i wr => ∃ (k : Nat) (t : Bool), k ≤ x.bytes.length ∧ d = .bool t ∧ i = .int .i64 k ∧ Hid (t = (insTo (x.bytes.zip x.kids) b r k).2 ∧ MkR w (w.heap.size + 1 + 1 + 1) (adB w x Ab cb Ak ck r) v4 v5 ((insTo (x.bytes.zip x.kids) b r k).1.map (·.1)) ((insTo (x.bytes.zip x.kids) b r k).1.map (·.2)) wr)) (fun _ _ _ i _ => x.bytes.length - (intOf i).toNat)
  case atStart => exact ⟨0, false, Nat.zero_le _, rfl, rfl, Lib.hid ⟨rfl, H3.out⟩⟩
  case round =>
    clear H3
    obtain ⟨k, t, hk, rfl, rfl, HW⟩ := hrel
    obtain ⟨z0, z1, z2, z3, z4, z5⟩ := cells6 (box_ad HW.out.2.base)
    by_cases hlt : k < x.bytes.length
    · clear z0 z1 z2 z3 z4 z5
      have j1 : (0 : Int) ≤ (k : Int) := by omega
      have j2 : (k : Int) < (x.bytes.length : Int) := by omega
      have hltk : k < x.kids.length := by omega
      have j3 : (k : Int) < (x.kids.length : Int) := by omega
      obtain ⟨ad, rfl, hab, hby⟩ := byte_at HR.out.1 hlt
      obtain ⟨kd, rfl, hkb, c0, c0a, c0b, c0c, c0d⟩ := ref_at2 HR.out.2 hltk
      have hst := insTo_succ (l := x.bytes.zip x.kids) (b := b) (r := r) (k := k) (by rw [HZ.out]; exact hlt)
      rw [List.getElem_zip] at hst
      have hll := insTo_len (l := x.bytes.zip x.kids) (b := b) (r := r) k (by rw [HZ.out]; omega)
      have hl0 : (insTo (x.bytes.zip x.kids) b r k).1.length ≤ 256 := by rw [hll]; split <;> omega
      have HC := Lib.hid hst
      clear hst hll
      generalize insTo (x.bytes.zip x.kids) b r k = L at HC hl0 HW
      obtain ⟨L, t'⟩ := L
      obtain rfl : t = t' := HW.out.1
      have S0 := Lib.hid HW.out.2
      clear HW
      dsimp only at hl0 S0
      have hl4 : (L.map (·.1)).length ≤ 256 := by rw [List.length_map]; omega
      have hl5 : (L.map (·.2)).length ≤ 256 := by rw [List.length_map]; omega
      generalize x.bytes[k] = p at hby HC
      generalize x.kids[k] = q at c0 c0a c0b c0c c0d HC
      clear c0a c0b c0c
      obtain ⟨q1, q2⟩ := q
      dsimp only at c0 c0d
      have HD := Lib.hid (And.intro hby (And.intro c0 c0d))
      clear hby c0 c0d
      obtain ⟨hi0, iz0, iz1, iz2, hj0, jz0, jz1, jz2⟩ := HI.out
      obtain ⟨e0, e1, e2, e3, e4, e5⟩ := cells6 (box_ad S0.out.base)
      obtain ⟨e6, e7⟩ := ref_cells S0.out.base
      have e8 := (S0.out.base.below.cell (p := ad.add k) (by rw [block_of_add]; exact hab)).trans HD.out.1
      have e9 := (S0.out.base.below.cell (p := kd.add (k * 2)) (by rw [block_of_add]; exact hkb)).trans HD.out.2.1
      have ex := (S0.out.base.below.cell (p := ⟨(kd.add (k * 2)).block, (kd.add (k * 2)).off + 1, none⟩) (by rw [block_of_add]; exact hkb)).trans HD.out.2.2
      cases t with
      | true =>
        have HC2 : Hid (insTo (x.bytes.zip x.kids) b r (k + 1) = (L ++ [(p, (q1, q2))], true)) := Lib.hid (by rw [HC.out]; unfold insStep; rw [if_neg (fun h => by cases h.1)])
        go_wp2_with (first
          | (at_builtin
             refine wpList_append_any _ rfl (.tmp 71) (.tmp 77) _ rfl (w.heap.size + 1 + 1 + 1) 5 i0 _ 1 1 Tryz.underlying23 hi0 iz0 iz1 iz2 rfl (by omega) u12 (L.map (·.1)).length ((L.map (·.1)).flatMap nrow) rfl
               (S0.out.alloc _).row4 _ (some ⟨wr.heap.size, 0, none⟩) 1 1 (nrow p) rfl (reads_of_blk (blk_newAt rfl) rfl rfl) (nrow_one _) (by unfold maxLen; omega) (by omega) (S0.out.alloc _).base.size ?_
             intro v6 w6 hown hg hat
             have S6 := Lib.hid ((S0.out.alloc _).app4 hown hg)
             clear hown hg hat
             obtain ⟨g0, g1, g2, g3, g4, g5⟩ := cells6 (box_ad S6.out.base)
             obtain ⟨g6, g7⟩ := ref_cells S6.out.base
             have g8 := (S6.out.base.below.cell (p := ad.add k) (by rw [block_of_add]; exact hab)).trans HD.out.1
             have g9 := (S6.out.base.below.cell (p := kd.add (k * 2)) (by rw [block_of_add]; exact hkb)).trans HD.out.2.1
             have gx := (S6.out.base.below.cell (p := ⟨(kd.add (k * 2)).block, (kd.add (k * 2)).off + 1, none⟩) (by rw [block_of_add]; exact hkb)).trans HD.out.2.2
             clear e0 e1 e2 e3 e4 e5 e6 e7 e8 e9 ex)
          | (at_builtin
             refine wpList_append_any _ rfl (.tmp 79) (.tmp 85) _ rfl (w.heap.size + 1 + 1 + 1) 29 j0 _ 2 16 Tryz.underlying24 hj0 jz0 jz1 jz2 rfl (by omega) u13 (L.map (·.2)).length ((L.map (·.2)).flatMap rrow) rfl
               (S6.out.alloc _).row5 _ (some ⟨w6.heap.size, 0, none⟩) 1 1 (rrow (q1, q2)) rfl (reads_of_blk (blk_newAt rfl) rfl rfl) (rrow_one _) (by unfold maxLen; omega) (by omega) (S6.out.alloc _).base.size ?_
             intro v7 w7 hown hg hat
             have S7 := Lib.hid ((S6.out.alloc _).app5 hown hg)
             clear hown hg hat
             skip))
        go_roundw
        case rel => exact ⟨k + 1, true, by omega, rfl, by go_num, Lib.hid (by rw [HC2.out]; refine ⟨rfl, ?_⟩; rw [List.map_append, List.map_append]; exact S7.out)⟩
        case measure => simp [intOf]; omega
      | false =>
        by_cases hpb : b < p
        · have HC2 : Hid (insTo (x.bytes.zip x.kids) b r (k + 1) = (L ++ [(b, r)] ++ [(p, (q1, q2))], true)) := Lib.hid (by rw [HC.out]; unfold insStep; rw [if_pos ⟨rfl, hpb⟩])
          have hgt : (p : Int) > (b : Int) := by omega
          have hm4 : (L.map (·.1) ++ [b]).length ≤ 257 := by rw [List.length_append]; simp only [List.length_cons, List.length_nil]; omega
          have hm5 : (L.map (·.2) ++ [r]).length ≤ 257 := by rw [List.length_append]; simp only [List.length_cons, List.length_nil]; omega
          go_wp2_with (first
            | (at_builtin
               refine wpList_append_any _ rfl (.tmp 63) (.tmp 65) _ rfl (w.heap.size + 1 + 1 + 1) 5 i0 _ 1 1 Tryz.underlying23 hi0 iz0 iz1 iz2 rfl (by omega) u12 (L.map (·.1)).length ((L.map (·.1)).flatMap nrow) rfl
                 (S0.out.alloc _).row4 _ (some ⟨wr.heap.size, 0, none⟩) 1 1 (nrow b) rfl (reads_of_blk (blk_newAt rfl) rfl rfl) (nrow_one _) (by unfold maxLen; omega) (by omega) (S0.out.alloc _).base.size ?_
               intro v4 w4 hown hg hat
               have S4 := Lib.hid ((S0.out.alloc _).app4 hown hg)
               clear hown hg hat
               obtain ⟨f0, f1, f2, f3, f4, f5⟩ := cells6 (box_ad S4.out.base)
               obtain ⟨f6, f7⟩ := ref_cells S4.out.base
               have f8 := (S4.out.base.below.cell (p := ad.add k) (by rw [block_of_add]; exact hab)).trans HD.out.1
               have f9 := (S4.out.base.below.cell (p := kd.add (k * 2)) (by rw [block_of_add]; exact hkb)).trans HD.out.2.1
               have fx := (S4.out.base.below.cell (p := ⟨(kd.add (k * 2)).block, (kd.add (k * 2)).off + 1, none⟩) (by rw [block_of_add]; exact hkb)).trans HD.out.2.2
               clear e0 e1 e2 e3 e4 e5 e6 e7 e8 e9 ex)
            | (at_builtin
               refine wpList_append_any _ rfl (.tmp 67) (.tmp 69) _ rfl (w.heap.size + 1 + 1 + 1) 29 j0 _ 2 16 Tryz.underlying24 hj0 jz0 jz1 jz2 rfl (by omega) u13 (L.map (·.2)).length ((L.map (·.2)).flatMap rrow) rfl
                 (S4.out.alloc _).row5 _ (some ⟨w4.heap.size, 0, none⟩) 1 1 (rrow (r.1, r.2)) rfl (reads_of_blk (blk_newAt rfl) rfl rfl) (rrow_one _) (by unfold maxLen; omega) (by omega) (S4.out.alloc _).base.size ?_
               intro v5 w5 hown hg hat
               have S5 := Lib.hid ((S4.out.alloc _).app5 hown hg)
               clear hown hg hat
               obtain ⟨h0, h1, h2, h3, h4, h5⟩ := cells6 (box_ad S5.out.base)
               obtain ⟨h6, h7⟩ := ref_cells S5.out.base
               have h8 := (S5.out.base.below.cell (p := ad.add k) (by rw [block_of_add]; exact hab)).trans HD.out.1
               have h9 := (S5.out.base.below.cell (p := kd.add (k * 2)) (by rw [block_of_add]; exact hkb)).trans HD.out.2.1
               have hx := (S5.out.base.below.cell (p := ⟨(kd.add (k * 2)).block, (kd.add (k * 2)).off + 1, none⟩) (by rw [block_of_add]; exact hkb)).trans HD.out.2.2
               clear f0 f1 f2 f3 f4 f5 f6 f7 f8 f9 fx)
            | (at_builtin
               refine wpList_append_any _ rfl (.tmp 71) (.tmp 77) _ rfl (w.heap.size + 1 + 1 + 1) 5 i0 _ 1 1 Tryz.underlying23 hi0 iz0 iz1 iz2 rfl (by omega) v4 (L.map (·.1) ++ [b]).length ((L.map (·.1) ++ [b]).flatMap nrow) rfl
                 (S5.out.alloc _).row4 _ (some ⟨w5.heap.size, 0, none⟩) 1 1 (nrow p) rfl (reads_of_blk (blk_newAt rfl) rfl rfl) (nrow_one _) (by unfold maxLen; omega) (by omega) (S5.out.alloc _).base.size ?_
               intro v6 w6 hown hg hat
               have S6 := Lib.hid ((S5.out.alloc _).app4 hown hg)
               clear hown hg hat
               obtain ⟨g0, g1, g2, g3, g4, g5⟩ := cells6 (box_ad S6.out.base)
               obtain ⟨g6, g7⟩ := ref_cells S6.out.base
               have g8 := (S6.out.base.below.cell (p := ad.add k) (by rw [block_of_add]; exact hab)).trans HD.out.1
               have g9 := (S6.out.base.below.cell (p := kd.add (k * 2)) (by rw [block_of_add]; exact hkb)).trans HD.out.2.1
               have gx := (S6.out.base.below.cell (p := ⟨(kd.add (k * 2)).block, (kd.add (k * 2)).off + 1, none⟩) (by rw [block_of_add]; exact hkb)).trans HD.out.2.2
               clear h0 h1 h2 h3 h4 h5 h6 h7 h8 h9 hx)
            | (at_builtin
               refine wpList_append_any _ rfl (.tmp 79) (.tmp 85) _ rfl (w.heap.size + 1 + 1 + 1) 29 j0 _ 2 16 Tryz.underlying24 hj0 jz0 jz1 jz2 rfl (by omega) v5 (L.map (·.2) ++ [r]).length ((L.map (·.2) ++ [r]).flatMap rrow) rfl
                 (S6.out.alloc _).row5 _ (some ⟨w6.heap.size, 0, none⟩) 1 1 (rrow (q1, q2)) rfl (reads_of_blk (blk_newAt rfl) rfl rfl) (rrow_one _) (by unfold maxLen; omega) (by omega) (S6.out.alloc _).base.size ?_
               intro v7 w7 hown hg hat
               have S7 := Lib.hid ((S6.out.alloc _).app5 hown hg)
               clear hown hg hat
               skip))
          go_roundw
          case rel => exact ⟨k + 1, true, by omega, rfl, by go_num, Lib.hid (by rw [HC2.out]; refine ⟨rfl, ?_⟩; rw [List.map_append, List.map_append, List.map_append, List.map_append]; exact S7.out)⟩
          case measure => simp [intOf]; omega
        · have HC2 : Hid (insTo (x.bytes.zip x.kids) b r (k + 1) = (L ++ [(p, (q1, q2))], false)) := Lib.hid (by rw [HC.out]; unfold insStep; rw [if_neg (fun h => hpb h.2)])
          have hgt : ¬ ((p : Int) > (b : Int)) := by omega
          go_wp2_with (first
            | (at_builtin
               refine wpList_append_any _ rfl (.tmp 71) (.tmp 77) _ rfl (w.heap.size + 1 + 1 + 1) 5 i0 _ 1 1 Tryz.underlying23 hi0 iz0 iz1 iz2 rfl (by omega) u12 (L.map (·.1)).length ((L.map (·.1)).flatMap nrow) rfl
                 (S0.out.alloc _).row4 _ (some ⟨wr.heap.size, 0, none⟩) 1 1 (nrow p) rfl (reads_of_blk (blk_newAt rfl) rfl rfl) (nrow_one _) (by unfold maxLen; omega) (by omega) (S0.out.alloc _).base.size ?_
               intro v6 w6 hown hg hat
               have S6 := Lib.hid ((S0.out.alloc _).app4 hown hg)
               clear hown hg hat
               obtain ⟨g0, g1, g2, g3, g4, g5⟩ := cells6 (box_ad S6.out.base)
               obtain ⟨g6, g7⟩ := ref_cells S6.out.base
               have g8 := (S6.out.base.below.cell (p := ad.add k) (by rw [block_of_add]; exact hab)).trans HD.out.1
               have g9 := (S6.out.base.below.cell (p := kd.add (k * 2)) (by rw [block_of_add]; exact hkb)).trans HD.out.2.1
               have gx := (S6.out.base.below.cell (p := ⟨(kd.add (k * 2)).block, (kd.add (k * 2)).off + 1, none⟩) (by rw [block_of_add]; exact hkb)).trans HD.out.2.2
               clear e0 e1 e2 e3 e4 e5 e6 e7 e8 e9 ex)
            | (at_builtin
               refine wpList_append_any _ rfl (.tmp 79) (.tmp 85) _ rfl (w.heap.size + 1 + 1 + 1) 29 j0 _ 2 16 Tryz.underlying24 hj0 jz0 jz1 jz2 rfl (by omega) u13 (L.map (·.2)).length ((L.map (·.2)).flatMap rrow) rfl
                 (S6.out.alloc _).row5 _ (some ⟨w6.heap.size, 0, none⟩) 1 1 (rrow (q1, q2)) rfl (reads_of_blk (blk_newAt rfl) rfl rfl) (rrow_one _) (by unfold maxLen; omega) (by omega) (S6.out.alloc _).base.size ?_
               intro v7 w7 hown hg hat
               have S7 := Lib.hid ((S6.out.alloc _).app5 hown hg)
               clear hown hg hat
               skip))
          go_roundw
          case rel => exact ⟨k + 1, false, by omega, rfl, by go_num, Lib.hid (by rw [HC2.out]; refine ⟨rfl, ?_⟩; rw [List.map_append, List.map_append]; exact S7.out)⟩
          case measure => simp [intOf]; omega
    · obtain rfl : k = x.bytes.length := by omega
      have i1 : ¬ ((x.bytes.length : Int) < (x.bytes.length : Int)) := by omega
      have hL : addL x b r = if t = true then (insTo (x.bytes.zip x.kids) b r x.bytes.length).1 else (insTo (x.bytes.zip x.kids) b r x.bytes.length).1 ++ [(b, r)] := by
        unfold addL putInL
        rw [HZ.out, ← HW.out.1]
      have hll := insTo_len (l := x.bytes.zip x.kids) (b := b) (r := r) x.bytes.length (by rw [HZ.out]; omega)
      have hl0 : (insTo (x.bytes.zip x.kids) b r x.bytes.length).1.length ≤ 257 := by rw [hll]; split <;> omega
      have S0 := Lib.hid HW.out.2
      have HL := Lib.hid hL
      clear HW hL hll
      generalize (insTo (x.bytes.zip x.kids) b r x.bytes.length).1 = L at S0 HL hl0
      have hl4 : (L.map (·.1)).length ≤ 257 := by rw [List.length_map]; omega
      have hl5 : (L.map (·.2)).length ≤ 257 := by rw [List.length_map]; omega
      go_wp2_with fail
      refine HK6.out _ _ ?_
      clear HK6 z0 z1 z2 z3 z4 z5 hk i1
      refine wp_seq_k fun K7 hK => ?_
      have HK7 := Lib.hid hK
      clear hK
      cases t with
      | true =>
        go_wp2_with fail
        refine HK7.out _ _ ?_
        have hLL : addL x b r = L := by rw [HL.out]; rfl
        rw [hLL] at HMEM ⊢
        exact add3 x b r keep _ _ w wr Ab cb Ak ck HN.out HMEM.out S0.out
      | false =>
        obtain ⟨hi0, iz0, iz1, iz2, hj0, jz0, jz1, jz2⟩ := HI.out
        go_wp2_with (first
          | (at_builtin
             refine wpList_append_any _ rfl (.tmp 89) (.tmp 91) _ rfl (w.heap.size + 1 + 1 + 1) 5 i0 _ 1 1 Tryz.underlying23 hi0 iz0 iz1 iz2 rfl (by omega) u12 (L.map (·.1)).length ((L.map (·.1)).flatMap nrow) rfl
               (S0.out.alloc _).row4 _ (some ⟨wr.heap.size, 0, none⟩) 1 1 (nrow b) rfl (reads_of_blk (blk_newAt rfl) rfl rfl) (nrow_one _) (by unfold maxLen; omega) (by omega) (S0.out.alloc _).base.size ?_
             intro v4 w4 hown hg hat
             have S4 := Lib.hid ((S0.out.alloc _).app4 hown hg)
             clear hown hg hat
             obtain ⟨r6, r7⟩ := ref_cells S4.out.base)
          | (at_builtin
             refine wpList_append_any _ rfl (.tmp 93) (.tmp 95) _ rfl (w.heap.size + 1 + 1 + 1) 29 j0 _ 2 16 Tryz.underlying24 hj0 jz0 jz1 jz2 rfl (by omega) u13 (L.map (·.2)).length ((L.map (·.2)).flatMap rrow) rfl
               (S4.out.alloc _).row5 _ (some ⟨w4.heap.size, 0, none⟩) 1 1 (rrow (r.1, r.2)) rfl (reads_of_blk (blk_newAt rfl) rfl rfl) (rrow_one _) (by unfold maxLen; omega) (by omega) (S4.out.alloc _).base.size ?_
             intro v5 w5 hown hg hat
             have S5 := Lib.hid ((S4.out.alloc _).app5 hown hg)
             clear hown hg hat
             skip))
        refine HK7.out _ _ ?_
        have hLL : addL x b r = L ++ [(b, r)] := by rw [HL.out]; rfl
        rw [hLL, List.map_append, List.map_append] at HMEM ⊢
        exact add3 x b r keep _ _ w w5 Ab cb Ak ck HN.out HMEM.out S5.out

set_option maxHeartbeats 6400000 in
set_option maxRecDepth 100000 in
theorem Add_r (x : Nd) (V : Value) (b : Nat) (r : Int × Int) (keep : Bool) (w : World) (h : NdAt w x V) (hb256 : b < 256) (hrok : refOk r) : Calls Tryz.prog 31 #[V, .int .u8 (b : Int), .agg #[.int .i64 r.1, .int .u32 r.2], .bool keep] w (fun e w' => NdPair (addR x b r keep).1 (addR x b r keep).2 w e w') := by
  obtain ⟨hwf, Ab, cb, Ak, ck, rfl, hb0, hk0⟩ := h
  have hnd : NdAt w x (x.v Ab cb Ak ck) := ⟨hwf, Ab, cb, Ak, ck, rfl, hb0, hk0⟩
  have h0 : MkW w (w.heap.size + 1 + 1 + 1) (adB w x Ab cb Ak ck r) (((w.alloc (.cells #[.int .i64 x.kind, .string x.code, .string x.value, .string x.path, .slice Ab x.bytes.length cb, .slice Ak x.kids.length ck] 26)).alloc (.cells #[.int .i64 r.1, .int .u32 r.2] 29)).alloc (.cells #[.int .i64 0, .string { data := #[] }, .string { data := #[] }, .string { data := #[] }, .slice none 0 0, .slice none 0 0] 26)) := (((MkW.start w).push rfl 26 #[.int .i64 x.kind, .string x.code, .string x.value, .string x.path, .slice Ab x.bytes.length cb, .slice Ak x.kids.length ck]).push (by simp) 29 #[.int .i64 r.1, .int .u32 r.2]).push (by simp) 26 #[.int .i64 0, .string { data := #[] }, .string { data := #[] }, .string { data := #[] }, .slice none 0 0, .slice none 0 0]
  have H0 := Lib.hid h0
  have HN := Lib.hid hnd
  have HR := Lib.hid (And.intro hb0 (And.intro hk0 (And.intro hwf hrok)))
  obtain ⟨y, hy⟩ : ∃ y, y = addR x b r keep := ⟨_, rfl⟩
  rw [← hy]
  have HY := Lib.hid hy
  clear hwf hb0 hk0 hnd h0 hy hrok
  unfold Nd.v at HN ⊢
  go_enter Tryz.func31, Tryz.ntmps31
  refine wp_seq_k fun K0 hK => ?_
  have HK0 := Lib.hid hK
  clear hK
  go_wp2_with fail
  refine HK0.out _ _ ?_
  clear HK0
  generalize ((w.alloc _).alloc _).alloc _ = w0 at H0 ⊢
  refine wp_seq_k fun K1 hK => ?_
  have HK1 := Lib.hid hK
  clear hK
  obtain ⟨e0, e1, e2, e3, e4, e5⟩ := cells6 (box_ad H0.out)
  have HM := Lib.hid (may_r x _ w0 (HN.out.below H0.out.below))
  cases hm : x.may with
  | false =>
    rw [hm] at HM
    have E : Hid (y = (zeroNd, 4)) := Lib.hid (by rw [HY.out]; unfold addR; rw [if_pos (.inl hm)])
    clear hm
    go_wp2_with fail
    refine HM.out.mono ?_
    rintro e w1 ⟨rfl, hb⟩
    have S1 := Lib.hid (H0.out.on hb)
    clear hb HM H0 e0 e1 e2 e3 e4 e5
    have q5 := out_ad S1.out
    obtain ⟨d0, d1, d2, d3, d4, d5⟩ := cells6 q5
    have fz0 := q5.frozen 0
    have fz1 := q5.frozen 1
    have fz2 := q5.frozen 2
    have fz3 := q5.frozen 3
    have fz4 := q5.frozen 4
    have fz5 := q5.frozen 5
    have l6 := q5.lt
    obtain ⟨VV, hV, hg, q6⟩ := six_stores (.int .i64 0) (.string { data := #[] }) (.string { data := #[] }) (.string { data := #[] }) (.slice none 0 0) (.slice none 0 0) q5
    have HF := Lib.hid (zero_out (c := 4) S1.out.below hg (by omega))
    clear hg q5
    go_wp2
    rw [← hV]
    clear hV d0 d1 d2 d3 d4 d5 fz0 fz1 fz2 fz3 fz4 fz5
    obtain ⟨c0, c1, c2, c3, c4, c5⟩ := cells6 q6
    exact bodyPost_ret (v := .tuple #[.agg #[.int .i64 0, .string { data := #[] }, .string { data := #[] }, .string { data := #[] }, .slice none 0 0, .slice none 0 0], .int .i64 4]) (by simp [results, Tryz.results31, go_sem, c0, c1, c2, c3, c4, c5]) rfl (by rw [E.out]; exact HF.out)
  | true =>
    rw [hm] at HM
    have HMAY := Lib.hid hm
    clear hm
    go_wp2_with fail
    refine HM.out.mono ?_
    rintro e w1 ⟨rfl, hb⟩
    have S1 := Lib.hid (H0.out.on hb)
    clear hb HM H0 e0 e1 e2 e3 e4 e5
    obtain ⟨r6, r7⟩ := ref_cells S1.out
    have hkd := kid_r r w1
    unfold refV at hkd
    have HKD := Lib.hid hkd
    clear hkd
    cases hkr : kidN r with
    | false =>
      rw [hkr] at HKD
      have E : Hid (y = (zeroNd, 4)) := Lib.hid (by rw [HY.out]; unfold addR; rw [if_pos (.inr hkr)])
      clear hkr
      go_wp2_with fail
      refine HKD.out.mono ?_
      rintro e w2 ⟨rfl, hb⟩
      have S2 := Lib.hid (S1.out.on hb)
      clear hb HKD S1 r6 r7
      have q5 := out_ad S2.out
      obtain ⟨d0, d1, d2, d3, d4, d5⟩ := cells6 q5
      have fz0 := q5.frozen 0
      have fz1 := q5.frozen 1
      have fz2 := q5.frozen 2
      have fz3 := q5.frozen 3
      have fz4 := q5.frozen 4
      have fz5 := q5.frozen 5
      have l6 := q5.lt
      obtain ⟨VV, hV, hg, q6⟩ := six_stores (.int .i64 0) (.string { data := #[] }) (.string { data := #[] }) (.string { data := #[] }) (.slice none 0 0) (.slice none 0 0) q5
      have HF := Lib.hid (zero_out (c := 4) S2.out.below hg (by omega))
      clear hg q5
      go_wp2
      rw [← hV]
      clear hV d0 d1 d2 d3 d4 d5 fz0 fz1 fz2 fz3 fz4 fz5
      obtain ⟨c0, c1, c2, c3, c4, c5⟩ := cells6 q6
      exact bodyPost_ret (v := .tuple #[.agg #[.int .i64 0, .string { data := #[] }, .string { data := #[] }, .string { data := #[] }, .slice none 0 0, .slice none 0 0], .int .i64 4]) (by simp [results, Tryz.results31, go_sem, c0, c1, c2, c3, c4, c5]) rfl (by rw [E.out]; exact HF.out)
    | true =>
      rw [hkr] at HKD
      have E0 : Hid (y = if (findN x b).isSome = true then (zeroNd, 8) else if x.kids.length = 256 ∨ (keep = true ∧ x.full = true) then (zeroNd, 14) else (madeN x ((addL x b r).map (·.1)) ((addL x b r).map (·.2)) keep, 0)) := Lib.hid (by rw [HY.out]; unfold addR; rw [if_neg (by rw [HMAY.out, hkr]; simp)])
      clear hkr
      go_wp2_with fail
      refine HKD.out.mono ?_
      rintro e w2 ⟨rfl, hb⟩
      have S2 := Lib.hid (S1.out.on hb)
      clear hb HKD S1 r6 r7
      go_wp2_with fail
      refine HK1.out _ _ ?_
      clear HK1
      refine wp_seq_k fun K2 hK => ?_
      have HK2 := Lib.hid hK
      clear hK
      obtain ⟨e0, e1, e2, e3, e4, e5⟩ := cells6 (box_ad S2.out)
      have hf := Find_r x _ b w2 (HN.out.below S2.out.below) hb256
      obtain ⟨q, hq⟩ : ∃ q, q = findN x b := ⟨_, rfl⟩
      rw [← hq] at hf E0
      clear hq
      unfold optV refV at hf
      have HF0 := Lib.hid hf
      clear hf
      go_wp2_with fail
      refine HF0.out.mono ?_
      rintro e w3 ⟨rfl, hb⟩
      have S3 := Lib.hid ((S2.out.on hb).on (below_box w3 (.cells #[.int .i64 (q.getD (0, 0)).1, .int .u32 (q.getD (0, 0)).2] 29)))
      clear hb S2 HF0 e0 e1 e2 e3 e4 e5
      go_wp2_with fail
      refine HK2.out _ _ ?_
      clear HK2
      generalize w3.alloc _ = w4 at S3 ⊢
      refine wp_seq_k fun K3 hK => ?_
      have HK3 := Lib.hid hK
      clear hK
      cases q with
      | some q0 =>
        have E : Hid (y = (zeroNd, 8)) := Lib.hid (by rw [E0.out]; rfl)
        simp only [Option.isSome_some, Option.getD_some]
        have q5 := out_ad S3.out
        obtain ⟨d0, d1, d2, d3, d4, d5⟩ := cells6 q5
        have fz0 := q5.frozen 0
        have fz1 := q5.frozen 1
        have fz2 := q5.frozen 2
        have fz3 := q5.frozen 3
        have fz4 := q5.frozen 4
        have fz5 := q5.frozen 5
        have l6 := q5.lt
        obtain ⟨VV, hV, hg, q6⟩ := six_stores (.int .i64 0) (.string { data := #[] }) (.string { data := #[] }) (.string { data := #[] }) (.slice none 0 0) (.slice none 0 0) q5
        have HF := Lib.hid (zero_out (c := 8) S3.out.below hg (by omega))
        clear hg q5
        go_wp2
        rw [← hV]
        clear hV d0 d1 d2 d3 d4 d5 fz0 fz1 fz2 fz3 fz4 fz5
        obtain ⟨c0, c1, c2, c3, c4, c5⟩ := cells6 q6
        exact bodyPost_ret (v := .tuple #[.agg #[.int .i64 0, .string { data := #[] }, .string { data := #[] }, .string { data := #[] }, .slice none 0 0, .slice none 0 0], .int .i64 8]) (by simp [results, Tryz.results31, go_sem, c0, c1, c2, c3, c4, c5]) rfl (by rw [E.out]; exact HF.out)
      | none =>
        have E1 : Hid (y = if x.kids.length = 256 ∨ (keep = true ∧ x.full = true) then (zeroNd, 14) else (madeN x ((addL x b r).map (·.1)) ((addL x b r).map (·.2)) keep, 0)) := Lib.hid (by rw [E0.out]; rfl)
        clear E0
        simp only [Option.isSome_none, Option.getD_none]
        go_wp2_with fail
        refine HK3.out _ _ ?_
        clear HK3
        refine wp_seq_k fun K4 hK => ?_
        have HK4 := Lib.hid hK
        clear hK
        obtain ⟨e0, e1, e2, e3, e4, e5⟩ := cells6 (box_ad S3.out)
        by_cases h256 : x.kids.length = 256
        · have E : Hid (y = (zeroNd, 14)) := Lib.hid (by rw [E1.out, if_pos (.inl h256)])
          have h2 : ((x.kids.length : Int) == 256) = true := by simp; omega
          clear h256
          clear e0 e1 e2 e3 e4
          have q5 := out_ad S3.out
          obtain ⟨d0, d1, d2, d3, d4, d5⟩ := cells6 q5
          have fz0 := q5.frozen 0
          have fz1 := q5.frozen 1
          have fz2 := q5.frozen 2
          have fz3 := q5.frozen 3
          have fz4 := q5.frozen 4
          have fz5 := q5.frozen 5
          have l6 := q5.lt
          obtain ⟨VV, hV, hg, q6⟩ := six_stores (.int .i64 0) (.string { data := #[] }) (.string { data := #[] }) (.string { data := #[] }) (.slice none 0 0) (.slice none 0 0) q5
          have HF := Lib.hid (zero_out (c := 14) S3.out.below hg (by omega))
          clear hg q5
          go_wp2
          rw [← hV]
          clear hV d0 d1 d2 d3 d4 d5 fz0 fz1 fz2 fz3 fz4 fz5
          obtain ⟨c0, c1, c2, c3, c4, c5⟩ := cells6 q6
          exact bodyPost_ret (v := .tuple #[.agg #[.int .i64 0, .string { data := #[] }, .string { data := #[] }, .string { data := #[] }, .slice none 0 0, .slice none 0 0], .int .i64 14]) (by simp [results, Tryz.results31, go_sem, c0, c1, c2, c3, c4, c5]) rfl (by rw [E.out]; exact HF.out)
        · have h2 : ((x.kids.length : Int) == 256) = false := by simp; omega
          cases keep with
          | false =>
            have E : Hid (y = (madeN x ((addL x b r).map (·.1)) ((addL x b r).map (·.2)) false, 0)) := Lib.hid (by rw [E1.out, if_neg (by simp [h256])])
            clear h256
            go_wp2_with fail
            refine HK4.out _ _ ?_
            rw [E.out]
            exact add2 x b r false w w4 Ab cb Ak ck HN.out HR.out.1 HR.out.2.1 hb256 HR.out.2.2.2 HMAY.out S3.out
          | true =>
            have HFU := Lib.hid (Full_r x _ w4 (HN.out.below S3.out.below))
            cases hfu : x.full with
            | true =>
              rw [hfu] at HFU
              have E : Hid (y = (zeroNd, 14)) := Lib.hid (by rw [E1.out, if_pos (.inr ⟨rfl, hfu⟩)])
              clear h256 hfu
              go_wp2_with fail
              refine HFU.out.mono ?_
              rintro e w5 ⟨rfl, hb⟩
              have S5 := Lib.hid (S3.out.on hb)
              clear hb HFU S3 e0 e1 e2 e3 e4 e5
              have q5 := out_ad S5.out
              obtain ⟨d0, d1, d2, d3, d4, d5⟩ := cells6 q5
              have fz0 := q5.frozen 0
              have fz1 := q5.frozen 1
              have fz2 := q5.frozen 2
              have fz3 := q5.frozen 3
              have fz4 := q5.frozen 4
              have fz5 := q5.frozen 5
              have l6 := q5.lt
              obtain ⟨VV, hV, hg, q6⟩ := six_stores (.int .i64 0) (.string { data := #[] }) (.string { data := #[] }) (.string { data := #[] }) (.slice none 0 0) (.slice none 0 0) q5
              have HF := Lib.hid (zero_out (c := 14) S5.out.below hg (by omega))
              clear hg q5
              go_wp2
              rw [← hV]
              clear hV d0 d1 d2 d3 d4 d5 fz0 fz1 fz2 fz3 fz4 fz5
              obtain ⟨c0, c1, c2, c3, c4, c5⟩ := cells6 q6
              exact bodyPost_ret (v := .tuple #[.agg #[.int .i64 0, .string { data := #[] }, .string { data := #[] }, .string { data := #[] }, .slice none 0 0, .slice none 0 0], .int .i64 14]) (by simp [results, Tryz.results31, go_sem, c0, c1, c2, c3, c4, c5]) rfl (by rw [E.out]; exact HF.out)
            | false =>
              rw [hfu] at HFU
              have E : Hid (y = (madeN x ((addL x b r).map (·.1)) ((addL x b r).map (·.2)) true, 0)) := Lib.hid (by rw [E1.out, if_neg (by simp [h256, hfu])])
              clear h256 hfu
              go_wp2_with fail
              refine HFU.out.mono ?_
              rintro e w5 ⟨rfl, hb⟩
              have S5 := Lib.hid (S3.out.on hb)
              clear hb HFU S3 e0 e1 e2 e3 e4 e5
              go_wp2_with fail
              refine HK4.out _ _ ?_
              rw [E.out]
              exact add2 x b r true w w5 Ab cb Ak ck HN.out HR.out.1 HR.out.2.1 hb256 HR.out.2.2.2 HMAY.out S5.out
end Go.Proofs.YtgjgcbemgmkncaaGreatDoor
