/-
  NodeGrows, walked.
  Layer 9: the table of rooms, as the card lays it.
  Layer 7: a slice of bytes that came in, read as numbers below 256.
  NodeGrows: for every input the call returns true, and what was there stays as it was. The card ties what the package variable holds to the program's text. No other condition.
-/
import Derived.Test.YtgjgcbemgmkncaaDoorGi
import Derived.Test.YtgjgcbemgmkncaaDoorGq
import Derived.Test.YtgjgcbemgmkncaaDoorGd
import Derived.LaidMore
import Derived.ProofKit
import Derived.OpenShut
import Derived.Stop.Joined
import Derived.Test.YtgjgcbemgmkncaaDoorGb
import Derived.Test.YtgjgcbemgmkncaaDoorCards
import Derived.Test.YtgjgcbemgmkncaaDoorTie
import Derived.SevenTiedAt
namespace Go.Proofs.YtgjgcbemgmkncaaDoor
open Go.RowKit Go.Shelf
set_option linter.unusedVariables false
set_option linter.unusedSimpArgs false

def gK0 : Kids := fun b => if b = 0 then some (0, 1) else if b = 255 then some (1, 1) else none
theorem gK0_ok : KidsOk gK0 := by
  refine ⟨fun b hb => ?_, fun b r h => ?_⟩
  · unfold gK0; rw [if_neg (by omega), if_neg (by omega)]
  · unfold gK0 at h
    split at h
    · injection h with h; subst h; exact ⟨by decide, by unfold refOk; decide⟩
    · split at h
      · injection h with h; subst h; exact ⟨by decide, by unfold refOk; decide⟩
      · cases h
theorem gK0_kind : kindK gK0 = 2 := by
  unfold kindK
  rw [show cntK gK0 = 2 by kernel_rfl]; rfl
theorem top0_eq : innerNd 5 { data := #[] } [] = ofNd zeroNd noKids 5 := by kernel_rfl
theorem low0_eq : innerNd 2 { data := #[112] } [0, 255] = ofNd pNd gK0 (kindK gK0) := by rw [gK0_kind]; kernel_rfl
theorem low_two (w : World) : Reads (w.alloc (.cells #[.int .u8 0, .int .u8 255] 5)) (w.alloc (.cells #[.int .u8 0, .int .u8 255] 5)).heap.size 1 (some ⟨w.heap.size, 0, none⟩) [0, 255].length ([0, 255].flatMap nrow) :=
  ⟨rfl, fun _ => ⟨_, rfl, by simp, cell_list_blk (Blk.new w 5 _)⟩⟩
theorem inner_top (W : World) : Calls Tryd.prog 6 #[.int .i64 5, .string { data := #[] }, .slice none 0 0] W (InnerEnd (ofNd zeroNd noKids 5) none W) := by
  have := linner_n 5 { data := #[] } none 0 [] W (by decide) (by decide) Reads.none_ (by simp) (by decide)
  rw [top0_eq] at this
  exact this
theorem inner_low (w : World) : Calls Tryd.prog 6 #[.int .i64 2, .string { data := #[112] }, .slice (some ⟨w.heap.size, 0, none⟩) 2 2] (w.alloc (.cells #[.int .u8 0, .int .u8 255] 5)) (InnerEnd (ofNd pNd gK0 (kindK gK0)) (some ⟨w.heap.size, 0, none⟩) (w.alloc (.cells #[.int .u8 0, .int .u8 255] 5))) := by
  have := linner_n 2 { data := #[112] } (some ⟨w.heap.size, 0, none⟩) 2 [0, 255] _ (by decide) (by decide) (low_two w) (by decide) (by decide)
  rw [low0_eq] at this
  exact this
theorem infoHas : (Tryd.prog.info? 29).map (fun i => (i.zero, i.size)) = some (some (.agg (hasL noKids).toArray), 256) := by kernel_rfl
def SupF (l : List Nat) (f : Kids) : Prop := ∀ b, (f b).isSome = true → b ∈ l
def SupG (l : List Nat) (g : Kids) : Prop := ∀ b, (g b).isSome = true → b = 0 ∨ b = 255 ∨ b ∈ l
theorem supF_nil (l : List Nat) : SupF (l.take 0) noKids := fun b hb => by cases hb
theorem supG_nil (l : List Nat) : SupG (l.take 0) gK0 := fun b hb => by
  unfold gK0 at hb
  by_cases h1 : b = 0
  · exact .inl h1
  · by_cases h2 : b = 255
    · exact .inr (.inl h2)
    · rw [if_neg h1, if_neg h2] at hb; cases hb
theorem take_mem {l : List Nat} {k : Nat} (hk : k < l.length) {b : Nat} (h : b ∈ l.take k) : b ∈ l.take (k + 1) := by
  rw [List.take_succ_eq_append_getElem hk]; exact List.mem_append_left _ h
theorem take_new {l : List Nat} {k : Nat} (hk : k < l.length) : l[k] ∈ l.take (k + 1) := by
  rw [List.take_succ_eq_append_getElem hk]; exact List.mem_append_right _ (by simp)
theorem supF_step {l : List Nat} {k : Nat} (hk : k < l.length) {f f2 : Kids} {r : Int × Int} (h : SupF (l.take k) f) (e : f2 = if (f l[k]).isSome = true then f else setK f l[k] (some r)) : SupF (l.take (k + 1)) f2 := by
  intro b hb
  subst e
  split at hb
  · exact take_mem hk (h b hb)
  · unfold setK at hb
    split at hb
    · rename_i e; subst e; exact take_new hk
    · exact take_mem hk (h b hb)
theorem supG_step {l : List Nat} {k : Nat} (hk : k < l.length) {f f2 : Kids} {r : Int × Int} (h : SupG (l.take k) f) (e : f2 = if (f l[k]).isSome = true then f else setK f l[k] (some r)) : SupG (l.take (k + 1)) f2 := by
  intro b hb
  have hmono : b = 0 ∨ b = 255 ∨ b ∈ l.take k → b = 0 ∨ b = 255 ∨ b ∈ l.take (k + 1) := fun h => by
    rcases h with h | h | h
    · exact .inl h
    · exact .inr (.inl h)
    · exact .inr (.inr (take_mem hk h))
  subst e
  split at hb
  · exact hmono (h b hb)
  · unfold setK at hb
    split at hb
    · rename_i e; subst e; exact .inr (.inr (take_new hk))
    · exact hmono (h b hb)
theorem drop_mem {l : List Nat} {k : Nat} (hk : k < l.length) {b : Nat} (h : b ∈ l.drop k) : b = l[k] ∨ b ∈ l.drop (k + 1) := by
  rw [List.drop_eq_getElem_cons hk] at h
  exact List.mem_cons.1 h
theorem supF_cut {l : List Nat} {k : Nat} (hk : k < l.length) {f : Kids} (h : SupF (l.drop k) f) : SupF (l.drop (k + 1)) (setK f l[k] none) := by
  intro b hb
  unfold setK at hb
  split at hb
  · cases hb
  · rename_i hne
    rcases drop_mem hk (h b hb) with e | e
    · exact absurd e hne
    · exact e
theorem supG_cut {l : List Nat} {k : Nat} (hk : k < l.length) {g g2 : Kids} (h : SupG (l.drop k) g) (e : g2 = if l[k] = 0 ∨ l[k] = 255 then g else setK g l[k] none) : SupG (l.drop (k + 1)) g2 := by
  intro b hb
  subst e
  split at hb
  · rename_i h0
    rcases h b hb with h1 | h1 | h1
    · exact .inl h1
    · exact .inr (.inl h1)
    · rcases drop_mem hk h1 with e | e
      · subst e
        rcases h0 with h0 | h0
        · exact .inl h0
        · exact .inr (.inl h0)
      · exact .inr (.inr e)
  · unfold setK at hb
    split at hb
    · cases hb
    · rename_i hne
      rcases h b hb with h1 | h1 | h1
      · exact .inl h1
      · exact .inr (.inl h1)
      · rcases drop_mem hk h1 with e | e
        · exact absurd e hne
        · exact .inr (.inr e)
theorem supF_end {f : Kids} (h : SupF [] f) : f = noKids := by
  funext b
  cases hf : f b with
  | none => rfl
  | some r => have := h b (by rw [hf]; rfl); cases this
theorem supG_end {g : Kids} (h : SupG [] g) (h2 : g 0 = some (0, 1) ∧ g 255 = some (1, 1)) : g = gK0 := by
  funext b
  unfold gK0
  by_cases h0 : b = 0
  · subst h0; rw [if_pos rfl]; exact h2.1
  · by_cases h1 : b = 255
    · subst h1; rw [if_neg h0, if_pos rfl]; exact h2.2
    · rw [if_neg h0, if_neg h1]
      cases hg : g b with
      | none => rfl
      | some r =>
        rcases h b (by rw [hg]; rfl) with e | e | e
        · exact absurd e h0
        · exact absurd e h1
        · cases e
set_option maxHeartbeats 12800000 in
set_option maxRecDepth 100000 in
theorem grows_walk (l : List Nat) (A0 : Option Addr) (c0 : Nat) (keep : Bool) (w : World) (hr0 : RoomsAt w) (hl : Reads w w.heap.size 1 A0 l.length (l.flatMap nrow)) (hb256 : ∀ b ∈ l, b < 256) (hsz : l.length ≤ 9223372036854775807) :
    LawCalls Tryd.prog 3 w #[.slice A0 l.length c0, .bool keep] := by
  unfold LawCalls
  have HR := Lib.hid hr0
  have HL := Lib.hid (And.intro hl hb256)
  have HA := Lib.hid (awake_n w hr0)
  clear hl hb256
  go_enter Tryd.func3, Tryd.ntmps3
  by_cases hlen : l.length ≤ 256
  case neg =>
    have i0 : (l.length : Int) > 256 := by omega
    go_wp2_with fail
    refine HA.out.mono ?_
    rintro e w1 ⟨rfl, hb⟩
    have HB := Lib.hid hb
    clear hb
    go_wp2
    go_ret
    exact ⟨rfl, HB.out⟩
  case pos =>
    have i0 : ¬ ((l.length : Int) > 256) := by omega
    go_wp2_with fail
    refine HA.out.mono ?_
    rintro e w1 ⟨rfl, hb⟩
    have HI5 := Lib.hid (inner_top w1)
    have C1 := Lib.hid ((Ctx.start HR.out).on hb)
    clear hb HA
    go_wp2_with fail
    refine HI5.out.mono ?_
    rintro e w2 ⟨V', rfl, hnd, hb, hrw⟩
    obtain ⟨A, c, A', c', rfl, hnd⟩ := open_nd hnd
    have D2 := (C1.out.on hb).new hnd
    have hrr := hnd.rows
    have C2 := Lib.hid (And.intro D2 hrr)
    clear hb hrw hnd C1 HI5 D2 hrr
    unfold Nd.v
    go_wp2_with fail
    have HIL := Lib.hid (inner_low (w2.alloc (.cells ((ofNd zeroNd noKids 5).c A c A' c') 27)))
    rw [World.size_alloc] at HIL
    refine HIL.out.mono ?_
    rintro e w3 ⟨V', rfl, hnd, hb, hrw⟩
    obtain ⟨B, d, B', d', rfl, hnd⟩ := open_nd hnd
    have D3 := ((C2.out.1.on (below_box _ _)).on hb).new hnd
    have C3 := Lib.hid (And.intro D3 (And.intro hrw (And.intro C2.out.2 hnd.rows)))
    have HZ := Lib.hid hb.size
    clear hb hrw hnd C2 D3
    have hz := fun V => zero_of infoHas V
    obtain ⟨Z, hZ⟩ : ∃ Z : List Value, Z = hasL noKids := ⟨_, rfl⟩
    have hne : (Z.toArray = #[]) = False := by rw [hZ]; simp [hasL]
    rw [← hZ] at hz
    have HZ0 := Lib.hid hZ
    clear hZ
    unfold Nd.v
    go_wp2_with fail
    have h0 : GrW w w2.heap.size w3.heap.size (w3.heap.size + 1) noKids gK0 ((w3.alloc (.cells ((ofNd pNd gK0 (kindK gK0)).c B d B' d') 27)).alloc (.cells Z.toArray 29)) := by
      obtain ⟨h1, h2, h3, h4⟩ := C3.out
      have hz := HZ.out
      simp only [World.size_alloc] at hz h2
      have hb := h1.on (below_box _ (.cells Z.toArray 29))
      have hge := hb.g1
      refine ⟨hb.below, hb.rooms, ⟨A, c, A', c', hb.b1, fun r hm => ?_⟩, ⟨B, d, B', d', hb.b0, fun r hm => ?_⟩, ?_, ⟨hge, by omega, by omega⟩, ⟨by omega, by omega, by omega⟩, KidsOk.no, gK0_ok, rfl, rfl⟩
      · have := h3 r hm
        omega
      · have k1 := h4 r hm
        rcases h2 r hm with k2 | ⟨ad, e, rfl⟩
        · omega
        · injection e with e
          subst e
          dsimp only at k1 ⊢
          omega
      · rw [← HZ0.out]
        have q := Blk.new (w3.alloc (.cells ((ofNd pNd gK0 (kindK gK0)).c B d B' d') 27)) 29 Z.toArray
        rw [World.size_alloc] at q
        exact q
    have H0 := Lib.hid h0
    have hk0 : (cntK noKids : Int) = 0 := by rw [noKids_cnt]; rfl
    have HK0 := Lib.hid hk0
    clear h0 hz hne hk0 C3 HZ
    unfold Nd.c at H0
    generalize w2.heap.size = g5 at H0 ⊢
    generalize (w3.alloc _).alloc _ = w4 at H0 ⊢
    go_loopw [8, 9] (fun v8 i wr => ∃ k : Nat, k ≤ l.length ∧ i = .int .i64 k ∧ ∃ cn : Int, v8 = .int .i64 cn ∧ ∃ f g, Hid (GrW w g5 w3.heap.size (w3.heap.size + 1) f g wr ∧ cn = (cntK f : Int) ∧ SupF (l.take k) f ∧ SupG (l.take k) g)) (fun v8 i _ => l.length - (intOf i).toNat)
    case atStart => exact ⟨0, Nat.zero_le _, rfl, 0, rfl, noKids, gK0, Lib.hid ⟨H0.out, HK0.out.symm, supF_nil l, supG_nil l⟩⟩
    case round =>
      obtain ⟨k, hk, rfl, cn, rfl, f, g, HW⟩ := hrel
      clear H0
      by_cases hlt : k < l.length
      · obtain ⟨ad, rfl, hab, hbyte⟩ := byte_at HL.out.1 hlt
        have i1 : (k : Int) < (l.length : Int) := by omega
        have hb256 := HL.out.2 _ (List.getElem_mem hlt)
        have hcn := HW.out.2.1
        subst hcn
        refine wp_seq_k fun K1 hK => ?_
        have HK1 := Lib.hid hK
        clear hK
        go_wp2_with fail
        refine HK1.out _ _ ?_
        clear HK1
        refine wp_seq_k fun K2 hK => ?_
        have HK2 := Lib.hid hK
        clear hK
        refine wp_block ?_
        refine grA l.length c0 k l[k] g5 w3.heap.size (w3.heap.size + 1) ad f g w wr HW.out.1 HR.out hab hbyte hb256 hlt hlen (fun z10 z11 z35 z36 z37 z38 z39 z40 z41 z42 z43 z44 z45 z46 z47 z48 z49 z50 z51 z52 z53 z54 z55 z56 z57 z58 z59 z60 z61 z62 z63 z64 z65 z66 z67 z68 z69 z70 z71 z72 cn2 f2 W2 hf2 hcn2 hS2 => ?_)
        refine grB l.length c0 k l[k] g5 w3.heap.size (w3.heap.size + 1) ad f2 g w W2 hS2 HR.out hab hbyte hb256 hlt hlen (fun z12 z13 z73 z74 z75 z76 z77 z78 z79 z80 z81 z82 z83 z84 z85 z86 g2 W3 hg2 hS3 => ?_)
        refine grC g5 w3.heap.size (w3.heap.size + 1) f2 g2 cn2 w W3 hS3 hcn2 (fun z14 z15 z87 z88 z89 z90 z91 z92 z93 z94 z95 z96 z97 z98 z99 z100 z101 z102 z103 z104 z105 z106 z107 z108 z109 z110 z111 z112 z113 z114 W4 hS4 => ?_)
        have HN : Hid (GrW w g5 w3.heap.size (w3.heap.size + 1) f2 g2 W4 ∧ cn2 = (cntK f2 : Int) ∧ SupF (l.take (k + 1)) f2 ∧ SupG (l.take (k + 1)) g2) := Lib.hid ⟨hS4, hcn2, supF_step hlt HW.out.2.2.1 hf2, supG_step hlt HW.out.2.2.2 hg2⟩
        clear hS2 hf2 hcn2 hS3 hg2 hS4 HW
        refine HK2.out _ _ ?_
        clear HK2
        go_wp2
        go_roundw
        case rel => exact ⟨k + 1, by omega, by go_num, cn2, rfl, f2, g2, HN⟩
        case measure => simp [intOf]; omega
      · obtain rfl : k = l.length := by omega
        have i1 : ¬ ((l.length : Int) < (l.length : Int)) := by omega
        have H1 : Hid (GrW w g5 w3.heap.size (w3.heap.size + 1) f g wr ∧ cn = (cntK f : Int) ∧ SupF (l.drop 0) f ∧ SupG (l.drop 0) g) := Lib.hid (by
          have h := HW.out
          rw [List.take_of_length_le (Nat.le_refl _)] at h
          exact h)
        clear HW
        go_wp2_with fail
        go_loopw [8, 16] (fun v8 i wr => ∃ k : Nat, k ≤ l.length ∧ i = .int .i64 k ∧ ∃ cn : Int, v8 = .int .i64 cn ∧ ∃ f g, Hid (GrW w g5 w3.heap.size (w3.heap.size + 1) f g wr ∧ cn = (cntK f : Int) ∧ SupF (l.drop k) f ∧ SupG (l.drop k) g)) (fun v8 i _ => l.length - (intOf i).toNat)
        case atStart => exact ⟨0, Nat.zero_le _, rfl, cn, rfl, f, g, H1⟩
        case round =>
          obtain ⟨k, hk, rfl, cn, rfl, f, g, HW⟩ := hrel
          clear H1
          by_cases hlt : k < l.length
          · obtain ⟨ad, rfl, hab, hbyte⟩ := byte_at HL.out.1 hlt
            have i1 : (k : Int) < (l.length : Int) := by omega
            have hb256 := HL.out.2 _ (List.getElem_mem hlt)
            have hcn := HW.out.2.1
            subst hcn
            refine wp_seq_k fun K1 hK => ?_
            have HK1 := Lib.hid hK
            clear hK
            go_wp2_with fail
            refine HK1.out _ _ ?_
            clear HK1
            refine wp_seq_k fun K2 hK => ?_
            have HK2 := Lib.hid hK
            clear hK
            refine wp_block ?_
            refine grD l.length c0 k l[k] g5 w3.heap.size (w3.heap.size + 1) ad f g w wr HW.out.1 HR.out hab hbyte hb256 hlt hlen (fun z17 z18 z121 z122 z123 z124 z125 z126 z127 z128 z129 z130 z131 z132 z133 z134 z135 z136 z137 z138 z139 z140 z141 z142 z143 z144 z145 z146 z147 z148 cn2 f2 W2 hf2 hcn2 hS2 => ?_)
            refine grE l.length c0 k l[k] g5 w3.heap.size (w3.heap.size + 1) ad f2 g w W2 keep hS2 HR.out hab hbyte hb256 hlt hlen (fun z19 z20 z149 z150 z151 z152 z153 z154 z155 z156 z157 z158 z159 z160 z161 z162 z163 z164 z165 z166 z167 z168 z169 z170 z171 z172 z173 z174 z175 z176 z177 z178 z179 g2 W3 hg2 hS3 => ?_)
            refine grF g5 w3.heap.size (w3.heap.size + 1) f2 g2 cn2 w W3 hS3 hcn2 (fun z180 z181 z182 z183 z184 z185 z186 z187 z188 z189 z190 z191 z192 z193 z194 W4 hS4 => ?_)
            have HN : Hid (GrW w g5 w3.heap.size (w3.heap.size + 1) f2 g2 W4 ∧ cn2 = (cntK f2 : Int) ∧ SupF (l.drop (k + 1)) f2 ∧ SupG (l.drop (k + 1)) g2) := Lib.hid ⟨hS4, hcn2, by rw [hf2]; exact supF_cut hlt HW.out.2.2.1, supG_cut hlt HW.out.2.2.2 hg2⟩
            clear hS2 hf2 hcn2 hS3 hg2 hS4 HW
            refine HK2.out _ _ ?_
            clear HK2
            go_wp2
            go_roundw
            case rel => exact ⟨k + 1, by omega, by go_num, cn2, rfl, f2, g2, HN⟩
            case measure => simp [intOf]; omega
          · obtain rfl : k = l.length := by omega
            have i1 : ¬ ((l.length : Int) < (l.length : Int)) := by omega
            have h := HW.out
            rw [List.drop_eq_nil_of_le (Nat.le_refl _)] at h
            obtain rfl := supF_end h.2.2.1
            obtain rfl := supG_end h.2.2.2 h.1.two
            obtain ⟨C, e, C', e', hlow, _⟩ := h.1.low
            have h2 := h.2.1
            rw [HK0.out] at h2
            subst h2
            have HS := Lib.hid h.1
            have HLW := Lib.hid hlow
            clear h hlow HW
            go_wp2_with fail
            refine wp_region_held_drew (S := (fun V : World => V.cell? ⟨w3.heap.size, 0, none⟩ = some (.int .i64 (ofNd pNd gK0 (kindK gK0)).kind) ∧ V.cell? ⟨w3.heap.size, 1, none⟩ = some (.string (ofNd pNd gK0 (kindK gK0)).code) ∧ V.cell? ⟨w3.heap.size, 2, none⟩ = some (.string (ofNd pNd gK0 (kindK gK0)).value) ∧ V.cell? ⟨w3.heap.size, 3, none⟩ = some (.string (ofNd pNd gK0 (kindK gK0)).path) ∧ V.cell? ⟨w3.heap.size, 4, none⟩ = some (.slice C (ofNd pNd gK0 (kindK gK0)).bytes.length e) ∧ V.cell? ⟨w3.heap.size, 5, none⟩ = some (.slice C' (ofNd pNd gK0 (kindK gK0)).kids.length e'))) (by kernel_rfl) ?_ (fun hHeld0 => ?_)
            · exact cells6 (HLW.out.below (Below.refl _ wr).drew).blk
            refine wpAnyH_take (i := 0) (v := ?_) rfl (by kernel_rfl) (by kernel_rfl) (by kernel_rfl) (fun _ _ _ h => h) (Or.inl ⟨by rfl, ?_⟩) hHeld0 ?_
            rotate_left
            · (intro w hSw; (try dsimp only at hSw); go_simp <;> with_reducible rfl)
            try simp only [Act.put, List.setIfInBounds_toArray, List.set_cons_zero, List.set_cons_succ]
            refine wpAnyH_take (i := 1) (v := ?_) rfl (by kernel_rfl) (by kernel_rfl) (by kernel_rfl) (fun _ _ _ h => h) (Or.inl ⟨by rfl, ?_⟩) hHeld0 ?_
            rotate_left
            · (intro w hSw; (try dsimp only at hSw); go_simp <;> with_reducible rfl)
            try simp only [Act.put, List.setIfInBounds_toArray, List.set_cons_zero, List.set_cons_succ]
            refine wpAnyH_take (i := 2) (v := ?_) rfl (by kernel_rfl) (by kernel_rfl) (by kernel_rfl) (fun _ _ _ h => h) (Or.inl ⟨by rfl, ?_⟩) hHeld0 ?_
            rotate_left
            · (intro w hSw; (try dsimp only at hSw); go_simp <;> with_reducible rfl)
            try simp only [Act.put, List.setIfInBounds_toArray, List.set_cons_zero, List.set_cons_succ]
            refine wpAnyH_take (i := 3) (v := ?_) rfl (by kernel_rfl) (by kernel_rfl) (by kernel_rfl) (fun _ _ _ h => h) (Or.inl ⟨by kernel_rfl, ?_⟩) hHeld0 ?_
            rotate_left
            · (intro w hSw; (try dsimp only at hSw); go_simp <;> with_reducible rfl)
            try simp only [Act.put, List.setIfInBounds_toArray, List.set_cons_zero, List.set_cons_succ]
            refine wpAnyH_ready (rs := [4]) (by kernel_rfl) (by simp) ?_
            refine AllReadyH.cons rfl (fun K hK => ?_) ?_
            · go_simp
              have hb4 := below_box wr.drew (.cells #[.int .u8 0, .int .u8 255] 5)
              have HB4 := Lib.hid ((Below.refl _ wr).drew.trans hb4)
              clear hb4
              refine hK.out _ _ ?_ (fun hHeld1 => ?_)
              · exact cells6 (HLW.out.below HB4.out).blk
              clear hK K hHeld0
              try simp only [Act.put, List.setIfInBounds_toArray, List.set_cons_zero, List.set_cons_succ]
              refine wpAnyH_ready (rs := [5]) (by kernel_rfl) (by simp) ?_
              refine AllReadyH.cons rfl (fun K hK => ?_) ?_
              · go_simp
                refine (inner_low wr.drew).mono ?_
                rintro er wa ⟨V', rfl, hnd, hb, hrw⟩
                obtain ⟨D, k, D', k', rfl, hnd⟩ := open_nd hnd
                have HB5 := Lib.hid (HB4.out.trans (hb.mono HB4.out.size))
                have HSN := Lib.hid (SameNode_n (ofNd pNd gK0 (kindK gK0)) (ofNd pNd gK0 (kindK gK0)) _ _ wa (HLW.out.below HB5.out).node hnd)
                clear hb hrw hnd
                unfold Nd.v at HSN ⊢
                refine hK.out _ _ ?_ (fun hHeld2 => ?_)
                · exact cells6 (HLW.out.below HB5.out).blk
                clear hK K hHeld1
                try simp only [Act.put, List.setIfInBounds_toArray, List.set_cons_zero, List.set_cons_succ]
                refine wpAnyH_ready (rs := [6]) (by kernel_rfl) (by simp) ?_
                refine AllReadyH.cons rfl (fun K hK => ?_) ?_
                · go_simp
                  refine HSN.out.mono ?_
                  rintro er wb ⟨rfl, hb⟩
                  rw [sameN_refl]
                  have HB6 := Lib.hid (HB5.out.trans (hb.mono HB5.out.size))
                  have HE := Lib.hid (HS.out.on HB6.out).below
                  clear hb
                  refine hK.out _ _ ?_ (fun hHeld3 => ?_)
                  · exact cells6 (HLW.out.below HB6.out).blk
                  clear hK K hHeld2
                  try simp only [Act.put, List.setIfInBounds_toArray, List.set_cons_zero, List.set_cons_succ]
                  refine wpAnyH_take (i := 7) (v := ?_) rfl (by kernel_rfl) (by kernel_rfl) (by kernel_rfl) (fun _ _ _ h => h) (Or.inl ⟨by rfl, ?_⟩) hHeld3 ?_
                  rotate_left
                  · (intro w hSw; (try dsimp only at hSw); go_simp <;> with_reducible rfl)
                  try simp only [Act.put, List.setIfInBounds_toArray, List.set_cons_zero, List.set_cons_succ]
                  refine wpAnyH_take (i := 8) (v := ?_) rfl (by kernel_rfl) (by kernel_rfl) (by kernel_rfl) (fun _ _ _ h => h) (Or.inl ⟨by rfl, ?_⟩) hHeld3 ?_
                  rotate_left
                  · (intro w hSw; (try dsimp only at hSw); go_simp <;> with_reducible rfl)
                  try simp only [Act.put, List.setIfInBounds_toArray, List.set_cons_zero, List.set_cons_succ]
                  try simp only [Act.put, List.getElem_toArray, List.getElem_cons_succ, List.getElem_cons_zero, List.setIfInBounds_toArray, List.set_cons_zero, List.set_cons_succ]
                  refine wpAnyH_done (by kernel_rfl) ?_ _
                  refine (‹∀ (a : Act) (w : World), Code.wp Tryd.prog _ _ a w → _› _ _ ?_)
                  go_wp2
                  go_ret
                  exact ⟨rfl, HE.out⟩
                exact AllReadyH.nil
              exact AllReadyH.nil
            exact AllReadyH.nil
end Go.Proofs.YtgjgcbemgmkncaaDoor
namespace Go.Proofs.YtgjgcbemgmkncaaDoor
open Go.ChangeShapes Go.WideShapes Go.ChangeAt Go.RowKit
set_option linter.unusedVariables false
set_option linter.unusedSimpArgs false

theorem gRooms : Tryd.prog.globalNamed "burgage/node.rooms" = some 0 := by kernel_rfl
theorem tRooms : (Tryd.prog.globals[0]?).map (·.type) = some 62 := by kernel_rfl
theorem uRooms : Tryd.prog.underlying 62 = some (.array 6 3) := by kernel_rfl
theorem cellsInt : Tryd.prog.cellsOf 3 = 1 := by kernel_rfl
theorem ints_of_data {H : Type} {enc : TypeId × Value → H} {W : World} {base : Nat} {spare : Nat → Bool} {held : Bool} {fuel : Nat} {cs : List Value} {ks : List Int} {pl : List MemPlace} (hk : ks.length = 6)
    (h : DataW.trod enc Tryd.prog W base spare held fuel 62 cs = some (.agg (ks.map fun k => .lit (.int .i64 k)), pl)) : ∀ i, i < 6 → cs[i]? = (ks[i]?).map fun k => .int .i64 k := by
  obtain ⟨xs, m, _, hx, _, hn, hel⟩ := DataW.trod_array uRooms h
  intro i hi
  have h1 := hel i hi
  rw [cellsInt, Nat.mul_one] at h1
  simp only [Prod.mk.injEq, DataW.agg.injEq] at hx
  obtain ⟨x, hxi⟩ : ∃ x, xs[i]? = some x := ⟨_, List.getElem?_eq_getElem (by omega)⟩
  rw [hxi] at h1
  obtain ⟨n, e1, e2, _⟩ := DataW.trod_int Tryd.underlying3 h1
  have h2 : (xs.map (·.1))[i]? = some (.lit (.int .i64 n)) := by rw [List.getElem?_map, hxi, e2]; rfl
  rw [← hx.1, List.getElem?_map] at h2
  have h3 : (cs.drop i)[0]? = some (.int .i64 n) := by
    have := congrArg (fun l : List Value => l[0]?) e1
    simpa [List.getElem?_take] using this
  rw [List.getElem?_drop, Nat.add_zero] at h3
  rw [h3]
  cases hki : ks[i]? with
  | none => rw [hki] at h2; cases h2
  | some k => rw [hki] at h2; simp at h2; simp [h2]
theorem rooms_of_laid {W : World} (h : laidMetH Tryd.prog [("burgage/node.rooms", Rows.laid_burgage_node_rooms)] W) : RoomsAt W := by
  rw [MakeChecks.laidMetH_plain _ _ _ (by kernel_rfl)] at h
  obtain ⟨ps, ⟨g0, t0, cs0, f0, p0, q0, hg0, ht0, hv0, hd0, _⟩, _⟩ := h
  obtain rfl := Option.some.inj (gRooms.symm.trans hg0)
  obtain rfl := Option.some.inj (tRooms.symm.trans ht0)
  have hc := ints_of_data (ks := [0, 0, 4, 16, 48, 256]) rfl hd0
  have hw : ∀ i, W.cell? ⟨0, i, none⟩ = cs0[i]? := World.var?_cell hg0 hv0
  have hl : ∀ i, cs0[i]? = cs0.toList[i]? := fun i => by first | rw [Array.getElem?_toList] | (cases cs0; rfl)
  unfold RoomsAt
  refine ⟨?_, ?_, ?_, ?_, ?_, ?_⟩
  · rw [hw, hl, hc 0 (by decide)]; rfl
  · rw [hw, hl, hc 1 (by decide)]; rfl
  · rw [hw, hl, hc 2 (by decide)]; rfl
  · rw [hw, hl, hc 3 (by decide)]; rfl
  · rw [hw, hl, hc 4 (by decide)]; rfl
  · rw [hw, hl, hc 5 (by decide)]; rfl
/-- The door's own heap meets the condition. -/
theorem door_met (os : Os) (args : Array Value) : laidMetH Tryd.prog [("burgage/node.rooms", Rows.laid_burgage_node_rooms)] ((World.doorLaid Tryd.prog 400 os).forCall (fun _ _ => 0) ⟨#[], args, []⟩).memory :=
  laidMetH_of_parts3 (fuel := 8) (laidMet_of_run' 8 (by kernel_rfl) (by kernel_rfl)) (by kernel_rfl) (by kernel_rfl)
end Go.Proofs.YtgjgcbemgmkncaaDoor
namespace Go.Proofs.YtgjgcbemgmkncaaDoor
open Go.ChangeShapes Go.WideShapes Go.ChangeAt Go.RowKit
set_option linter.unusedVariables false

theorem flatten_at {sz : Nat} : ∀ (rows : List (List Value)) (j : Nat) (u : Value), (∀ r ∈ rows, r.length = sz) → rows.flatten[j]? = some u → ∃ i cs r, rows[i]? = some cs ∧ cs[r]? = some u ∧ j = i * sz + r
  | [], j, u, _, h => by simp at h
  | r :: rows, j, u, hl, h => by
    have hr := hl r (by simp)
    rw [List.flatten_cons, List.getElem?_append] at h
    split at h
    · exact ⟨0, r, j, by simp, h, by omega⟩
    · rename_i hj
      obtain ⟨i, cs, k, h1, h2, h3⟩ := flatten_at rows (j - r.length) u (fun x hx => hl x (by simp [hx])) h
      exact ⟨i + 1, cs, k, by simpa using h1, h2, by rw [Nat.add_mul]; omega⟩
theorem flatten_len {sz : Nat} : ∀ (rows : List (List Value)), (∀ r ∈ rows, r.length = sz) → rows.flatten.length = rows.length * sz
  | [], _ => by simp
  | r :: rows, hl => by
    rw [List.flatten_cons, List.length_append, hl r (by simp), flatten_len rows (fun x hx => hl x (by simp [hx])), List.length_cons, Nat.add_mul]; omega
theorem SliceRows.reads {w : World} {A : Option Addr} {n cap sz : Nat} {rows : List (List Value)} (h : SliceRows w A n cap sz rows) : Reads w w.heap.size sz A n rows.flatten := by
  obtain ⟨h1, h2, h3, h4, h5, h6⟩ := h
  refine ⟨by rw [flatten_len rows h4, h1], fun hn => ?_⟩
  obtain ⟨a, ha, hb, hc⟩ := h6 0 rows[0] (List.getElem?_eq_getElem (by omega))
  refine ⟨a, ha, hb, fun j u hu => ?_⟩
  obtain ⟨i, cs, r, e1, e2, e3⟩ := flatten_at rows j u h4 hu
  obtain ⟨a', ha', _, hc'⟩ := h6 i cs e1
  rw [ha] at ha'
  simp only [Option.some.injEq] at ha'
  subst ha'
  rw [e3]
  exact hc' r u e2

section
variable {H : Type} {enc : TypeId × Value → H} {P : Program} {w : World} {base : Nat} {spare : Nat → Bool} {held : Bool}
theorem open_rows {r : Reach} {b0 : Nat} {t e : TypeId} {ls : List L0} {v : Value} {d : DataW H} {p : List MemPlace} (ht : P.underlying t = some (.slice e)) (hls : leaves P 9 e = some ls) (hC : P.cellsOf e = ls.length) (hpos : 0 < ls.length)
    (hv : Value.okWide P w r b0 t v) (h : DataW.Trod enc P w base spare held t v d p) :
    ∃ (A : Option Addr) (n cap : Nat) (rows : List (List Value)), v = .slice A n cap ∧ rows.length = n ∧ Reads w w.heap.size ls.length A n rows.flatten ∧ (∀ r ∈ rows, Flat ls r) ∧ n ≤ cap ∧ cap ≤ 9223372036854775807 := by
  obtain ⟨a, len, cap, rfl⟩ := okWide_slice ht hv
  obtain ⟨fuel, hf⟩ := h
  obtain ⟨A, n, cap', rows, hc, hs, hfl, _⟩ := open_flat_slice ht hls hC hpos hf
  simp only [Value.cells, List.cons.injEq, Value.slice.injEq, and_true] at hc
  obtain ⟨rfl, rfl, rfl⟩ := hc
  have h2 := hs.2.2.1
  unfold maxLen at h2
  exact ⟨_, _, _, rows, rfl, hs.1, hs.reads, hfl, hs.2.1, by omega⟩
end

theorem nat_u8 {n : Int} (h : (Lit.int .u8 n).wf = true) : ∃ b : Nat, n = (b : Int) ∧ b < 256 := by
  have h2 : 0 ≤ n ∧ n ≤ 255 := by simpa [Lit.wf, IntKind.min, IntKind.max, IntKind.signed, IntKind.bits] using h
  exact ⟨n.toNat, by omega, by omega⟩
theorem nats_of_rows : ∀ (rows : List (List Value)), (∀ r ∈ rows, Flat [.int .u8] r) → ∃ ps : List Nat, (∀ p ∈ ps, p < 256) ∧ ps.length = rows.length ∧ rows.flatten = ps.flatMap nrow
  | [], _ => ⟨[], by simp, rfl, rfl⟩
  | r :: rows, h => by
    obtain ⟨v1, c1, rfl, ⟨n1, rfl, k1⟩, h1⟩ := Flat.cons_inv (h r (by simp))
    obtain rfl := h1.nil_inv
    obtain ⟨ps, h1, h2, h3⟩ := nats_of_rows rows (fun x hx => h x (by simp [hx]))
    obtain ⟨b, rfl, hb⟩ := nat_u8 k1
    refine ⟨b :: ps, ?_, by simp [h2], by simp [h3, nrow]⟩
    intro x hx
    rcases List.mem_cons.1 hx with rfl | hx
    · exact hb
    · exact h1 x hx

section
variable {H : Type} {enc : TypeId × Value → H} {w : World} {base : Nat} {spare : Nat → Bool} {held : Bool}
set_option maxRecDepth 100000 in
theorem open_nats {r : Reach} {b0 : Nat} {v : Value} {d : DataW H} {p : List MemPlace} (hv : Value.okWide Tryd.prog w r b0 22 v) (h : DataW.Trod enc Tryd.prog w base spare held 22 v d p) :
    ∃ (A : Option Addr) (cap : Nat) (bs : List Nat), v = .slice A bs.length cap ∧ Reads w w.heap.size 1 A bs.length (bs.flatMap nrow) ∧ (∀ b ∈ bs, b < 256) ∧ bs.length ≤ cap ∧ cap ≤ 9223372036854775807 := by
  obtain ⟨A, n, cap, rows, rfl, hn, hr, hf, h1, h2⟩ := open_rows (ls := [.int .u8]) Tryd.underlying22 (by kernel_rfl) (by kernel_rfl) (by decide) hv h
  obtain ⟨cs, g1, g2, g3⟩ := nats_of_rows rows hf
  rw [g3] at hr
  obtain rfl : cs.length = n := by omega
  exact ⟨A, cap, cs, rfl, hr, g1, h1, h2⟩
end
end Go.Proofs.YtgjgcbemgmkncaaDoor
namespace Go.Proofs.YtgjgcbemgmkncaaDoor.nodeGrowsLaw
open Go.ChangeShapes Go.WideShapes Go.ChangeAt Go.RowKit
set_option linter.unusedVariables false

theorem own : ownKnob Tryd.prog.godebug = none := by kernel_rfl
theorem laid : laidOutB Tryd.prog = true := by kernel_rfl

set_option maxRecDepth 100000 in
theorem lifted (os : Os) (started : os.Started) (H : Type) (enc : TypeId × Value → H) :
    ReturnsInHanded {} Tryd.checked os 3 .any (fun w args => (Rows.nodeGrowsSpec.pre enc Tryd.prog Tryd.f3 [] false w args ∧ laidMetH Tryd.prog [("burgage/node.rooms", Rows.laid_burgage_node_rooms)] w) ∧ sizedMet enc Tryd.prog Tryd.f3 (OpenSpec.ofChange Rows.nodeGrowsSpec) false w args)
      (Rows.nodeGrowsSpec.post enc Tryd.prog Tryd.f3 false true false false) := by
  refine returnsInHanded_of_change_and (C := Tryd.checked) (X := fun w _ => laidMetH Tryd.prog [("burgage/node.rooms", Rows.laid_burgage_node_rooms)] w) (fun _ _ _ hh h => h.of_heap hh) own started (by kernel_rfl) Tryd.func3
    (ChangeSpec.witness_shaped (enc := enc) (C := Tryd.checked) (os := os) (X := fun w _ => laidMetH Tryd.prog [("burgage/node.rooms", Rows.laid_burgage_node_rooms)] w) false (World.doorLaid Tryd.prog 400 os) #[.slice none 0 0, .bool false] 8 rfl (World.shaped_of_RefB (by kernel_rfl) (by kernel_rfl)) (by kernel_rfl) (by kernel_rfl) (by kernel_rfl) (door_met os _)) ?_
  intro W base args ds gs before hval0 hW _ _ hL _
  refine law_post (fn := Tryd.f3) (s := Rows.nodeGrowsSpec) (n := 3) (tb := 4) laid rfl rfl Tryd.underlying4 (by kernel_rfl) (fun h => ?_) hW ?_
  · match ds, h with
    | [d0, d1], _ => rfl
  · have hval : ∀ (j : Nat) t v, Tryd.f3.params[j]? = some t → args[j]? = some v → Value.okWide Tryd.prog W .any base t v := hval0
    obtain ⟨p, q, hA0, hV, rfl, hfz, hnd⟩ := hW
    have hA : DataW.TrodAll enc Tryd.prog W 0 (fun _ => true) true Tryd.f3.params.toList args.toList ds p := hA0
    rw [Tryd.params3] at hA hval
    obtain ⟨v0, vs0, d0, ds0, p0, q0, hargs, rfl, rfl, h0, r0⟩ := trodAll_cons hA
    obtain ⟨v1, vs1, d1, ds1, p1, q1, rfl, rfl, rfl, h1, r1⟩ := trodAll_cons r0
    obtain ⟨rfl, rfl, rfl⟩ := trodAll_nil r1
    obtain rfl : args = #[v0, v1] := by cases args; simp_all
    clear hA0 hval0
    obtain ⟨A0, k0, bs0, rfl, hr0, ho0, hl0, hc0⟩ := open_nats (hval 0 22 v0 rfl rfl) h0
    obtain ⟨b1, rfl, rfl, rfl⟩ := open_bool Tryd.underlying4 (hval 1 4 v1 rfl rfl) h1
    exact grows_walk bs0 A0 k0 b1 W (rooms_of_laid hL) hr0 ho0 (by omega)

theorem over : Rows.nodeGrowsRow.holds Tryd.pinned (OpenSpec.ofChange Rows.nodeGrowsSpec) :=
  OpenClaim.holds_of_wide 3 Tryd.f3 rfl rfl rfl rfl rfl rfl rfl ⟨rfl, rfl, rfl, rfl, rfl⟩ rfl rfl rfl rfl rfl (by kernel_rfl) Tryd.func3 (by kernel_rfl)
    (of_decide_eq_true (by kernel_rfl)) (by unfold Func.isWrapper; first | (rw [if_pos (by decide +kernel)]; kernel_rfl) | (rw [if_neg (by decide +kernel)]; exact ⟨rfl, rfl⟩))
    (fun os started H enc _ => lifted os started H enc)

theorem proved : Rows.NodeGrowsCardSaid :=
  Claim7.holds_tied_plain_at .later [] [.data] true (true, "eed37613bfec621abfb482a3b9d6c609ad7bd24fda3c5b09e09d57a4168a99b8") true
    over (fun _ h => by cases h) (by kernel_rfl) (fun _ h => by cases h) nodeGrows_row_tie rfl ⟨rfl, rfl⟩ (by kernel_rfl) rfl
    (fun f fn hf hfn => by
      obtain rfl : f = 3 := Option.some.inj ((show Tryd.prog.funcNamed "burgage/burgagelaw09.NodeGrows" = some 3 by kernel_rfl).symm.trans hf) |>.symm
      obtain rfl : fn = Tryd.f3 := (Option.some.inj (Tryd.func3.symm.trans hfn)).symm
      refine ⟨by kernel_rfl, fun j t ht => ?_⟩
      rw [Tryd.params3] at ht
      have h3 : t = 22 ∨ t = 4 := by
        match j, ht with
        | 0, ht => have e := Option.some.inj ht; subst e; simp
        | 1, ht => have e := Option.some.inj ht; subst e; simp
        | j + 2, ht => simp at ht
      rcases h3 with rfl | rfl
      · exact (show Tryd.prog.wantsStandIn 22 = false by kernel_rfl)
      · exact (show Tryd.prog.wantsStandIn 4 = false by kernel_rfl))
    (by kernel_rfl)
#print axioms proved
end Go.Proofs.YtgjgcbemgmkncaaDoor.nodeGrowsLaw
