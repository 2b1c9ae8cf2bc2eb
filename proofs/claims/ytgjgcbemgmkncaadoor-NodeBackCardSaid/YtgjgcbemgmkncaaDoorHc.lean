/-
  NodeBack: the region with all the tests.
  NodeBack: the tests.
  NodeBack: what the node with the kid is.
  NodeBack: the kid found, cut, turned.
  NodeBack: Add refused.
  NodeBack: Find and Add.
  NodeBack: the whole.
-/
import Derived.Test.YtgjgcbemgmkncaaDoorHb
import Derived.Test.YtgjgcbemgmkncaaDoorGg
namespace Go.Proofs.YtgjgcbemgmkncaaDoor
open Go.RowKit Go.Shelf
set_option linter.unusedVariables false
set_option linter.unusedSimpArgs false

set_option maxHeartbeats 12800000 in
set_option maxRecDepth 100000 in
theorem bk12 {u0 u1 u2 u3 u5 u7 u8 u9 u12 u17 u18 u19 u20 u21 u22 u23 u24 u25 u26 u27 u28 u29 u30 u31 u32 u33 u34 u35 u36 u37 u38 u39 u40 u41 u42 u43 u44 u45 u46 u47 u48 u49 u50 u51 u52 u53 u54 u55 u56 u57 u58 u59 u60 u61 u62 u63 u64 u65 u66 u67 u68 u69 u70 u71 u72 u73 u74 u75 u76 u77 u78 u79 u80 u81 u82 u83 u84 u85 u86 u87 u88 u89 u90 u91 u92 u93 u94 u95 u96 u97 u98 u99 u100 u101 u102 u103 u104 u105 u106 u107 u108 u109 u110 u111 u112 u113 u114 u115 u116 u117 u118 u119 u120 u121 u122 u123 u124 u125 u126 u127 u128 u129 u130 u131 u132 u133 u134 u135 u136 u137 u138 u139 u140 u141 u142 u143 u144 u145 u146 u147 u148 u149 u150 u151 u152 u153 u154 u155 u156 u157 u158 u159 u160 u161 u162 u163 u164 u165 u166 u167 u168 u169 u170 u171 u172 u173 u174 u175 u176 u177 u178 u179 u180 u181 u182 u183 u184 u185 u186 u187 u188 u189 u190 u191 u192 u193 u194 u195 u196 u197 u198 u199 u200 u201 u202 u203 u204 u205 u206 u207 u208 u209 : Value} {ds : List Deferred} {Q : Exit → Act → World → Prop} (gn gm gk gx gr : Nat) (n m : Nd) (Ab Ak Ab2 Ak2 Ab4 Ak4 : Option Addr) (cb ck cb2 ck2 cb4 ck4 : Nat) (r : Int × Int) (w0 : World) (hm : BoxAt w0 gm m Ab2 cb2 Ak2 ck2) (hn : BoxAt w0 gn n Ab cb Ak ck) (hb : BoxAt w0 gk n Ab4 cb4 Ak4 ck4) (hx : RefBox w0 gx r) (hr : RefBox w0 gr r) (hr0 : RoomsAt w0) (hright : m.rightN = true) (hl : m.kids.length = n.kids.length + 1) (hl2 : n.kids.length ≤ 256) (hroom : (m.kids.length : Int) ≤ roomN m.kind)
    (hQ : ∀ (z85 z86 z87 z88 z89 z90 z91 z92 z93 z94 z95 z96 z97 z98 z99 z100 z101 z102 z103 z104 z105 z106 z107 z108 z109 z110 z111 z112 z113 z114 z115 z116 z117 z118 z119 z120 z121 z122 z123 z124 z125 z126 z127 : Value) (V : World), Below w0.heap.size w0 V → Q .normal ⟨#[u0, u1, u2, u3, .pointer (some ⟨gn, 0, none⟩), u5, .pointer (some ⟨gr, 0, none⟩), u7, u8, u9, .bool false, .pointer (some ⟨gm, 0, none⟩), u12, .pointer (some ⟨gx, 0, none⟩), .bool true, .pointer (some ⟨gk, 0, none⟩), .int .i64 0, u17, u18, u19, u20, u21, u22, u23, u24, u25, u26, u27, u28, u29, u30, u31, u32, u33, u34, u35, u36, u37, u38, u39, u40, u41, u42, u43, u44, u45, u46, u47, u48, u49, u50, u51, u52, u53, u54, u55, u56, u57, u58, u59, u60, u61, u62, u63, u64, u65, u66, u67, u68, u69, u70, u71, u72, u73, u74, u75, u76, u77, u78, u79, u80, u81, u82, u83, u84, z85, z86, z87, z88, z89, z90, z91, z92, z93, z94, z95, z96, z97, z98, z99, z100, z101, z102, z103, z104, z105, z106, z107, z108, z109, z110, z111, z112, z113, z114, z115, z116, z117, z118, z119, z120, z121, z122, z123, z124, z125, z126, z127, .bool false, u129, u130, u131, u132, u133, u134, u135, u136, u137, u138, u139, u140, u141, u142, u143, u144, u145, u146, u147, u148, u149, u150, u151, u152, u153, u154, u155, u156, u157, u158, u159, u160, u161, u162, u163, u164, u165, u166, u167, u168, u169, u170, u171, u172, u173, u174, u175, u176, u177, u178, u179, u180, u181, u182, u183, u184, u185, u186, u187, u188, u189, u190, u191, u192, u193, u194, u195, u196, u197, u198, u199, u200, u201, u202, u203, u204, u205, u206, u207, u208, u209], ds⟩ V) :
    Code.wp Tryd.prog (part Tryd.f4 [1, 1, 1, 1, 1, 1, 1, 1, 1, 0, 0]) Q ⟨#[u0, u1, u2, u3, .pointer (some ⟨gn, 0, none⟩), u5, .pointer (some ⟨gr, 0, none⟩), u7, u8, u9, .bool false, .pointer (some ⟨gm, 0, none⟩), u12, .pointer (some ⟨gx, 0, none⟩), .bool true, .pointer (some ⟨gk, 0, none⟩), .int .i64 0, u17, u18, u19, u20, u21, u22, u23, u24, u25, u26, u27, u28, u29, u30, u31, u32, u33, u34, u35, u36, u37, u38, u39, u40, u41, u42, u43, u44, u45, u46, u47, u48, u49, u50, u51, u52, u53, u54, u55, u56, u57, u58, u59, u60, u61, u62, u63, u64, u65, u66, u67, u68, u69, u70, u71, u72, u73, u74, u75, u76, u77, u78, u79, u80, u81, u82, u83, u84, u85, u86, u87, u88, u89, u90, u91, u92, u93, u94, u95, u96, u97, u98, u99, u100, u101, u102, u103, u104, u105, u106, u107, u108, u109, u110, u111, u112, u113, u114, u115, u116, u117, u118, u119, u120, u121, u122, u123, u124, u125, u126, u127, u128, u129, u130, u131, u132, u133, u134, u135, u136, u137, u138, u139, u140, u141, u142, u143, u144, u145, u146, u147, u148, u149, u150, u151, u152, u153, u154, u155, u156, u157, u158, u159, u160, u161, u162, u163, u164, u165, u166, u167, u168, u169, u170, u171, u172, u173, u174, u175, u176, u177, u178, u179, u180, u181, u182, u183, u184, u185, u186, u187, u188, u189, u190, u191, u192, u193, u194, u195, u196, u197, u198, u199, u200, u201, u202, u203, u204, u205, u206, u207, u208, u209], ds⟩ w0 := by
  conv => arg 2; whnf
  have HQ := Lib.hid hQ
  have HS : Hid (∀ V : World, Below w0.heap.size w0 V → (fun V : World => (V.cell? ⟨gm, 0, none⟩ = some (.int .i64 m.kind) ∧ V.cell? ⟨gm, 1, none⟩ = some (.string m.code) ∧ V.cell? ⟨gm, 2, none⟩ = some (.string m.value) ∧ V.cell? ⟨gm, 3, none⟩ = some (.string m.path) ∧ V.cell? ⟨gm, 4, none⟩ = some (.slice Ab2 m.bytes.length cb2) ∧ V.cell? ⟨gm, 5, none⟩ = some (.slice Ak2 m.kids.length ck2)) ∧ (V.cell? ⟨gn, 0, none⟩ = some (.int .i64 n.kind) ∧ V.cell? ⟨gn, 1, none⟩ = some (.string n.code) ∧ V.cell? ⟨gn, 2, none⟩ = some (.string n.value) ∧ V.cell? ⟨gn, 3, none⟩ = some (.string n.path) ∧ V.cell? ⟨gn, 4, none⟩ = some (.slice Ab n.bytes.length cb) ∧ V.cell? ⟨gn, 5, none⟩ = some (.slice Ak n.kids.length ck)) ∧ (V.cell? ⟨gk, 0, none⟩ = some (.int .i64 n.kind) ∧ V.cell? ⟨gk, 1, none⟩ = some (.string n.code) ∧ V.cell? ⟨gk, 2, none⟩ = some (.string n.value) ∧ V.cell? ⟨gk, 3, none⟩ = some (.string n.path) ∧ V.cell? ⟨gk, 4, none⟩ = some (.slice Ab4 n.bytes.length cb4) ∧ V.cell? ⟨gk, 5, none⟩ = some (.slice Ak4 n.kids.length ck4)) ∧ (V.cell? ⟨gx, 0, none⟩ = some (.int .i64 r.1) ∧ V.cell? ⟨gx, 1, none⟩ = some (.int .u32 r.2)) ∧ (V.cell? ⟨gr, 0, none⟩ = some (.int .i64 r.1) ∧ V.cell? ⟨gr, 1, none⟩ = some (.int .u32 r.2))) V) := Lib.hid (fun V h => ⟨(hm.below h).cells, (hn.below h).cells, (hb.below h).cells, RefBox.cells (Blk.below hx h hx.lt), RefBox.cells (Blk.below hr h hr.lt)⟩)
  have HB0 : Hid (Below w0.heap.size w0 w0.drew) := Lib.hid (Below.refl _ _).drew
  have HC1 : Hid (∀ W, Below w0.heap.size w0 W → Calls Tryd.prog 13 #[n.v Ab4 cb4 Ak4 ck4, n.v Ab cb Ak ck] W (BoolEnd true W)) := Lib.hid (fun W h => by
    have := SameNode_n n n _ _ W (hb.below h).node (hn.below h).node
    rw [sameN_refl] at this
    exact this)
  have HC2 : Hid (∀ W, Below w0.heap.size w0 W → Calls Tryd.prog 11 #[m.v Ab2 cb2 Ak2 ck2] W (BoolEnd true W)) := Lib.hid (fun W h => by
    have := Right_n m _ W (hm.below h).node (hr0.on h) hm.node.1.lc
    rw [hright] at this
    exact this)
  have HC3 : Hid (∀ W, Below w0.heap.size w0 W → Calls Tryd.prog 17 #[.int .i64 m.kind] W (StayEnd (.int .i64 (roomN m.kind)) W)) := Lib.hid (fun W h => room_n m.kind W (hr0.on h))
  have sw : IntKind.i64.wrap ((n.kids.length : Int) + 1) = (n.kids.length : Int) + 1 := IntWalk.i64_in _ (by omega)
  have hne : (m.kids.length : Int) = (n.kids.length : Int) + 1 := by omega
  have hro : ¬ (roomN m.kind < (n.kids.length : Int) + 1) := by omega
  clear hQ hm hn hb hx hr hr0 hright hl hl2 hroom
  unfold Nd.v at HC1 HC2
  refine wp_region_noPanic ?_
  refine wp_region_held_drew (S := (fun V : World => (V.cell? ⟨gm, 0, none⟩ = some (.int .i64 m.kind) ∧ V.cell? ⟨gm, 1, none⟩ = some (.string m.code) ∧ V.cell? ⟨gm, 2, none⟩ = some (.string m.value) ∧ V.cell? ⟨gm, 3, none⟩ = some (.string m.path) ∧ V.cell? ⟨gm, 4, none⟩ = some (.slice Ab2 m.bytes.length cb2) ∧ V.cell? ⟨gm, 5, none⟩ = some (.slice Ak2 m.kids.length ck2)) ∧ (V.cell? ⟨gn, 0, none⟩ = some (.int .i64 n.kind) ∧ V.cell? ⟨gn, 1, none⟩ = some (.string n.code) ∧ V.cell? ⟨gn, 2, none⟩ = some (.string n.value) ∧ V.cell? ⟨gn, 3, none⟩ = some (.string n.path) ∧ V.cell? ⟨gn, 4, none⟩ = some (.slice Ab n.bytes.length cb) ∧ V.cell? ⟨gn, 5, none⟩ = some (.slice Ak n.kids.length ck)) ∧ (V.cell? ⟨gk, 0, none⟩ = some (.int .i64 n.kind) ∧ V.cell? ⟨gk, 1, none⟩ = some (.string n.code) ∧ V.cell? ⟨gk, 2, none⟩ = some (.string n.value) ∧ V.cell? ⟨gk, 3, none⟩ = some (.string n.path) ∧ V.cell? ⟨gk, 4, none⟩ = some (.slice Ab4 n.bytes.length cb4) ∧ V.cell? ⟨gk, 5, none⟩ = some (.slice Ak4 n.kids.length ck4)) ∧ (V.cell? ⟨gx, 0, none⟩ = some (.int .i64 r.1) ∧ V.cell? ⟨gx, 1, none⟩ = some (.int .u32 r.2)) ∧ (V.cell? ⟨gr, 0, none⟩ = some (.int .i64 r.1) ∧ V.cell? ⟨gr, 1, none⟩ = some (.int .u32 r.2)))) (by kernel_rfl) ?_ (fun hHeld0 => ?_)
  · exact HS.out _ HB0.out
  refine wpAnyH_take (i := 0) (v := ?_) rfl (by kernel_rfl) (by kernel_rfl) (by kernel_rfl) (fun _ _ _ h => h) (Or.inl ⟨by rfl, ?_⟩) hHeld0 ?_
  rotate_left
  · (intro w hSw; (try dsimp only at hSw); go_simp <;> with_reducible rfl)
  try simp only [Act.put, List.setIfInBounds_toArray, List.set_cons_zero, List.set_cons_succ]
  refine wpAnyH_take (i := 1) (v := ?_) rfl (by kernel_rfl) (by kernel_rfl) (by kernel_rfl) (fun _ _ _ h => h) (Or.inl ⟨by rfl, ?_⟩) hHeld0 ?_
  rotate_left
  · (intro w hSw; (try dsimp only at hSw); go_simp <;> with_reducible rfl)
  try simp only [Act.put, List.setIfInBounds_toArray, List.set_cons_zero, List.set_cons_succ]
  refine wpAnyH_take (i := 2) (v := ?_) rfl (by kernel_rfl) (by kernel_rfl) (by kernel_rfl) (fun _ _ _ h => h) (Or.inl ⟨by kernel_rfl, ?_⟩) hHeld0 ?_
  rotate_left
  · (intro w hSw; (try dsimp only at hSw); go_simp <;> with_reducible rfl)
  try simp only [Act.put, List.setIfInBounds_toArray, List.set_cons_zero, List.set_cons_succ]
  refine wpAnyH_take (i := 3) (v := ?_) rfl (by kernel_rfl) (by kernel_rfl) (by kernel_rfl) (fun _ _ _ h => h) (Or.inl ⟨by kernel_rfl, ?_⟩) hHeld0 ?_
  rotate_left
  · (intro w hSw; (try dsimp only at hSw); go_simp <;> with_reducible rfl)
  try simp only [Act.put, List.setIfInBounds_toArray, List.set_cons_zero, List.set_cons_succ]
  refine wpAnyH_take (i := 4) (v := ?_) rfl (by kernel_rfl) (by kernel_rfl) (by kernel_rfl) (fun _ _ _ h => h) (Or.inl ⟨by rfl, ?_⟩) hHeld0 ?_
  rotate_left
  · (intro w hSw; (try dsimp only at hSw); go_simp <;> with_reducible rfl)
  try simp only [Act.put, List.setIfInBounds_toArray, List.set_cons_zero, List.set_cons_succ]
  refine wpAnyH_take (i := 5) (v := ?_) rfl (by kernel_rfl) (by kernel_rfl) (by kernel_rfl) (fun _ _ _ h => h) (Or.inl ⟨by rfl, ?_⟩) hHeld0 ?_
  rotate_left
  · (intro w hSw; (try dsimp only at hSw); go_simp <;> with_reducible rfl)
  try simp only [Act.put, List.setIfInBounds_toArray, List.set_cons_zero, List.set_cons_succ]
  refine wpAnyH_take (i := 6) (v := ?_) rfl (by kernel_rfl) (by kernel_rfl) (by kernel_rfl) (fun _ _ _ h => h) (Or.inl ⟨by kernel_rfl, ?_⟩) hHeld0 ?_
  rotate_left
  · (intro w hSw; (try dsimp only at hSw); go_simp <;> with_reducible rfl)
  try simp only [Act.put, List.setIfInBounds_toArray, List.set_cons_zero, List.set_cons_succ]
  refine wpAnyH_take (i := 7) (v := ?_) rfl (by kernel_rfl) (by kernel_rfl) (by kernel_rfl) (fun _ _ _ h => h) (Or.inl ⟨by kernel_rfl, ?_⟩) hHeld0 ?_
  rotate_left
  · (intro w hSw; (try dsimp only at hSw); go_simp <;> with_reducible rfl)
  try simp only [Act.put, List.setIfInBounds_toArray, List.set_cons_zero, List.set_cons_succ]
  refine wpAnyH_take (i := 8) (v := ?_) rfl (by kernel_rfl) (by kernel_rfl) (by kernel_rfl) (fun _ _ _ h => h) (Or.inl ⟨by kernel_rfl, ?_⟩) hHeld0 ?_
  rotate_left
  · (intro w hSw; (try dsimp only at hSw); go_simp <;> with_reducible rfl)
  try simp only [Act.put, List.setIfInBounds_toArray, List.set_cons_zero, List.set_cons_succ]
  refine wpAnyH_take (i := 9) (v := ?_) rfl (by kernel_rfl) (by kernel_rfl) (by kernel_rfl) (fun _ _ _ h => h) (Or.inl ⟨by rfl, ?_⟩) hHeld0 ?_
  rotate_left
  · (intro w hSw; (try dsimp only at hSw); go_simp <;> with_reducible rfl)
  try simp only [Act.put, List.setIfInBounds_toArray, List.set_cons_zero, List.set_cons_succ]
  refine wpAnyH_take (i := 10) (v := ?_) rfl (by kernel_rfl) (by kernel_rfl) (by kernel_rfl) (fun _ _ _ h => h) (Or.inl ⟨by rfl, ?_⟩) hHeld0 ?_
  rotate_left
  · (intro w hSw; (try dsimp only at hSw); go_simp <;> with_reducible rfl)
  try simp only [Act.put, List.setIfInBounds_toArray, List.set_cons_zero, List.set_cons_succ]
  refine wpAnyH_take (i := 11) (v := ?_) rfl (by kernel_rfl) (by kernel_rfl) (by kernel_rfl) (fun _ _ _ h => h) (Or.inl ⟨by kernel_rfl, ?_⟩) hHeld0 ?_
  rotate_left
  · (intro w hSw; (try dsimp only at hSw); go_simp <;> with_reducible rfl)
  try simp only [Act.put, List.setIfInBounds_toArray, List.set_cons_zero, List.set_cons_succ]
  refine wpAnyH_take (i := 12) (v := ?_) rfl (by kernel_rfl) (by kernel_rfl) (by kernel_rfl) (fun _ _ _ h => h) (Or.inl ⟨by kernel_rfl, ?_⟩) hHeld0 ?_
  rotate_left
  · (intro w hSw; (try dsimp only at hSw); go_simp <;> with_reducible rfl)
  try simp only [Act.put, List.setIfInBounds_toArray, List.set_cons_zero, List.set_cons_succ]
  refine wpAnyH_take (i := 13) (v := ?_) rfl (by kernel_rfl) (by kernel_rfl) (by kernel_rfl) (fun _ _ _ h => h) (Or.inl ⟨by rfl, ?_⟩) hHeld0 ?_
  rotate_left
  · (intro w hSw; (try dsimp only at hSw); go_simp <;> with_reducible rfl)
  try simp only [Act.put, List.setIfInBounds_toArray, List.set_cons_zero, List.set_cons_succ]
  refine wpAnyH_take (i := 14) (v := ?_) rfl (by kernel_rfl) (by kernel_rfl) (by kernel_rfl) (fun _ _ _ h => h) (Or.inl ⟨by rfl, ?_⟩) hHeld0 ?_
  rotate_left
  · (intro w hSw; (try dsimp only at hSw); go_simp <;> with_reducible rfl)
  try simp only [Act.put, List.setIfInBounds_toArray, List.set_cons_zero, List.set_cons_succ]
  refine wpAnyH_take (i := 15) (v := ?_) rfl (by kernel_rfl) (by kernel_rfl) (by kernel_rfl) (fun _ _ _ h => h) (Or.inl ⟨by kernel_rfl, ?_⟩) hHeld0 ?_
  rotate_left
  · (intro w hSw; (try dsimp only at hSw); go_simp <;> with_reducible rfl)
  try simp only [Act.put, List.setIfInBounds_toArray, List.set_cons_zero, List.set_cons_succ]
  refine wpAnyH_take (i := 16) (v := ?_) rfl (by kernel_rfl) (by kernel_rfl) (by kernel_rfl) (fun _ _ _ h => h) (Or.inl ⟨by kernel_rfl, ?_⟩) hHeld0 ?_
  rotate_left
  · (intro w hSw; (try dsimp only at hSw); go_simp <;> with_reducible rfl)
  try simp only [Act.put, List.setIfInBounds_toArray, List.set_cons_zero, List.set_cons_succ]
  refine wpAnyH_ready (rs := [17]) (by kernel_rfl) (by simp) ?_
  refine AllReadyH.cons rfl (fun K hK => ?_) ?_
  · go_simp
    refine (HC1.out _ HB0.out).mono ?_
    rintro e w1 ⟨rfl, hb⟩
    have HB1 := Lib.hid (HB0.out.trans (hb.mono HB0.out.size))
    clear hb
    refine hK.out _ _ ?_ (fun hHeld1 => ?_)
    · exact HS.out _ HB1.out
    clear hK K hHeld0
    try simp only [Act.put, List.setIfInBounds_toArray, List.set_cons_zero, List.set_cons_succ]
    refine wpAnyH_take (i := 18) (v := ?_) rfl (by kernel_rfl) (by kernel_rfl) (by kernel_rfl) (fun _ _ _ h => h) (Or.inl ⟨by kernel_rfl, ?_⟩) hHeld1 ?_
    rotate_left
    · (intro w hSw; (try dsimp only at hSw); go_simp <;> with_reducible rfl)
    try simp only [Act.put, List.setIfInBounds_toArray, List.set_cons_zero, List.set_cons_succ]
    refine wpAnyH_take (i := 19) (v := ?_) rfl (by kernel_rfl) (by kernel_rfl) (by kernel_rfl) (fun _ _ _ h => h) (Or.inl ⟨by rfl, ?_⟩) hHeld1 ?_
    rotate_left
    · (intro w hSw; (try dsimp only at hSw); go_simp <;> with_reducible rfl)
    try simp only [Act.put, List.setIfInBounds_toArray, List.set_cons_zero, List.set_cons_succ]
    refine wpAnyH_take (i := 20) (v := ?_) rfl (by kernel_rfl) (by kernel_rfl) (by kernel_rfl) (fun _ _ _ h => h) (Or.inl ⟨by rfl, ?_⟩) hHeld1 ?_
    rotate_left
    · (intro w hSw; (try dsimp only at hSw); go_simp <;> with_reducible rfl)
    try simp only [Act.put, List.setIfInBounds_toArray, List.set_cons_zero, List.set_cons_succ]
    refine wpAnyH_take (i := 21) (v := ?_) rfl (by kernel_rfl) (by kernel_rfl) (by kernel_rfl) (fun _ _ _ h => h) (Or.inl ⟨by kernel_rfl, ?_⟩) hHeld1 ?_
    rotate_left
    · (intro w hSw; (try dsimp only at hSw); go_simp <;> with_reducible rfl)
    try simp only [Act.put, List.setIfInBounds_toArray, List.set_cons_zero, List.set_cons_succ]
    refine wpAnyH_ready (rs := [22]) (by kernel_rfl) (by simp) ?_
    refine AllReadyH.cons rfl (fun K hK => ?_) ?_
    · go_simp
      refine (HC2.out _ HB1.out).mono ?_
      rintro e w2 ⟨rfl, hb⟩
      have HB2 := Lib.hid (HB1.out.trans (hb.mono HB1.out.size))
      clear hb
      refine hK.out _ _ ?_ (fun hHeld2 => ?_)
      · exact HS.out _ HB2.out
      clear hK K hHeld1
      try simp only [Act.put, List.setIfInBounds_toArray, List.set_cons_zero, List.set_cons_succ]
      refine wpAnyH_take (i := 23) (v := ?_) rfl (by kernel_rfl) (by kernel_rfl) (by kernel_rfl) (fun _ _ _ h => h) (Or.inl ⟨by kernel_rfl, ?_⟩) hHeld2 ?_
      rotate_left
      · (intro w hSw; (try dsimp only at hSw); go_simp <;> with_reducible rfl)
      try simp only [Act.put, List.setIfInBounds_toArray, List.set_cons_zero, List.set_cons_succ]
      refine wpAnyH_take (i := 24) (v := ?_) rfl (by kernel_rfl) (by kernel_rfl) (by kernel_rfl) (fun _ _ _ h => h) (Or.inl ⟨by rfl, ?_⟩) hHeld2 ?_
      rotate_left
      · (intro w hSw; (try dsimp only at hSw); go_simp <;> with_reducible rfl)
      try simp only [Act.put, List.setIfInBounds_toArray, List.set_cons_zero, List.set_cons_succ]
      refine wpAnyH_take (i := 25) (v := ?_) rfl (by kernel_rfl) (by kernel_rfl) (by kernel_rfl) (fun _ _ _ h => h) (Or.inl ⟨by rfl, ?_⟩) hHeld2 ?_
      rotate_left
      · (intro w hSw; (try dsimp only at hSw); go_simp <;> with_reducible rfl)
      try simp only [Act.put, List.setIfInBounds_toArray, List.set_cons_zero, List.set_cons_succ]
      refine wpAnyH_take (i := 26) (v := ?_) rfl (by kernel_rfl) (by kernel_rfl) (by kernel_rfl) (fun _ _ _ h => h) (Or.inl ⟨by kernel_rfl, ?_⟩) hHeld2 ?_
      rotate_left
      · (intro w hSw; (try dsimp only at hSw); go_simp <;> with_reducible rfl)
      try simp only [Act.put, List.setIfInBounds_toArray, List.set_cons_zero, List.set_cons_succ]
      refine wpAnyH_take (i := 27) (v := ?_) rfl (by kernel_rfl) (by kernel_rfl) (by kernel_rfl) (fun _ _ _ h => h) (Or.inl ⟨by kernel_rfl, ?_⟩) hHeld2 ?_
      rotate_left
      · (intro w hSw; (try dsimp only at hSw); go_simp <;> with_reducible rfl)
      try simp only [Act.put, List.setIfInBounds_toArray, List.set_cons_zero, List.set_cons_succ]
      refine wpAnyH_take (i := 28) (v := ?_) rfl (by kernel_rfl) (by kernel_rfl) (by kernel_rfl) (fun _ _ _ h => h) (Or.inl ⟨by kernel_rfl, ?_⟩) hHeld2 ?_
      rotate_left
      · (intro w hSw; (try dsimp only at hSw); go_simp <;> with_reducible rfl)
      try simp only [Act.put, List.setIfInBounds_toArray, List.set_cons_zero, List.set_cons_succ]
      refine wpAnyH_take (i := 29) (v := ?_) rfl (by kernel_rfl) (by kernel_rfl) (by kernel_rfl) (fun _ _ _ h => h) (Or.inl ⟨by kernel_rfl, ?_⟩) hHeld2 ?_
      rotate_left
      · (intro w hSw; (try dsimp only at hSw); go_simp <;> with_reducible rfl)
      try simp only [Act.put, List.setIfInBounds_toArray, List.set_cons_zero, List.set_cons_succ]
      refine wpAnyH_take (i := 30) (v := ?_) rfl (by kernel_rfl) (by kernel_rfl) (by kernel_rfl) (fun _ _ _ h => h) (Or.inl ⟨by kernel_rfl, ?_⟩) hHeld2 ?_
      rotate_left
      · (intro w hSw; (try dsimp only at hSw); go_simp <;> with_reducible rfl)
      try simp only [Act.put, List.setIfInBounds_toArray, List.set_cons_zero, List.set_cons_succ]
      refine wpAnyH_take (i := 31) (v := ?_) rfl (by kernel_rfl) (by kernel_rfl) (by kernel_rfl) (fun _ _ _ h => h) (Or.inl ⟨by kernel_rfl, ?_⟩) hHeld2 ?_
      rotate_left
      · (intro w hSw; (try dsimp only at hSw); go_simp <;> with_reducible rfl)
      try simp only [Act.put, List.setIfInBounds_toArray, List.set_cons_zero, List.set_cons_succ]
      refine wpAnyH_take (i := 32) (v := ?_) rfl (by kernel_rfl) (by kernel_rfl) (by kernel_rfl) (fun _ _ _ h => h) (Or.inl ⟨by kernel_rfl, ?_⟩) hHeld2 ?_
      rotate_left
      · (intro w hSw; (try dsimp only at hSw); go_simp <;> with_reducible rfl)
      try simp only [Act.put, List.setIfInBounds_toArray, List.set_cons_zero, List.set_cons_succ]
      refine wpAnyH_take (i := 33) (v := ?_) rfl (by kernel_rfl) (by kernel_rfl) (by kernel_rfl) (fun _ _ _ h => h) (Or.inl ⟨by kernel_rfl, ?_⟩) hHeld2 ?_
      rotate_left
      · (intro w hSw; (try dsimp only at hSw); go_simp <;> with_reducible rfl)
      try simp only [Act.put, List.setIfInBounds_toArray, List.set_cons_zero, List.set_cons_succ]
      refine wpAnyH_take (i := 34) (v := ?_) rfl (by kernel_rfl) (by kernel_rfl) (by kernel_rfl) (fun _ _ _ h => h) (Or.inl ⟨by rfl, ?_⟩) hHeld2 ?_
      rotate_left
      · (intro w hSw; (try dsimp only at hSw); go_simp <;> with_reducible rfl)
      try simp only [Act.put, List.setIfInBounds_toArray, List.set_cons_zero, List.set_cons_succ]
      refine wpAnyH_take (i := 35) (v := ?_) rfl (by kernel_rfl) (by kernel_rfl) (by kernel_rfl) (fun _ _ _ h => h) (Or.inl ⟨by rfl, ?_⟩) hHeld2 ?_
      rotate_left
      · (intro w hSw; (try dsimp only at hSw); go_simp <;> with_reducible rfl)
      try simp only [Act.put, List.setIfInBounds_toArray, List.set_cons_zero, List.set_cons_succ]
      refine wpAnyH_take (i := 36) (v := ?_) rfl (by kernel_rfl) (by kernel_rfl) (by kernel_rfl) (fun _ _ _ h => h) (Or.inl ⟨by kernel_rfl, ?_⟩) hHeld2 ?_
      rotate_left
      · (intro w hSw; (try dsimp only at hSw); go_simp <;> with_reducible rfl)
      try simp only [Act.put, List.setIfInBounds_toArray, List.set_cons_zero, List.set_cons_succ]
      refine wpAnyH_take (i := 37) (v := ?_) rfl (by kernel_rfl) (by kernel_rfl) (by kernel_rfl) (fun _ _ _ h => h) (Or.inl ⟨by kernel_rfl, ?_⟩) hHeld2 ?_
      rotate_left
      · (intro w hSw; (try dsimp only at hSw); go_simp <;> with_reducible rfl)
      try simp only [Act.put, List.setIfInBounds_toArray, List.set_cons_zero, List.set_cons_succ]
      refine wpAnyH_take (i := 39) (v := ?_) rfl (by kernel_rfl) (by kernel_rfl) (by kernel_rfl) (fun _ _ _ h => h) (Or.inl ⟨by kernel_rfl, ?_⟩) hHeld2 ?_
      rotate_left
      · (intro w hSw; (try dsimp only at hSw); go_simp <;> with_reducible rfl)
      try simp only [Act.put, List.setIfInBounds_toArray, List.set_cons_zero, List.set_cons_succ]
      refine wpAnyH_take (i := 40) (v := ?_) rfl (by kernel_rfl) (by kernel_rfl) (by kernel_rfl) (fun _ _ _ h => h) (Or.inl ⟨by kernel_rfl, ?_⟩) hHeld2 ?_
      rotate_left
      · (intro w hSw; (try dsimp only at hSw); go_simp <;> with_reducible rfl)
      try simp only [Act.put, List.setIfInBounds_toArray, List.set_cons_zero, List.set_cons_succ]
      refine wpAnyH_take (i := 41) (v := ?_) rfl (by kernel_rfl) (by kernel_rfl) (by kernel_rfl) (fun _ _ _ h => h) (Or.inl ⟨by kernel_rfl, ?_⟩) hHeld2 ?_
      rotate_left
      · (intro w hSw; (try dsimp only at hSw); go_simp <;> with_reducible rfl)
      try simp only [Act.put, List.setIfInBounds_toArray, List.set_cons_zero, List.set_cons_succ]
      refine wpAnyH_ready (rs := [38]) (by kernel_rfl) (by simp) ?_
      refine AllReadyH.cons rfl (fun K hK => ?_) ?_
      · go_simp
        refine (HC3.out _ HB2.out).mono ?_
        rintro e w3 ⟨rfl, rfl⟩
        refine hK.out _ _ ?_ (fun hHeld3 => ?_)
        · exact HS.out _ HB2.out
        clear hK K hHeld2
        try simp only [Act.put, List.setIfInBounds_toArray, List.set_cons_zero, List.set_cons_succ]
        refine wpAnyH_take (i := 42) (v := ?_) rfl (by kernel_rfl) (by kernel_rfl) (by kernel_rfl) (fun _ _ _ h => h) (Or.inl ⟨by kernel_rfl, ?_⟩) hHeld3 ?_
        rotate_left
        · (intro w hSw; (try dsimp only at hSw); go_simp <;> with_reducible rfl)
        try simp only [Act.put, List.setIfInBounds_toArray, List.set_cons_zero, List.set_cons_succ]
        refine wpAnyH_take (i := 43) (v := ?_) rfl (by kernel_rfl) (by kernel_rfl) (by kernel_rfl) (fun _ _ _ h => h) (Or.inl ⟨by rfl, ?_⟩) hHeld3 ?_
        rotate_left
        · (intro w hSw; (try dsimp only at hSw); go_simp <;> with_reducible rfl)
        try simp only [Act.put, List.setIfInBounds_toArray, List.set_cons_zero, List.set_cons_succ]
        try simp only [Act.put, List.getElem_toArray, List.getElem_cons_succ, List.getElem_cons_zero, List.setIfInBounds_toArray, List.set_cons_zero, List.set_cons_succ]
        refine wpAnyH_done (by kernel_rfl) ?_ _
        refine NoPanic.normal (HQ.out _ _ _ _ _ _ _ _ _ _ _ _ _ _ _ _ _ _ _ _ _ _ _ _ _ _ _ _ _ _ _ _ _ _ _ _ _ _ _ _ _ _ _ _ HB2.out)
      exact AllReadyH.nil
    exact AllReadyH.nil
  exact AllReadyH.nil
end Go.Proofs.YtgjgcbemgmkncaaDoor
namespace Go.Proofs.YtgjgcbemgmkncaaDoor
open Go.RowKit Go.Shelf
set_option linter.unusedVariables false
set_option linter.unusedSimpArgs false

set_option maxHeartbeats 12800000 in
set_option maxRecDepth 100000 in
theorem bkB {u0 u2 u3 u5 u8 u9 u12 u19 u20 u21 u22 u23 u24 u25 u26 u27 u28 u29 u30 u31 u32 u33 u34 u35 u36 u37 u38 u39 u40 u41 u42 u43 u44 u45 u46 u47 u48 u49 u50 u51 u52 u53 u54 u55 u56 u57 u58 u59 u60 u61 u62 u63 u64 u65 u66 u67 u68 u69 u70 u71 u72 u73 u74 u75 u76 u77 u78 u79 u80 u81 u82 u83 u84 u85 u86 u87 u88 u89 u90 u91 u92 u93 u94 u95 u96 u97 u98 u99 u100 u101 u102 u103 u104 u105 u106 u107 u108 u109 u110 u111 u112 u113 u114 u115 u116 u117 u118 u119 u120 u121 u122 u123 u124 u125 u126 u127 u128 u129 u130 u131 u132 u133 u134 u135 u136 u137 u138 u139 u140 u141 u142 u143 u144 u145 u146 u147 u148 u149 u150 u151 u152 u153 u154 u155 u156 u157 u158 u159 u160 u161 u162 u163 u164 u165 u166 u167 u168 u169 u170 u171 u172 u173 u174 u175 u176 u177 u178 u179 u180 u181 u182 u183 u184 u185 u186 u187 u188 u189 u190 u191 u192 u193 u194 u195 u196 u197 u198 u199 u200 u201 u202 u203 u204 u205 u206 u207 u208 u209 : Value} {ds : List Deferred} {Q : Exit → Act → World → Prop} (b gn gr gs gm gt : Nat) (r s : Int × Int) (n m t : Nd) (Ab Ak Ab2 Ak2 Ab3 Ak3 : Option Addr) (cb ck cb2 ck2 cb3 ck3 : Nat) (w w0 : World) (gx gk : Nat) (Ab4 Ak4 : Option Addr) (cb4 ck4 : Nat) (c : Int)
    (hS : BkW w [⟨gt, t, Ab3, cb3, Ak3, ck3⟩, ⟨gk, n, Ab4, cb4, Ak4, ck4⟩, ⟨gm, m, Ab2, cb2, Ak2, ck2⟩, ⟨gn, n, Ab, cb, Ak, ck⟩] [(gx, r), (gr, r), (gs, s)] w0) (hr0 : RoomsAt w) (hb256 : b < 256) (hrok : refOk r) (hc : c = 4 ∨ c = 0 ∧ findN t b = some s ∧ turnN t b r = (m, 0)) (hk : (m.kind == n.kind) = !n.full) (hlen : n.bytes.length = n.kids.length) (hn256 : ∀ x ∈ n.bytes, x < 256) (hkids : ∀ i (h : i < n.bytes.length) (h2 : i < n.kids.length), findN m n.bytes[i] = some n.kids[i]) (hright : m.rightN = true) (hl : m.kids.length = n.kids.length + 1) (hl2 : n.kids.length ≤ 256) (hroom : (m.kids.length : Int) ≤ roomN m.kind) (hQ : BackRet w ds Q) :
    Code.wp Tryd.prog (part Tryd.f4 [1, 1, 1, 1, 1, 1, 1, 1, 1]) Q ⟨#[u0, .int .u8 (b : Int), u2, u3, .pointer (some ⟨gn, 0, none⟩), u5, .pointer (some ⟨gr, 0, none⟩), .pointer (some ⟨gs, 0, none⟩), u8, u9, .bool false, .pointer (some ⟨gm, 0, none⟩), u12, .pointer (some ⟨gx, 0, none⟩), .bool true, .pointer (some ⟨gk, 0, none⟩), .int .i64 0, .pointer (some ⟨gt, 0, none⟩), .int .i64 c, u19, u20, u21, u22, u23, u24, u25, u26, u27, u28, u29, u30, u31, u32, u33, u34, u35, u36, u37, u38, u39, u40, u41, u42, u43, u44, u45, u46, u47, u48, u49, u50, u51, u52, u53, u54, u55, u56, u57, u58, u59, u60, u61, u62, u63, u64, u65, u66, u67, u68, u69, u70, u71, u72, u73, u74, u75, u76, u77, u78, u79, u80, u81, u82, u83, u84, u85, u86, u87, u88, u89, u90, u91, u92, u93, u94, u95, u96, u97, u98, u99, u100, u101, u102, u103, u104, u105, u106, u107, u108, u109, u110, u111, u112, u113, u114, u115, u116, u117, u118, u119, u120, u121, u122, u123, u124, u125, u126, u127, u128, u129, u130, u131, u132, u133, u134, u135, u136, u137, u138, u139, u140, u141, u142, u143, u144, u145, u146, u147, u148, u149, u150, u151, u152, u153, u154, u155, u156, u157, u158, u159, u160, u161, u162, u163, u164, u165, u166, u167, u168, u169, u170, u171, u172, u173, u174, u175, u176, u177, u178, u179, u180, u181, u182, u183, u184, u185, u186, u187, u188, u189, u190, u191, u192, u193, u194, u195, u196, u197, u198, u199, u200, u201, u202, u203, u204, u205, u206, u207, u208, u209], ds⟩ w0 := by
  conv => arg 2; whnf
  have HQ := Lib.hid hQ
  clear hQ
  have HA := Lib.hid (And.intro hc (And.intro hk (And.intro hlen (And.intro hn256 hkids))))
  have HS := Lib.hid hS
  clear hc hk hlen hn256 hkids hS
  refine wp_seq_k fun K1 hK => ?_
  have HK1 := Lib.hid hK
  clear hK
  refine wp_seq_k fun K2 hK => ?_
  have HK2 := Lib.hid hK
  clear hK
  refine bk12 gn gm gk gx gr n m Ab Ak Ab2 Ak2 Ab4 Ak4 cb ck cb2 ck2 cb4 ck4 r w0 HS.out.ctx.b2 HS.out.ctx.b3 HS.out.ctx.b1 HS.out.r0 HS.out.r1 HS.out.ctx.rooms hright hl hl2 hroom (fun z85 z86 z87 z88 z89 z90 z91 z92 z93 z94 z95 z96 z97 z98 z99 z100 z101 z102 z103 z104 z105 z106 z107 z108 z109 z110 z111 z112 z113 z114 z115 z116 z117 z118 z119 z120 z121 z122 z123 z124 z125 z126 z127 V hb => ?_)
  have HN := Lib.hid (HS.out.on hb).dropR.swap.drop0
  clear hb HS hright hl hl2 hroom
  refine HK2.out _ _ ?_
  clear HK2
  go_wp2_with fail
  refine HK1.out _ _ ?_
  clear HK1
  exact bkC b gn gr gs gm gt r s n m t Ab Ak Ab2 Ak2 Ab3 Ak3 cb ck cb2 ck2 cb3 ck3 w V c HN.out hr0 hb256 hrok HA.out.1 HA.out.2.1 HA.out.2.2.1 HA.out.2.2.2.1 HA.out.2.2.2.2 HQ.out
end Go.Proofs.YtgjgcbemgmkncaaDoor
namespace Go.Proofs.YtgjgcbemgmkncaaDoor
open Go.RowKit Go.Shelf
set_option linter.unusedVariables false
set_option linter.unusedSimpArgs false

structure BackF (n m : Nd) (b : Nat) (r s : Int × Int) : Prop where
  find : findN m b = some r
  cut : cutN m b false = (n, 0)
  turn : ∃ t c, turnN m b s = (t, c) ∧ (c = 4 ∨ c = 0 ∧ findN t b = some s ∧ turnN t b r = (m, 0))
  right : m.rightN = true
  kind : (m.kind == n.kind) = !n.full
  len : n.bytes.length = n.kids.length
  kids : ∀ i (h : i < n.bytes.length) (h2 : i < n.kids.length), findN m n.bytes[i] = some n.kids[i]
  l1 : m.kids.length = n.kids.length + 1
  l2 : n.kids.length ≤ 256
  room : (m.kids.length : Int) ≤ roomN m.kind
theorem back_facts {n : Nd} {f : Kids} {b : Nat} {r s : Int × Int} (hf : KidsOk f) (h2 : 2 ≤ cntK f) (hp : n.path.size ≤ 34) (hn : n = ofNd n f (kindK f)) (hb : b < 256) (hfb : f b = none) (hkr : kidN r = true) (hr : refOk r) (hs : refOk s) (hl2 : cntK f < 256) :
    BackF n (ofNd n (setK f b (some r)) (kindK (setK f b (some r)))) b r s := by
  have hf2 := hf.set hb hkr hr
  have hc : cntK (setK f b (some r)) = cntK f + 1 := cnt_set_some r hb hfb
  have hself : setK f b (some r) b = some r := by unfold setK; rw [if_pos rfl]
  have el : n.kids.length = cntK f ∧ n.bytes.length = cntK f := by
    have := len_ofNd n f (kindK f)
    rw [← hn] at this
    exact this
  have hsb : ∀ q, setK (setK (setK f b (some r)) b q) b (some r) = setK f b (some r) := fun q => by rw [set_twice, set_twice]
  refine ⟨?_, ?_, ?_, ?_, ?_, by rw [el.1, el.2], ?_, by rw [(len_ofNd _ _ _).1, el.1, hc], by rw [el.1]; omega, by rw [(len_ofNd _ _ _).1]; exact (kindK_room _).1⟩
  · rw [find_low hf2 hp (by omega), hself]
  · rw [cut_low hb hf2 hp (by omega), hself, Option.isSome_some, if_pos rfl, set_back hfb]
    exact congrArg (·, (0 : Int)) hn.symm
  · refine ⟨(turnN (ofNd n (setK f b (some r)) (kindK (setK f b (some r)))) b s).1, (turnN (ofNd n (setK f b (some r)) (kindK (setK f b (some r)))) b s).2, rfl, ?_⟩
    rw [turn_low hf2 hp (by omega) hb s, hself]
    cases hks : kidN s with
    | false => exact .inl rfl
    | true =>
      refine .inr ?_
      rw [if_neg (by simp), Option.isSome_some, if_pos rfl]
      have hf3 := hf2.set hb hks hs
      have hc3 : cntK (setK (setK f b (some r)) b (some s)) = cntK f + 1 := by rw [kind_same hb hself, hc]
      have hself3 : setK (setK f b (some r)) b (some s) b = some s := by unfold setK; rw [if_pos rfl]
      refine ⟨rfl, ?_, ?_⟩
      · show findN (ofNd n (setK (setK f b (some r)) b (some s)) (kindK (setK (setK f b (some r)) b (some s)))) b = some s
        rw [find_low hf3 hp (by omega), hself3]
      · show turnN (ofNd n (setK (setK f b (some r)) b (some s)) (kindK (setK (setK f b (some r)) b (some s)))) b r = _
        rw [turn_low hf3 hp (by omega) hb r, hself3, hkr, if_neg (by simp), Option.isSome_some, if_pos rfl, hsb]
  · unfold Nd.rightN
    rw [(right_low hf2 hp (by omega)).1, Bool.or_true]
  · have h1 := full_low hf hp h2
    rw [← hn] at h1
    rw [h1]
    have h3 : n.kind = kindK f := by have := congrArg Nd.kind hn; exact this
    rw [h3]
    exact kind_grows hc (by omega)
  · intro i h h'
    have e1 : n.bytes = (kidsOf f).map (·.1) := by have := bytes_ofNd n f (kindK f); rw [← hn] at this; exact this
    have e2 : n.kids = (kidsOf f).map (·.2) := by have := kids_ofNd n f (kindK f); rw [← hn] at this; exact this
    have hi : i < (kidsOf f).length := by rw [e1] at h; simpa using h
    have g1 : n.bytes[i] = ((kidsOf f)[i]).1 := by simp only [e1, List.getElem_map]
    have g2 : n.kids[i] = ((kidsOf f)[i]).2 := by simp only [e2, List.getElem_map]
    have hm : ((kidsOf f)[i].1, (kidsOf f)[i].2) ∈ kidsOf f := List.getElem_mem hi
    have hm2 := (mem_kidsIn.1 hm).2
    rw [g1, g2, find_low hf2 hp (by omega)]
    unfold setK
    rw [if_neg (fun e => by rw [e, hfb] at hm2; cases hm2)]
    exact hm2
end Go.Proofs.YtgjgcbemgmkncaaDoor
namespace Go.Proofs.YtgjgcbemgmkncaaDoor
open Go.RowKit Go.Shelf
set_option linter.unusedVariables false
set_option linter.unusedSimpArgs false

set_option maxHeartbeats 12800000 in
set_option maxRecDepth 100000 in
theorem bkA {u0 u2 u3 u5 u8 u9 u12 u13 u14 u15 u16 u17 u18 u19 u20 u21 u22 u23 u24 u25 u26 u27 u28 u29 u30 u31 u32 u33 u34 u35 u36 u37 u38 u39 u40 u41 u42 u43 u44 u45 u46 u47 u48 u49 u50 u51 u52 u53 u54 u55 u56 u57 u58 u59 u60 u61 u62 u63 u64 u65 u66 u67 u68 u69 u70 u71 u72 u73 u74 u75 u76 u77 u78 u79 u80 u81 u82 u83 u84 u85 u86 u87 u88 u89 u90 u91 u92 u93 u94 u95 u96 u97 u98 u99 u100 u101 u102 u103 u104 u105 u106 u107 u108 u109 u110 u111 u112 u113 u114 u115 u116 u117 u118 u119 u120 u121 u122 u123 u124 u125 u126 u127 u128 u129 u130 u131 u132 u133 u134 u135 u136 u137 u138 u139 u140 u141 u142 u143 u144 u145 u146 u147 u148 u149 u150 u151 u152 u153 u154 u155 u156 u157 u158 u159 u160 u161 u162 u163 u164 u165 u166 u167 u168 u169 u170 u171 u172 u173 u174 u175 u176 u177 u178 u179 u180 u181 u182 u183 u184 u185 u186 u187 u188 u189 u190 u191 u192 u193 u194 u195 u196 u197 u198 u199 u200 u201 u202 u203 u204 u205 u206 u207 u208 u209 : Value} {ds : List Deferred} {Q : Exit → Act → World → Prop} (b gn gr gs gm : Nat) (r s : Int × Int) (n m : Nd) (Ab Ak Ab2 Ak2 : Option Addr) (cb ck cb2 ck2 : Nat) (w w0 : World)
    (hS : BkW w [⟨gm, m, Ab2, cb2, Ak2, ck2⟩, ⟨gn, n, Ab, cb, Ak, ck⟩] [(gr, r), (gs, s)] w0) (hr0 : RoomsAt w) (hb256 : b < 256) (hrok : refOk r) (hsok : refOk s) (hn256 : ∀ x ∈ n.bytes, x < 256) (hF : BackF n m b r s) (hQ : BackRet w ds Q) :
    Code.wp Tryd.prog (part Tryd.f4 [1, 1, 1, 1, 1, 1]) Q ⟨#[u0, .int .u8 (b : Int), u2, u3, .pointer (some ⟨gn, 0, none⟩), u5, .pointer (some ⟨gr, 0, none⟩), .pointer (some ⟨gs, 0, none⟩), u8, u9, .bool false, .pointer (some ⟨gm, 0, none⟩), u12, u13, u14, u15, u16, u17, u18, u19, u20, u21, u22, u23, u24, u25, u26, u27, u28, u29, u30, u31, u32, u33, u34, u35, u36, u37, u38, u39, u40, u41, u42, u43, u44, u45, u46, u47, u48, u49, u50, u51, u52, u53, u54, u55, u56, u57, u58, u59, u60, u61, u62, u63, u64, u65, u66, u67, u68, u69, u70, u71, u72, u73, u74, u75, u76, u77, u78, u79, u80, u81, u82, u83, u84, u85, u86, u87, u88, u89, u90, u91, u92, u93, u94, u95, u96, u97, u98, u99, u100, u101, u102, u103, u104, u105, u106, u107, u108, u109, u110, u111, u112, u113, u114, u115, u116, u117, u118, u119, u120, u121, u122, u123, u124, u125, u126, u127, u128, u129, u130, u131, u132, u133, u134, u135, u136, u137, u138, u139, u140, u141, u142, u143, u144, u145, u146, u147, u148, u149, u150, u151, u152, u153, u154, u155, u156, u157, u158, u159, u160, u161, u162, u163, u164, u165, u166, u167, u168, u169, u170, u171, u172, u173, u174, u175, u176, u177, u178, u179, u180, u181, u182, u183, u184, u185, u186, u187, u188, u189, u190, u191, u192, u193, u194, u195, u196, u197, u198, u199, u200, u201, u202, u203, u204, u205, u206, u207, u208, u209], ds⟩ w0 := by
  conv => arg 2; whnf
  have HQ := Lib.hid hQ
  clear hQ
  have HS := Lib.hid hS
  have HX := Lib.hid (And.intro hF hn256)
  have hf := Find_n m _ b w0 hS.ctx.b0.node hS.ctx.rooms hb256
  rw [hF.find] at hf
  have HF := Lib.hid hf
  obtain ⟨e0, e1, e2, e3, e4, e5⟩ := hS.ctx.b0.cells
  clear hS hf hF hn256
  unfold Nd.v optV refV at HF
  refine wp_seq_k fun K1 hK => ?_
  have HK1 := Lib.hid hK
  clear hK
  go_wp2_with fail
  refine HF.out.mono ?_
  rintro e w1 ⟨rfl, hb⟩
  have S1 := Lib.hid ((HS.out.on hb).newR r)
  clear hb HS HF e0 e1 e2 e3 e4 e5
  go_wp2_with fail
  refine HK1.out _ _ ?_
  clear HK1
  refine wp_seq_k fun K2 hK => ?_
  have HK2 := Lib.hid hK
  clear hK
  obtain ⟨e0, e1, e2, e3, e4, e5⟩ := S1.out.ctx.b0.cells
  have hf := Cut_n m _ b false _ S1.out.ctx.b0.node S1.out.ctx.rooms hb256
  rw [HX.out.1.cut] at hf
  have HF := Lib.hid hf
  clear hf
  unfold Nd.v at HF
  generalize w1.alloc _ = w2 at S1 HF e0 e1 e2 e3 e4 e5 ⊢
  go_wp2_with fail
  refine HF.out.mono ?_
  rintro e w3 ⟨V', rfl, hnd, hb, hrw⟩
  obtain ⟨A4, c4, A5, c5, rfl, hnd⟩ := open_nd hnd
  have S2 := Lib.hid ((S1.out.on hb).new hnd)
  clear hb hrw hnd HF S1 e0 e1 e2 e3 e4 e5
  unfold Nd.v
  go_wp2_with fail
  refine HK2.out _ _ ?_
  clear HK2
  unfold Nd.c at S2
  generalize w3.alloc _ = w4 at S2 ⊢
  refine wp_seq_k fun K3 hK => ?_
  have HK3 := Lib.hid hK
  clear hK
  obtain ⟨e0, e1, e2, e3, e4, e5⟩ := S2.out.ctx.b1.cells
  obtain ⟨f0, f1⟩ := S2.out.r2.cells
  obtain ⟨t, c, ht, hc⟩ := HX.out.1.turn
  have hf := Turn_n m _ b s _ S2.out.ctx.b1.node S2.out.ctx.rooms hb256 hsok
  rw [ht] at hf
  have HF := Lib.hid hf
  have HC := Lib.hid hc
  clear hf ht hc
  unfold Nd.v refV at HF
  go_wp2_with fail
  refine HF.out.mono ?_
  rintro e w5 ⟨V', rfl, hnd, hb, hrw⟩
  obtain ⟨A6, c6, A7, c7, rfl, hnd⟩ := open_nd hnd
  have S3 := Lib.hid ((S2.out.on hb).new hnd)
  clear hb hrw hnd HF S2 e0 e1 e2 e3 e4 e5 f0 f1
  unfold Nd.v
  go_wp2_with fail
  refine HK3.out _ _ ?_
  clear HK3
  unfold Nd.c at S3
  generalize w5.alloc _ = w6 at S3 ⊢
  exact bkB b gn gr gs gm _ r s n m t Ab Ak Ab2 Ak2 _ _ cb ck cb2 ck2 _ _ w w6 _ _ _ _ _ _ c S3.out hr0 hb256 hrok HC.out HX.out.1.kind HX.out.1.len HX.out.2 HX.out.1.kids HX.out.1.right HX.out.1.l1 HX.out.1.l2 HX.out.1.room HQ.out
end Go.Proofs.YtgjgcbemgmkncaaDoor
namespace Go.Proofs.YtgjgcbemgmkncaaDoor
open Go.RowKit Go.Shelf
set_option linter.unusedVariables false
set_option linter.unusedSimpArgs false

set_option maxHeartbeats 12800000 in
set_option maxRecDepth 100000 in
theorem bk7 {u0 u2 u3 u5 u8 u9 u13 u14 u15 u16 u17 u18 u19 u20 u21 u22 u23 u24 u25 u26 u27 u28 u29 u30 u31 u32 u33 u34 u35 u36 u37 u38 u39 u40 u41 u42 u43 u44 u45 u46 u47 u48 u49 u50 u51 u52 u53 u54 u55 u56 u57 u58 u59 u60 u61 u62 u63 u64 u65 u66 u67 u68 u69 u70 u71 u72 u73 u74 u75 u76 u77 u78 u79 u80 u81 u82 u83 u84 u85 u86 u87 u88 u89 u90 u91 u92 u93 u94 u95 u96 u97 u98 u99 u100 u101 u102 u103 u104 u105 u106 u107 u108 u109 u110 u111 u112 u113 u114 u115 u116 u117 u118 u119 u120 u121 u122 u123 u124 u125 u126 u127 u128 u129 u130 u131 u132 u133 u134 u135 u136 u137 u138 u139 u140 u141 u142 u143 u144 u145 u146 u147 u148 u149 u150 u151 u152 u153 u154 u155 u156 u157 u158 u159 u160 u161 u162 u163 u164 u165 u166 u167 u168 u169 u170 u171 u172 u173 u174 u175 u176 u177 u178 u179 u180 u181 u182 u183 u184 u185 u186 u187 u188 u189 u190 u191 u192 u193 u194 u195 u196 u197 u198 u199 u200 u201 u202 u203 u204 u205 u206 u207 u208 u209 : Value} {ds : List Deferred} {Q : Exit → Act → World → Prop} (b gn gr gs gm : Nat) (r s : Int × Int) (n m : Nd) (Ab Ak Ab2 Ak2 : Option Addr) (cb ck cb2 ck2 : Nat) (w w0 : World) (isb : Bool) (e : Int)
    (hS : BkW w [⟨gm, m, Ab2, cb2, Ak2, ck2⟩, ⟨gn, n, Ab, cb, Ak, ck⟩] [(gr, r), (gs, s)] w0) (hr0 : RoomsAt w) (hb256 : b < 256) (hrok : refOk r) (hsok : refOk s) (hn256 : ∀ x ∈ n.bytes, x < 256) (hcase : e = 4 ∨ (e = 8 ∧ isb = true) ∨ (e = 0 ∧ isb = false ∧ BackF n m b r s)) (hQ : BackRet w ds Q) :
    Code.wp Tryd.prog (part Tryd.f4 [1, 1, 1, 1, 1]) Q ⟨#[u0, .int .u8 (b : Int), u2, u3, .pointer (some ⟨gn, 0, none⟩), u5, .pointer (some ⟨gr, 0, none⟩), .pointer (some ⟨gs, 0, none⟩), u8, u9, .bool isb, .pointer (some ⟨gm, 0, none⟩), .int .i64 e, u13, u14, u15, u16, u17, u18, u19, u20, u21, u22, u23, u24, u25, u26, u27, u28, u29, u30, u31, u32, u33, u34, u35, u36, u37, u38, u39, u40, u41, u42, u43, u44, u45, u46, u47, u48, u49, u50, u51, u52, u53, u54, u55, u56, u57, u58, u59, u60, u61, u62, u63, u64, u65, u66, u67, u68, u69, u70, u71, u72, u73, u74, u75, u76, u77, u78, u79, u80, u81, u82, u83, u84, u85, u86, u87, u88, u89, u90, u91, u92, u93, u94, u95, u96, u97, u98, u99, u100, u101, u102, u103, u104, u105, u106, u107, u108, u109, u110, u111, u112, u113, u114, u115, u116, u117, u118, u119, u120, u121, u122, u123, u124, u125, u126, u127, u128, u129, u130, u131, u132, u133, u134, u135, u136, u137, u138, u139, u140, u141, u142, u143, u144, u145, u146, u147, u148, u149, u150, u151, u152, u153, u154, u155, u156, u157, u158, u159, u160, u161, u162, u163, u164, u165, u166, u167, u168, u169, u170, u171, u172, u173, u174, u175, u176, u177, u178, u179, u180, u181, u182, u183, u184, u185, u186, u187, u188, u189, u190, u191, u192, u193, u194, u195, u196, u197, u198, u199, u200, u201, u202, u203, u204, u205, u206, u207, u208, u209], ds⟩ w0 := by
  conv => arg 2; whnf
  have HQ := Lib.hid hQ
  clear hQ
  refine wp_seq_k fun K1 hK => ?_
  have HK1 := Lib.hid hK
  clear hK
  have HB := Lib.hid hS.ctx.below
  rcases hcase with rfl | ⟨rfl, rfl⟩ | ⟨rfl, rfl, hF⟩
  · have HS := Lib.hid hS
    have h5 := hS.ctx.b1.cells.2.2.2.2.2
    clear hS
    cases isb with
    | true =>
      go_wp2_with fail
      exact HQ.out _ _ _ _ _ _ _ _ _ _ _ _ _ _ _ _ _ _ _ _ _ _ _ _ _ _ _ _ _ _ _ _ _ _ _ _ _ _ _ _ _ _ _ _ _ _ _ _ _ _ _ _ _ _ _ _ _ _ _ _ _ _ _ _ _ _ _ _ _ _ _ _ _ _ _ _ _ _ _ _ _ _ _ _ _ _ _ _ _ _ _ _ _ _ _ _ _ _ _ _ _ _ _ _ _ _ _ _ _ _ _ _ _ _ _ _ _ _ _ _ _ _ _ _ _ _ _ _ _ _ _ _ _ _ _ _ _ _ _ _ _ _ _ _ _ _ _ _ _ _ _ _ _ _ _ _ _ _ _ _ _ _ _ _ _ _ _ _ _ _ _ _ _ _ _ _ _ _ _ _ _ _ _ _ _ _ _ _ _ _ _ _ _ _ _ _ _ _ _ _ _ _ _ _ _ _ _ _ _ _ HB.out
    | false =>
      go_wp2_with fail
      exact HQ.out _ _ _ _ _ _ _ _ _ _ _ _ _ _ _ _ _ _ _ _ _ _ _ _ _ _ _ _ _ _ _ _ _ _ _ _ _ _ _ _ _ _ _ _ _ _ _ _ _ _ _ _ _ _ _ _ _ _ _ _ _ _ _ _ _ _ _ _ _ _ _ _ _ _ _ _ _ _ _ _ _ _ _ _ _ _ _ _ _ _ _ _ _ _ _ _ _ _ _ _ _ _ _ _ _ _ _ _ _ _ _ _ _ _ _ _ _ _ _ _ _ _ _ _ _ _ _ _ _ _ _ _ _ _ _ _ _ _ _ _ _ _ _ _ _ _ _ _ _ _ _ _ _ _ _ _ _ _ _ _ _ _ _ _ _ _ _ _ _ _ _ _ _ _ _ _ _ _ _ _ _ _ _ _ _ _ _ _ _ _ _ _ _ _ _ _ _ _ _ _ _ _ _ _ _ _ _ _ _ _ HB.out
  · clear hS
    go_wp2_with fail
    exact HQ.out _ _ _ _ _ _ _ _ _ _ _ _ _ _ _ _ _ _ _ _ _ _ _ _ _ _ _ _ _ _ _ _ _ _ _ _ _ _ _ _ _ _ _ _ _ _ _ _ _ _ _ _ _ _ _ _ _ _ _ _ _ _ _ _ _ _ _ _ _ _ _ _ _ _ _ _ _ _ _ _ _ _ _ _ _ _ _ _ _ _ _ _ _ _ _ _ _ _ _ _ _ _ _ _ _ _ _ _ _ _ _ _ _ _ _ _ _ _ _ _ _ _ _ _ _ _ _ _ _ _ _ _ _ _ _ _ _ _ _ _ _ _ _ _ _ _ _ _ _ _ _ _ _ _ _ _ _ _ _ _ _ _ _ _ _ _ _ _ _ _ _ _ _ _ _ _ _ _ _ _ _ _ _ _ _ _ _ _ _ _ _ _ _ _ _ _ _ _ _ _ _ _ _ _ _ _ _ _ _ _ HB.out
  · have HS := Lib.hid (And.intro hS hF)
    clear hS hF HB
    go_wp2_with fail
    refine HK1.out _ _ ?_
    clear HK1
    exact bkA b gn gr gs gm r s n m Ab Ak Ab2 Ak2 cb ck cb2 ck2 w w0 HS.out.1 hr0 hb256 hrok hsok hn256 HS.out.2 HQ.out
end Go.Proofs.YtgjgcbemgmkncaaDoor
namespace Go.Proofs.YtgjgcbemgmkncaaDoor
open Go.RowKit Go.Shelf
set_option linter.unusedVariables false
set_option linter.unusedSimpArgs false

theorem add_cases {n : Nd} {f : Kids} {b : Nat} {r s : Int × Int} (hf : KidsOk f) (h2 : 2 ≤ cntK f) (hp : n.path.size ≤ 34) (hn : n = ofNd n f (kindK f)) (hb : b < 256) (hr : refOk r) (hs : refOk s) :
    ∃ y e, addN n b r false = (y, e) ∧ (e = 4 ∨ (e = 8 ∧ (findN n b).isSome = true) ∨ (e = 0 ∧ (findN n b).isSome = false ∧ BackF n y b r s)) := by
  have h1 := add_low2 r hb hf hp h2
  rw [← hn] at h1
  have h3 := find_low hf hp h2 b
  rw [← hn] at h3
  rw [h1, h3]
  cases hkr : kidN r with
  | false => exact ⟨_, _, rfl, .inl rfl⟩
  | true =>
    rw [if_neg (by simp)]
    cases hfb : f b with
    | some q => exact ⟨_, _, rfl, .inr (.inl ⟨rfl, rfl⟩)⟩
    | none =>
      refine ⟨_, _, rfl, .inr (.inr ⟨rfl, rfl, back_facts hf h2 hp hn hb hfb hkr hr hs ?_⟩)⟩
      have hc : cntK (setK f b (some r)) = cntK f + 1 := cnt_set_some r hb hfb
      have := cnt_256 (setK f b (some r))
      omega
set_option maxHeartbeats 12800000 in
set_option maxRecDepth 100000 in
theorem bk5 {u0 u2 u3 u5 u8 u9 u10 u11 u12 u13 u14 u15 u16 u17 u18 u19 u20 u21 u22 u23 u24 u25 u26 u27 u28 u29 u30 u31 u32 u33 u34 u35 u36 u37 u38 u39 u40 u41 u42 u43 u44 u45 u46 u47 u48 u49 u50 u51 u52 u53 u54 u55 u56 u57 u58 u59 u60 u61 u62 u63 u64 u65 u66 u67 u68 u69 u70 u71 u72 u73 u74 u75 u76 u77 u78 u79 u80 u81 u82 u83 u84 u85 u86 u87 u88 u89 u90 u91 u92 u93 u94 u95 u96 u97 u98 u99 u100 u101 u102 u103 u104 u105 u106 u107 u108 u109 u110 u111 u112 u113 u114 u115 u116 u117 u118 u119 u120 u121 u122 u123 u124 u125 u126 u127 u128 u129 u130 u131 u132 u133 u134 u135 u136 u137 u138 u139 u140 u141 u142 u143 u144 u145 u146 u147 u148 u149 u150 u151 u152 u153 u154 u155 u156 u157 u158 u159 u160 u161 u162 u163 u164 u165 u166 u167 u168 u169 u170 u171 u172 u173 u174 u175 u176 u177 u178 u179 u180 u181 u182 u183 u184 u185 u186 u187 u188 u189 u190 u191 u192 u193 u194 u195 u196 u197 u198 u199 u200 u201 u202 u203 u204 u205 u206 u207 u208 u209 : Value} {ds : List Deferred} {Q : Exit → Act → World → Prop} (b gn gr gs : Nat) (r s : Int × Int) (n : Nd) (f : Kids) (Ab Ak : Option Addr) (cb ck : Nat) (w w0 : World)
    (hS : BkW w [⟨gn, n, Ab, cb, Ak, ck⟩] [(gr, r), (gs, s)] w0) (hr0 : RoomsAt w) (hb256 : b < 256) (hrok : refOk r) (hsok : refOk s) (hf : KidsOk f) (h2 : 2 ≤ cntK f) (hp : n.path.size ≤ 34) (hn : n = ofNd n f (kindK f)) (hQ : BackRet w ds Q) :
    Code.wp Tryd.prog (part Tryd.f4 [1, 1, 1]) Q ⟨#[u0, .int .u8 (b : Int), u2, u3, .pointer (some ⟨gn, 0, none⟩), u5, .pointer (some ⟨gr, 0, none⟩), .pointer (some ⟨gs, 0, none⟩), u8, u9, u10, u11, u12, u13, u14, u15, u16, u17, u18, u19, u20, u21, u22, u23, u24, u25, u26, u27, u28, u29, u30, u31, u32, u33, u34, u35, u36, u37, u38, u39, u40, u41, u42, u43, u44, u45, u46, u47, u48, u49, u50, u51, u52, u53, u54, u55, u56, u57, u58, u59, u60, u61, u62, u63, u64, u65, u66, u67, u68, u69, u70, u71, u72, u73, u74, u75, u76, u77, u78, u79, u80, u81, u82, u83, u84, u85, u86, u87, u88, u89, u90, u91, u92, u93, u94, u95, u96, u97, u98, u99, u100, u101, u102, u103, u104, u105, u106, u107, u108, u109, u110, u111, u112, u113, u114, u115, u116, u117, u118, u119, u120, u121, u122, u123, u124, u125, u126, u127, u128, u129, u130, u131, u132, u133, u134, u135, u136, u137, u138, u139, u140, u141, u142, u143, u144, u145, u146, u147, u148, u149, u150, u151, u152, u153, u154, u155, u156, u157, u158, u159, u160, u161, u162, u163, u164, u165, u166, u167, u168, u169, u170, u171, u172, u173, u174, u175, u176, u177, u178, u179, u180, u181, u182, u183, u184, u185, u186, u187, u188, u189, u190, u191, u192, u193, u194, u195, u196, u197, u198, u199, u200, u201, u202, u203, u204, u205, u206, u207, u208, u209], ds⟩ w0 := by
  conv => arg 2; whnf
  have HQ := Lib.hid hQ
  clear hQ
  obtain ⟨y, e, hadd, hcase⟩ := add_cases hf h2 hp hn hb256 hrok hsok (s := s) (r := r)
  have HX := Lib.hid (And.intro hadd hcase)
  have HS := Lib.hid hS
  have hfi := Find_n n _ b w0 hS.ctx.b0.node hS.ctx.rooms hb256
  clear hadd hcase hf h2 hp hn hS
  generalize hfb : findN n b = o at hfi
  have HFB := Lib.hid hfb
  have HF := Lib.hid hfi
  obtain ⟨e0, e1, e2, e3, e4, e5⟩ := HS.out.ctx.b0.cells
  clear hfi hfb
  unfold Nd.v optV refV at HF
  refine wp_seq_k fun K1 hK => ?_
  have HK1 := Lib.hid hK
  clear hK
  go_wp2_with fail
  refine HF.out.mono ?_
  rintro e w1 ⟨rfl, hb⟩
  have S1 := Lib.hid ((HS.out.on hb).newR (o.getD (0, 0))).dropR
  clear hb HS HF e0 e1 e2 e3 e4 e5
  go_wp2_with fail
  refine HK1.out _ _ ?_
  clear HK1
  generalize w1.alloc _ = w2 at S1 ⊢
  refine wp_seq_k fun K2 hK => ?_
  have HK2 := Lib.hid hK
  clear hK
  obtain ⟨e0, e1, e2, e3, e4, e5⟩ := S1.out.ctx.b0.cells
  obtain ⟨f0, f1⟩ := S1.out.r0.cells
  have hf := Add_n n _ b r false _ S1.out.ctx.b0.node S1.out.ctx.rooms hb256 hrok
  rw [HX.out.1] at hf
  have HF := Lib.hid hf
  clear hf
  unfold Nd.v refV at HF
  go_wp2_with fail
  refine HF.out.mono ?_
  rintro e w3 ⟨V', rfl, hnd, hb, hrw⟩
  obtain ⟨A4, c4, A5, c5, rfl, hnd⟩ := open_nd hnd
  have S2 := Lib.hid ((S1.out.on hb).new hnd)
  clear hb hrw hnd HF S1 e0 e1 e2 e3 e4 e5 f0 f1
  unfold Nd.v
  go_wp2_with fail
  refine HK2.out _ _ ?_
  clear HK2
  unfold Nd.c at S2
  generalize w3.alloc _ = w4 at S2 ⊢
  exact bk7 b gn gr gs _ r s n y Ab Ak _ _ cb ck _ _ w w4 _ _ S2.out hr0 hb256 hrok hsok S2.out.ctx.b1.node.1.bytes (by rw [← HFB.out]; exact HX.out.2) HQ.out
end Go.Proofs.YtgjgcbemgmkncaaDoor
namespace Go.Proofs.YtgjgcbemgmkncaaDoor
open Go.RowKit Go.Shelf
set_option linter.unusedVariables false
set_option linter.unusedSimpArgs false

theorem right_kids {x : Nd} (hx : x.wf) (h : x.rightN = true) (hk : ¬ (x.kind = 1)) : ∃ f, KidsOk f ∧ 2 ≤ cntK f ∧ x.path.size ≤ 34 ∧ x = ofNd x f (kindK f) := by
  unfold Nd.rightN at h
  have h2 : x.isLeafN = false := by
    unfold Nd.isLeafN Nd.leafN
    simp [hk]
  rw [h2, Bool.false_or] at h
  exact right_norm hx h
set_option maxHeartbeats 12800000 in
set_option maxRecDepth 100000 in
theorem back_walk (n : Nd) (Ab Ak : Option Addr) (cb ck b : Nat) (r s : Int × Int) (w : World) (hr0 : RoomsAt w) (hnd : NdAt w n (n.v Ab cb Ak ck)) (hb256 : b < 256) (hrok : refOk r) (hsok : refOk s) :
    LawCalls Tryd.prog 4 w #[n.v Ab cb Ak ck, .int .u8 (b : Int), refV r, refV s] := by
  unfold LawCalls
  have HR := Lib.hid hr0
  have HAW : Hid (∀ W, RoomsAt W → Calls Tryd.prog 5 #[] W (BoolEnd true W)) := Lib.hid fun W h => awake_n W h
  have s1 : BkW w [] [] w := ⟨Ctx.start hr0, fun p h => by cases h⟩
  have s2 := ((s1.new hnd).newR r).newR s
  simp only [World.size_alloc] at s2
  have HS : Hid (BkW w [⟨w.heap.size, n, Ab, cb, Ak, ck⟩] [(w.heap.size + 1, r), (w.heap.size + 1 + 1, s)] (((w.alloc (.cells (n.c Ab cb Ak ck) 27)).alloc (.cells #[.int .i64 r.1, .int .u32 r.2] 35)).alloc (.cells #[.int .i64 s.1, .int .u32 s.2] 35))) := Lib.hid ⟨s2.ctx, fun p hm => s2.ref p (by simp only [List.mem_cons] at hm ⊢; exact hm.elim (fun e => .inr (.inl e)) fun e => e.elim (fun e => .inl e) fun e => .inr (.inr e))⟩
  have hlc := hnd.1.lc
  have hwf := Lib.hid hnd.1
  clear s1 s2 hr0 hnd
  unfold Nd.c at HS
  unfold Nd.v refV
  go_enter Tryd.func4, Tryd.ntmps4
  refine wp_seq_k fun K2 hK => ?_
  have HK2 := Lib.hid hK
  clear hK
  go_wp2_with fail
  refine HK2.out _ _ ?_
  clear HK2
  generalize ((w.alloc _).alloc _).alloc _ = w0 at HS ⊢
  refine wp_seq_k fun K3 hK => ?_
  have HK3 := Lib.hid hK
  clear hK
  go_wp2_with fail
  refine (HAW.out _ HS.out.ctx.rooms).mono ?_
  rintro e w1 ⟨rfl, hb⟩
  have S1 := Lib.hid (HS.out.on hb)
  clear hb HS HAW
  go_wp2_with fail
  refine HK3.out _ _ ?_
  clear HK3
  refine wp_seq_k fun K1 hK => ?_
  have HK1 := Lib.hid hK
  clear hK
  obtain ⟨e0, e1, e2, e3, e4, e5⟩ := S1.out.ctx.b0.cells
  have hgr := great_n n _ w1 S1.out.ctx.b0.node
  unfold Nd.v at hgr
  cases hg : greatN n with
  | true =>
    rw [hg] at hgr
    have HG := Lib.hid hgr
    clear hgr hg
    go_wp2_with fail
    refine HG.out.mono ?_
    rintro e w2 ⟨rfl, hb⟩
    have HB := Lib.hid (S1.out.on hb).ctx.below
    clear hb S1 HG e0 e1 e2 e3 e4 e5
    go_wp2_with fail
    go_ret
    exact ⟨rfl, HB.out⟩
  | false =>
    rw [hg] at hgr
    have HG := Lib.hid hgr
    clear hgr hg
    go_wp2_with fail
    refine HG.out.mono ?_
    rintro e w2 ⟨rfl, hb⟩
    have S2 := Lib.hid (S1.out.on hb)
    clear hb S1 HG e0 e1 e2 e3 e4 e5
    obtain ⟨e0, e1, e2, e3, e4, e5⟩ := S2.out.ctx.b0.cells
    have hgr := Right_n n _ w2 S2.out.ctx.b0.node S2.out.ctx.rooms hlc
    unfold Nd.v at hgr
    cases hg : n.rightN with
    | false =>
      rw [hg] at hgr
      have HG := Lib.hid hgr
      clear hgr hg
      go_wp2_with fail
      refine HG.out.mono ?_
      rintro e w3 ⟨rfl, hb⟩
      have HB := Lib.hid (S2.out.on hb).ctx.below
      clear hb S2 HG e0 e1 e2 e3 e4 e5
      go_wp2_with fail
      go_ret
      exact ⟨rfl, HB.out⟩
    | true =>
      rw [hg] at hgr
      have HG := Lib.hid hgr
      have HRI := Lib.hid hg
      clear hgr hg
      go_wp2_with fail
      refine HG.out.mono ?_
      rintro e w3 ⟨rfl, hb⟩
      have S3 := Lib.hid (S2.out.on hb)
      clear hb S2 HG e0 e1 e2 e3 e4 e5
      obtain ⟨e0, e1, e2, e3, e4, e5⟩ := S3.out.ctx.b0.cells
      by_cases hk : n.kind = 1
      · have HB := Lib.hid S3.out.ctx.below
        clear S3
        go_wp2_with fail
        go_ret
        exact ⟨rfl, HB.out⟩
      · obtain ⟨f, hf, h2, hp, hn⟩ := right_kids hwf.out HRI.out hk
        have HF := Lib.hid (And.intro hf (And.intro h2 (And.intro hp hn)))
        clear hf h2 hp hn
        go_wp2_with fail
        refine HK1.out _ _ ?_
        clear HK1
        refine bk5 b _ _ _ r s n f Ab Ak cb ck w w3 S3.out HR.out hb256 hrok hsok HF.out.1 HF.out.2.1 HF.out.2.2.1 HF.out.2.2.2 ?_
        unfold BackRet
        intro _ _ _ _ _ _ _ _ _ _ _ _ _ _ _ _ _ _ _ _ _ _ _ _ _ _ _ _ _ _ _ _ _ _ _ _ _ _ _ _ _ _ _ _ _ _ _ _ _ _ _ _ _ _ _ _ _ _ _ _ _ _ _ _ _ _ _ _ _ _ _ _ _ _ _ _ _ _ _ _ _ _ _ _ _ _ _ _ _ _ _ _ _ _ _ _ _ _ _ _ _ _ _ _ _ _ _ _ _ _ _ _ _ _ _ _ _ _ _ _ _ _ _ _ _ _ _ _ _ _ _ _ _ _ _ _ _ _ _ _ _ _ _ _ _ _ _ _ _ _ _ _ _ _ _ _ _ _ _ _ _ _ _ _ _ _ _ _ _ _ _ _ _ _ _ _ _ _ _ _ _ _ _ _ _ _ _ _ _ _ _ _ _ _ _ _ _ _ _ _ _ _ _ _ _ _ _ _ _ W hb
        go_ret
        exact ⟨rfl, hb⟩
end Go.Proofs.YtgjgcbemgmkncaaDoor
