/-
  A region that draws its order and only reads, walked once, in the round of a range over a function. Over any program.
-/
import Derived.Test.YtmcpfhhggapkcaaFewOA
import Derived.Sort.BigQuietIn
namespace Go.Proofs.Ytmcpfhhggapkcaa
open Go.RowKit Go.Shelf
set_option linter.unusedVariables false

section
variable {F : Fence} {n : Nat} {P : Program} {ops : Array Oper} {Q : Exit → Act → World → Prop} {md : Region.Mode}
theorem oper_inRound {o : Oper} {a : Act} {w : World} {K : Act → World → Prop} (l : Nat) (h : ∀ c, o.op ≠ .defer c) (hh : o.wpIn F n P a w K Q) : o.wpIn (F.inRound l) n P a w K Q := by
  unfold Oper.wpIn at *
  rw [Oper.semAt_plain F _ _ h] at hh
  rw [Oper.semAt_plain (F.inRound l) _ _ h]
  exact hh
theorem wpOp_inRound {i : Nat} {a : Act} {w : World} {K : Act → World → Prop} (l : Nat) (h : ∀ o, ops[i]? = some o → ∀ c, o.op ≠ .defer c) (hh : wpOpIn F n P ops Q i K a w) : wpOpIn (F.inRound l) n P ops Q i K a w := by
  unfold wpOpIn at *
  cases ho : ops[i]? with
  | none => simpa [ho] using hh
  | some o =>
    simp only [ho] at hh ⊢
    split
    · rename_i hw; simp only [hw, if_true] at hh; exact oper_inRound l (h o ho) hh
    · rename_i hw; simp only [hw] at hh; exact hh
theorem wpAny_inRound (l : Nat) (h : ∀ (i : Nat) (o : Oper), ops[i]? = some o → ∀ c, o.op ≠ .defer c) : ∀ (fuel : Nat) (listed : Array Bool) (a : Act) (w : World), wpAnyIn F n P md ops Q fuel listed a w → wpAnyIn (F.inRound l) n P md ops Q fuel listed a w
  | 0, _, _, _, hh => hh
  | fuel + 1, _, _, _, hh => ⟨hh.1, fun i hi => wpOpIn_mono (fun a w hK => wpAny_inRound l h fuel _ a w hK) (wpOp_inRound l (h i) (hh.2 i hi))⟩
theorem wpIn_region_quiet_round {id : Nat} {a : Act} {w : World} {ops : List Oper} (l : Nat) (hro : F.round = none) (hm : P.follows .mixedOrders = true) (hB : Region.lexB .any ops.toArray = true) (hd : ops.all (fun o => match o.op with | .defer _ => false | _ => true) = true)
    (h : wpQuietIn F n P ops.toArray (fun w' => ∃ n, w' = w.drewN n) (fun a' => ∀ w', (∃ n, w' = w.drewN n) → Q .normal a' w') ops a) : (Code.region id ops.toArray true).wpIn (F.inRound l) n P Q a w := by
  have hd2 : ∀ (i : Nat) (o : Oper), ops.toArray[i]? = some o → ∀ c, o.op ≠ .defer c := by
    intro i o ho c hc
    have hm := List.mem_of_getElem? (show ops[i]? = some o by simpa using ho)
    have := List.all_eq_true.1 hd o hm
    rw [hc] at this
    cases this
  have hB' := hB
  simp only [Region.lexB, Bool.and_eq_true] at hB'
  refine wpIn_region_any hm (wpAny_inRound l hd2 _ _ _ _ ?_)
  refine wpAnyIn_of_quiet (C := fun w' => ∃ n, w' = w.drewN n) (Q := fun a' => ∀ w', (∃ n, w' = w.drewN n) → Q .normal a' w') hro (fun _ w' hw' h => h w' hw') _ _ _ _ ⟨1, rfl⟩ ?_
  have := wpAnyQIn_lex (F := F) (n := n) (C := fun w' => ∃ n, w' = w.drewN n) (md := .any) hB'.1 ops 0 (Array.replicate ops.toArray.size false) a (by simp) (by simpa using hB'.2) h
  simpa using this
end
end Go.Proofs.Ytmcpfhhggapkcaa
