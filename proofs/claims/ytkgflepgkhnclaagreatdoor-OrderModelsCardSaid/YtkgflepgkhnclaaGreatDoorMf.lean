/- Walks: burgagelaw27.Made. Layer 27: OrderTenants' plain law: what a request does to the tenants; generations, handles, limits. Layer 27: OrderTenants' plain law: a request's step. Layer 27: OrderTenants' state in memory. Layer 27: OrderTenants: the search for a good handle. Layer 27: OrderTenants: the head of a round. Layer 27: OrderTenants: a good handle is kept. Layer 27: OrderTenants: the request is done. -/
import Derived.Test.YtkgflepgkhnclaaGreatDoorMe
namespace Go.Proofs.YtkgflepgkhnclaaGreatDoor
set_option linter.unusedVariables false
set_option linter.unusedSimpArgs false
open Go.RowKit
def MadeOk (es:List Ent):Prop:=∀ x ∈ es,(0 ≤ x.ses∧x.ses ≤ 3)∧SmallR x.r
def MadeEnd (n:Nat) (w:World) (e:Ending) (w':World):Prop :=
 ∃ (es:List Ent) (v:Value),e=.returned v∧w'.ownsRow w.heap.size 41 13 v es.length (es.flatMap Ent.row)∧Below w.heap.size w w'∧MadeOk es∧es.length=2 + min n 20
def made2:List Ent:=[⟨0,⟨7,0,0,0,⟨#[]⟩,⟨#[]⟩,⟨#[]⟩,0,1,4,24,0⟩⟩,⟨0,⟨7,0,0,0,⟨#[]⟩,⟨#[]⟩,⟨#[]⟩,0,2,9,90,0⟩⟩]
theorem putB_fx (B:Bk) (k v:ByteArray):(putB B k v).2.qk=B.qk∧(putB B k v).2.qb=B.qb∧((putB B k v).1 ≠ 0→(putB B k v).2=B):=by
 unfold putB
 split
 · exact ⟨rfl,rfl,fun _=>rfl⟩
 · split
   · exact ⟨rfl,rfl,fun _=>rfl⟩
   · exact ⟨rfl,rfl,fun h=>absurd rfl h⟩
theorem delB_fx (B:Bk) (k:ByteArray):(delB B k).2.qk=B.qk∧(delB B k).2.qb=B.qb∧((delB B k).1 ≠ 0→(delB B k).2=B):=by
 unfold delB
 split
 · exact ⟨rfl,rfl,fun h=>absurd rfl h⟩
 · exact ⟨rfl,rfl,fun _=>rfl⟩
theorem swapB_fx (B:Bk) (k o v:ByteArray):(swapB B k o v).2.qk=B.qk∧(swapB B k o v).2.qb=B.qb∧((swapB B k o v).1 ≠ 0→(swapB B k o v).2=B):=by
 unfold swapB
 split
 · split
   · exact putB_fx B k v
   · exact ⟨rfl,rfl,fun _=>rfl⟩
 · exact ⟨rfl,rfl,fun _=>rfl⟩
def DoFx (M:Mdl) (r:Req) (R:Mdl × Ans):Prop :=
 (R.1=M∧(R.2.err=0→r.deed ≠ 7∧r.deed ≠ 8∧r.deed ≠ 10)) ∨
 (∃ n:Nat,1 ≤ n∧n ≤ 16∧r.tenant=n∧r.deed=7∧R.2.err=0∧(M n).bk=none∧R.1=updM M n (newT (M n).gen r)) ∨
 (∃ n:Nat,1 ≤ n∧n ≤ 16∧r.tenant=n∧r.deed=8∧R.2.err=0∧R.1=updM M n { ten0 with gen:=(M n).gen }) ∨
 (∃ n:Nat,1 ≤ n∧n ≤ 16∧r.tenant=n∧r.deed=10∧R.2.err=0∧R.1=updM M n { M n with gen:=IntKind.u32.wrap ((M n).gen + 1) }) ∨
 (∃ (n:Nat) (B B':Bk),2 ≤ r.deed∧r.deed ≤ 4∧1 ≤ n∧n ≤ 16∧(M n).bk=some B∧B'.qk=B.qk∧B'.qb=B.qb∧(R.2.err ≠ 0→B'=B)∧R.1=updM M n { M n with bk:=some B' })
theorem operateN_fx (M:Mdl) (r:Req) (h1:1 ≤ r.deed) (h5:r.deed ≤ 5):DoFx M r (operateN M r):=by
 have hA:∀ a,DoFx M r (M,a):=fun a=>.inl ⟨rfl,fun _=>⟨by omega,by omega,by omega⟩⟩
 unfold operateN
 split
 · exact hA _
 · split
   · rename_i h0
     obtain ⟨n,B,hn,hn1,hn2,hbk⟩:=may_good h0
     have hn':r.ten.toNat=n:=by omega
     rw [hn',hbk]
     dsimp only
     split
     · exact hA _
     · split
       · obtain ⟨a,b,c⟩:=putB_fx B r.key r.val
         exact .inr (.inr (.inr (.inr ⟨n,B,_,by omega,by omega,hn1,hn2,hbk,a,b,c,rfl⟩)))
       · split
         · obtain ⟨a,b,c⟩:=delB_fx B r.key
           exact .inr (.inr (.inr (.inr ⟨n,B,_,by omega,by omega,hn1,hn2,hbk,a,b,c,rfl⟩)))
         · split
           · obtain ⟨a,b,c⟩:=swapB_fx B r.key r.old r.val
             exact .inr (.inr (.inr (.inr ⟨n,B,_,by omega,by omega,hn1,hn2,hbk,a,b,c,rfl⟩)))
           · exact hA _
   · exact hA _
theorem thereM_ok {M:Mdl} {r:Req} (h:(thereM 0 M r).2=0):∃ n:Nat,1 ≤ n∧n ≤ 16∧r.tenant=n:=by
 unfold thereM at h
 split at h
 · cases h
 · rename_i h1
   rw [not_or,Decidable.not_not] at h1
   exact ⟨r.tenant.toNat,by omega,by omega,by omega⟩
theorem doN_fx (M:Mdl) (r:Req):DoFx M r (doN M r):=by
 unfold doN
 split
 · rename_i h
   exact operateN_fx M r h.1 h.2
 split
 · rename_i h
   refine .inl ⟨?_,fun _=>⟨by omega,by omega,by omega⟩⟩
   unfold tellN
   split
   · split <;> rfl
   · rfl
 split
 · rename_i h
   unfold createN
   split
   · exact .inl ⟨rfl,fun h=>by cases h⟩
   · rename_i h1
     rw [Decidable.not_not] at h1
     split
     · exact .inl ⟨rfl,fun h=>by cases h⟩
     · rename_i h2
       refine .inr (.inl ⟨r.tenant.toNat,by omega,by omega,by omega,h,rfl,?_,rfl⟩)
       cases hb:(M r.tenant.toNat).bk with
       | none=>rfl
       | some B=>rw [hb] at h2;exact absurd rfl h2
 split
 · rename_i h
   unfold removeN
   split
   · rename_i h1
     obtain ⟨n,a,b,c⟩:=thereM_ok h1
     have hn':r.tenant.toNat=n:=by omega
     rw [hn']
     exact .inr (.inr (.inl ⟨n,a,b,c,h,rfl,rfl⟩))
   · rename_i h1
     exact .inl ⟨rfl,fun e=>absurd e h1⟩
 split
 · rename_i h
   unfold issueN
   split
   · exact .inl ⟨rfl,fun _=>⟨by omega,by omega,by omega⟩⟩
   · exact .inl ⟨rfl,fun _=>⟨by omega,by omega,by omega⟩⟩
 split
 · rename_i h
   unfold revokeN
   split
   · rename_i h1
     obtain ⟨n,a,b,c⟩:=thereM_ok h1
     have hn':r.tenant.toNat=n:=by omega
     rw [hn']
     exact .inr (.inr (.inr (.inl ⟨n,a,b,c,h,rfl,rfl⟩)))
   · rename_i h1
     exact .inl ⟨rfl,fun e=>absurd e h1⟩
 · rename_i h1 h6 h7 h8 h9 h10
   exact .inl ⟨rfl,fun _=>⟨h7,h8,h10⟩⟩
structure Tn where
 M:Mdl
 o:Nat→List Hd
 d:List Hd
 lk:Nat→Int
 lb:Nat→Int
def findG (M:Mdl) (t:Int):Nat→Int→Int
 | 0,g=>g
 | k + 1,g=>if goodN M ⟨t,g,1⟩ then g else findG M t k (g + 1)
def tenH (S:Tn):Nat:=1 + (pairsN S.M 1).length % 2
def hOf (S:Tn):Hd:=⟨(tenH S:Int),findG S.M (tenH S:Int) 29 1,1⟩
def updF {α:Type} (f:Nat→α) (n:Nat) (x:α):Nat→α:=fun i=>if i=n then x else f i
def oldN (S:Tn):Nat→List Hd :=
 if goodN S.M (hOf S) && !((S.o (tenH S)).any (fun x=>decide (hOf S=x))) then updF S.o (tenH S) (S.o (tenH S) ++ [hOf S]) else S.o
def lkN (S:Tn) (r:Req):Nat→Int:=if (doN S.M r).2.err=0∧r.deed=7 then updF S.lk r.tenant.toNat r.qk else S.lk
def lbN (S:Tn) (r:Req):Nat→Int:=if (doN S.M r).2.err=0∧r.deed=7 then updF S.lb r.tenant.toNat r.qb else S.lb
def deadN (S:Tn) (r:Req):List Hd:=if (doN S.M r).2.err=0∧(r.deed=10 ∨ r.deed=8) then S.d ++ oldN S r.tenant.toNat else S.d
def tnStep (S:Tn) (r:Req):Tn:=⟨(doN S.M r).1,oldN S,deadN S r,lkN S r,lbN S r⟩
structure TnInv (j:Nat) (S:Tn):Prop where
 gen:∀ t,0 ≤ (S.M t).gen∧(S.M t).gen ≤ j
 quota:∀ t B,(S.M t).bk=some B→B.qk ≤ 9
 lim:∀ t B,t < 3→(S.M t).bk=some B→B.qk=S.lk t∧B.qb=S.lb t
 lim0:∀ t,0 ≤ S.lk t∧S.lk t ≤ 90∧0 ≤ S.lb t∧S.lb t ≤ 90
 old:∀ t h,h ∈ S.o t→h.t=t∧t < 17∧0 ≤ h.g∧h.g ≤ (S.M t).gen∧0 ≤ h.r∧h.r ≤ 7
 oldLen:∀ t,(S.o t).length ≤ j
 dead:∀ h ∈ S.d,∃ t:Nat,h.t=t∧(h.g < (S.M t).gen ∨ (S.M t).bk=none∧h.g ≤ (S.M t).gen)
 deadLen:S.d.length ≤ j * j
 far:∀ t,17 ≤ t→(S.M t).bk=none
theorem good_gen {M:Mdl} {h:Hd} (hg:goodN M h=true):∃ t:Nat,h.t=t∧1 ≤ t∧t ≤ 16∧(M t).bk.isSome=true∧(M t).gen=h.g∧1 ≤ h.g:=by
 unfold goodN Hd.right Hd.tN Hd.gN at hg
 simp only [Bool.and_eq_true] at hg
 obtain ⟨⟨⟨⟨h2,h3⟩,h6⟩,-⟩,h4,h5⟩:=hg
 have h2:=of_decide_eq_true h2
 have h3:=of_decide_eq_true h3
 have h5:=of_decide_eq_true h5
 have h6:=of_decide_eq_true h6
 exact ⟨h.t.toNat,by omega,by omega,by omega,h4,h5,h6⟩
def tn0:Tn:=⟨mdl0,fun _=>[],[],fun _=>0,fun _=>0⟩
end Go.Proofs.YtkgflepgkhnclaaGreatDoor
namespace Go.Proofs.YtkgflepgkhnclaaGreatDoor
set_option linter.unusedVariables false
set_option linter.unusedSimpArgs false
open Go.RowKit Go.Shelf
theorem own_same {W W':World} {base size n:Nat} {e:TypeId} {v:Value} {xs:List Value} (h:W.ownsRow base e size v n xs) (hb:∀ g,v.ownBlock=some g→W'.heap[g]?=W.heap[g]?):W'.ownsRow base e size v n xs:=by
 refine ⟨h.1,?_⟩
 rcases h.2 with h0 | ⟨g',cap,cur,hv,hb',hh,rest⟩
 · exact Or.inl h0
 · exact Or.inr ⟨g',cap,cur,hv,hb',(hb g' (by rw [hv];rfl)).trans hh,rest⟩
theorem own_at {W:World} {base size n g:Nat} {e:TypeId} {v:Value} {xs:List Value} (h:W.ownsRow base e size v n xs) (hg:v.ownBlock=some g):base ≤ g∧g < W.heap.size∧∃ cs,Blk W g e cs:=by
 rcases h.2 with ⟨rfl,_⟩ | ⟨g',cap,cur,rfl,hb,hh,_⟩
 · cases hg
 · simp only [Value.ownBlock,Option.some.injEq] at hg
   subst hg
   exact ⟨hb,(Array.getElem?_eq_some_iff.1 hh).1,cur,hh⟩
def RowsApart (a b:Value):Prop:=∀ g,a.ownBlock=some g→b.ownBlock ≠ some g
def TnT (t:TypeId):Prop:=t=26 ∨ t=30 ∨ t=37 ∨ t=41 ∨ t=39 ∨ t=44 ∨ t=57 ∨ t=52
structure KeepsN (W W':World):Prop where
 size:W.heap.size ≤ W'.heap.size
 same:∀ i t cs,Blk W i t cs→TnT t→W'.heap[i]?=W.heap[i]?
theorem ModelAt.far {W:World} {p:Nat} {M:Mdl} {T:Ows} (h:ModelAt W p M T) {i:Nat} {t:TypeId} {cs:Array Value} (hb:Blk W i t cs) (ht:TnT t):¬ mown p M T i:=fun hi=>by
 rcases ht with rfl | rfl | rfl | rfl | rfl | rfl | rfl | rfl
 all_goals exact h.other hi hb (by decide) (by decide) (by decide)
structure TnAt (w0 W:World) (p b4 b6:Nat) (S:Tn) (T:Ows) (v:Nat→Value) (vd ve:Value) (es:List Ent):Prop where
 mdl:ModelAt W p S.M T
 own:∀ i,mown p S.M T i→w0.heap.size ≤ i
 old:Blk W b4 26 #[v 0,v 1,v 2]
 lim:Blk W b6 30 #[.int .u64 (S.lk 0),.int .u64 (S.lb 0),.int .u64 (S.lk 1),.int .u64 (S.lb 1),.int .u64 (S.lk 2),.int .u64 (S.lb 2)]
 ge:w0.heap.size ≤ b4∧w0.heap.size ≤ b6
 rows:∀ i,i < 3→W.ownsRow w0.heap.size 37 3 (v i) (S.o i).length ((S.o i).flatMap hdR)
 row_d:W.ownsRow w0.heap.size 37 3 vd S.d.length (S.d.flatMap hdR)
 ent:W.ownsRow w0.heap.size 41 13 ve es.length (es.flatMap Ent.row)
 apart:∀ i j,i < 3→j < 3→i ≠ j→RowsApart (v i) (v j)
 apart_d:∀ i,i < 3→RowsApart (v i) vd
 bel:Below w0.heap.size w0 W
section
variable {w0 W W':World} {p b4 b6:Nat} {S:Tn} {T T':Ows} {v:Nat→Value} {vd ve:Value} {es:List Ent}
end
abbrev hdA (t g:Int):Array Value:=#[.int .i64 t,.int .u32 g,.int .u8 1]
def leftG (b:Nat) (w:World):Nat:=match w.cell? ⟨b,1,none⟩ with | some (.int _ g)=>(30 - g).toNat | _=>0
structure TnIn (w0 W:World) (p b4 b6 b9 b10:Nat) (S:Tn) (T:Ows) (v:Nat→Value) (vd ve:Value) (es:List Ent) (r:Req) (l1 l2:List Kv) (A1 A2:Option Addr) (c1 c2:Nat):Prop where
 at_:TnAt w0 W p b4 b6 S T v vd ve es
 req:Blk W b9 39 r.row.toArray
 prs:Blk W b10 44 #[.slice none 0 0,.slice A1 l1.length c1,.slice A2 l2.length c2]
 pr1:W.ownsRow w0.heap.size 57 2 (.slice A1 l1.length c1) l1.length (l1.flatMap pairR)
 pr2:W.ownsRow w0.heap.size 57 2 (.slice A2 l2.length c2) l2.length (l2.flatMap pairR)
section
variable {w0 W W':World} {p b4 b6 b9 b10:Nat} {S:Tn} {T:Ows} {v:Nat→Value} {vd ve:Value} {es:List Ent} {r:Req} {l1 l2:List Kv} {A1 A2:Option Addr} {c1 c2:Nat}
end
def TnH (w0:World) (p b4 b6 b9 b10 b11 n:Nat) (g:Int) (S:Tn) (T:Ows) (v:Nat→Value) (vd ve:Value) (es:List Ent) (r:Req) (l1 l2:List Kv) (A1 A2:Option Addr) (c1 c2:Nat) (V:World):Prop :=
 TnIn w0 V p b4 b6 b9 b10 S T v vd ve es r l1 l2 A1 A2 c1 c2∧Blk V b11 37 (hdA n g)
end Go.Proofs.YtkgflepgkhnclaaGreatDoor
namespace Go.Proofs.YtkgflepgkhnclaaGreatDoor
set_option linter.unusedVariables false
set_option linter.unusedSimpArgs false
open Go.RowKit Go.Shelf
attribute [local go_sem] run_store_complex
end Go.Proofs.YtkgflepgkhnclaaGreatDoor
