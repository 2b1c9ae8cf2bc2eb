/- General lemmas, over any program: from 'the call returns true and changes nothing that was there' to the statement of a law; arguments that are read as flat rows of integers, bools and strings; slices of such rows. No conditions of their own. Maps with integer keys that the code makes and asks: inserts of new keys, lookups. Over any program. Layer 27: what a book and a model are in memory; which blocks a call may write (over any program of this seat). Layer 27: a map with string keys: looked up, stored into, an entry deleted (over any program). Layer 27: book: none, size, short, may. Layer 27: contracts of the library, laid at this program (slices of strings: BinarySearch, Insert, Delete, Clone; maps.Clone). Layer 27: strings in order; a book's pairs by rising keys (no program in sight). Layer 27: the sorted row of a book's keys: find, add, drop. Layer 27: the sorted row of a book's keys: slices.Delete; add, drop. -/
import Derived.Test.YtkgflepgkhnclaaGreatDoorRows
import Derived.WalkKit
import Derived.ProofKit
import Derived.WalkSpells
import Derived.WalkLawsBesides
import Derived.Below
import Derived.Deep.Slices
import Derived.Deep.Draws
import Derived.Deep.AppendLies
import Derived.Laws.OwnMore
import Derived.SizedLaws
import Derived.BigQuiet
import Derived.Deep.QuietTactic
import Derived.Lib.Hide
import Derived.IntWalk
import Derived.Deep.RegionWith
import Derived.Deep.RegionHeld3
import Derived.Deep.RegionLaw
import Derived.Deep.DeepCutAuto
import Derived.Deep.DeepFit
import Derived.BigRegion
import Derived.StillTailTactics
import Derived.Outline
import Derived.Carry
import Derived.MapKept
import Derived.ChangeMaps5
import Derived.Shelf.Spec.SearchS
import Derived.Shelf.Spec.SlicesInsert
import Derived.Shelf.SlGeneric
import Derived.Shelf.Slices.Cells
import Derived.Shelf.Slices.Clone
import Derived.Shelf.Slices.Empties
import Derived.Shelf.SlMaps.Clone
import Derived.Shelf.Spec.SlicesInsertGrow
import Derived.Lib.SlicesS
import Derived.OrdersHeld
namespace Go.Proofs.YtkgflepgkhnclaaGreatDoor
theorem zA {α : Type _} {xs : List α} {i : Nat} (h : i < xs.toArray.size) : xs.toArray[i] = xs[i]'h := rfl
theorem zB {α : Type _} (a : α) (l : List α) (i : Nat) (h : i + 1 < (a :: l).length) : (a :: l)[i + 1] = l[i]'(Nat.lt_of_succ_lt_succ h) := rfl
theorem zC {α : Type _} (a : α) (l : List α) (h : 0 < (a :: l).length) : (a :: l)[0] = a := rfl
theorem zD {α : Type _} (l : List α) (i : Nat) (a : α) : l.toArray.setIfInBounds i a = (l.set i a).toArray := List.setIfInBounds_toArray l i a
theorem zE {α : Type _} {x : α} {xs : List α} {a : α} : (x :: xs).set 0 a = a :: xs := rfl
theorem zF {α : Type _} {x : α} {xs : List α} {i : Nat} {a : α} : (x :: xs).set (i + 1) a = x :: xs.set i a := rfl
theorem tk {P : Program} {ops : Array Oper} {Q : Exit → Act → World → Prop} {md : Region.Mode} {S : World → Prop} {i : Nat} {oi : Oper} {v : Value} {fuel : Nat} {listed : Array Bool} {a : Act} {w : World} (hi : ops[i]? = some oi)
    (hy : YieldsIf P ops S oi v a) (hS : S w) (h : wpAnyH P md ops Q S fuel (listed.setIfInBounds i true) (a.put oi.dst v) w)
    (hs : Region.noSelect ops = true := by kernel_rfl) (hf : Region.free md ops listed i = true := by kernel_rfl) (hr : (Region.ready md ops listed).contains i = true := by kernel_rfl)
    (hQ : ∀ c a w, Q (.panic c) (a.put oi.dst v) w → Q (.panic c) a w := by exact fun _ _ _ h => h) : wpAnyH P md ops Q S (fuel + 1) listed a w := wpAnyH_take hi hs hf hr hQ hy hS h
end Go.Proofs.YtkgflepgkhnclaaGreatDoor
namespace Go.Proofs.YtkgflepgkhnclaaGreatDoor
set_option linter.unusedVariables false
set_option linter.unusedSimpArgs false
open Go.ChangeShapes Go.WideShapes Go.ChangeAt Go.RowKit
section
variable {H:Type} {enc:TypeId × Value→H} {P:Program}
theorem trodAll_below (hl:laidOutB P=true) {W W':World} (hb:Below W.heap.size W W'):∀ {ts:List TypeId} {vs:List Value} {ds:List (DataW H)} {ps:List MemPlace},
 (∀ t ∈ ts,P.readableRec t=true∧t < P.types.size)→DataW.TrodAll enc P W 0 (fun _=>true) true ts vs ds ps →
 DataW.TrodAll enc P W' 0 (fun b=>decide (b < W.heap.size)) true ts vs ds ps
 | [],_,_,_,_,h=>by
   obtain ⟨rfl,rfl,rfl⟩:=trodAll_nil h
   exact trodAll_mk0
 | t :: ts,_,_,_,hr,h=>by
   obtain ⟨v,vs1,d,ds1,a,b,rfl,rfl,rfl,h1,h2⟩:=trodAll_cons h
   have lt:∀ x ∈ a,x.block < W.heap.size:=by obtain ⟨m,hm⟩:=h1;exact DataW.trod_lt m _ _ _ hm
   exact ⟨a,b,Below.trod hl (hr t (by simp)).1 (hr t (by simp)).2 h1 hb lt,trodAll_below hl hb (fun t ht=>hr t (by simp [ht])) h2,rfl⟩
theorem trodAll_length {w:World} {base:Nat} {spare:Nat→Bool} {held:Bool}:∀ {ts:List TypeId} {vs:List Value} {ds:List (DataW H)} {ps:List MemPlace},
 DataW.TrodAll enc P w base spare held ts vs ds ps→ds.length=ts.length∧vs.length=ts.length
 | [],_,_,_,h=>by
   obtain ⟨rfl,rfl,rfl⟩:=trodAll_nil h
   exact ⟨rfl,rfl⟩
 | t :: ts,_,_,_,h=>by
   obtain ⟨v,vs1,d,ds1,a,b,rfl,rfl,rfl,h1,h2⟩:=trodAll_cons h
   have:=trodAll_length h2
   exact ⟨by simp [this.1],by simp [this.2]⟩
def LawCalls (P:Program) (n:FuncId) (W:World) (args:Array Value):Prop :=
 Calls P n args W fun e W'=>e=.returned (.bool true)∧Below W.heap.size W W'
theorem law_post {fn:Func} {s:ChangeSpec} {n:FuncId} {tb:TypeId} {W:World} {args:Array Value} {ds gs:List (DataW H)} {before:List MemPlace}
 (hl:laidOutB P=true) (hv:s.vars=[]) (hres:fn.resultTypes=#[tb]) (htb:P.underlying tb=some .bool)
 (hr:fn.params.toList.all (fun t=>P.readableRec t && decide (t < P.types.size))=true)
 (hs:ds.length=fn.params.toList.length→s.fn H ds={ results:=[.lit (.bool true)],args:=ds })
 (hW:DataW.Whole enc P fn.params.toList s.vars false W args.toList ds gs before) (h:LawCalls P n W args) :
 Calls P n args W fun e W'=>∃ v,e=.returned v∧s.post enc P fn false true false false W args v W':=by
 refine Calls.mono h fun e W' ⟨he,bel⟩=>⟨_,he,?_⟩
 have hW':=hW
 obtain ⟨p,q,hA,hV,rfl,hfz,hnd⟩:=hW
 rw [hv] at hV
 obtain ⟨rfl,rfl⟩:=trodVars_none hV
 have hlen:=(trodAll_length hA).1
 have hsd:=hs hlen
 have hargs:=trodAll_below hl bel (fun t ht=>by have:=List.all_eq_true.1 hr t ht;simpa using this) hA
 simp only [ChangeSpec.post,ChangeSpec.post] at *
 refine ⟨ds,[],p ++ [],[],p,[],hW',?_,?_,?_,bel.frame _,fun h=>by cases h⟩
 · rw [List.append_nil,hsd,hres]
   exact trodAll_mk1 (shut_bool htb _)
 · rw [List.append_nil,hsd]
   exact hargs
 · rw [hv,List.append_nil,hsd];rfl
end
inductive L0 where
 | int (k:IntKind)
 | bool
 | str
def L0.ok:L0→Value→Prop
 | .int k,v=>∃ n:Int,v=.int k n∧(Lit.int k n).wf=true
 | .bool,v=>∃ b:Bool,v=.bool b
 | .str,v=>∃ s:ByteArray,v=.string s∧s.size ≤ maxLen
def Flat:List L0→List Value→Prop
 | [],[]=>True
 | l :: ls,v :: vs=>l.ok v∧Flat ls vs
 | _,_=>False
theorem Flat.length:∀ {ls:List L0} {vs:List Value},Flat ls vs→vs.length=ls.length
 | [],[],_=>rfl
 | _ :: _,_ :: _,h=>by simp [Flat.length h.2]
 | [],_ :: _,h=>h.elim
 | _ :: _,[],h=>h.elim
theorem Flat.cons_inv {l:L0} {ls:List L0} {cs:List Value} (h:Flat (l :: ls) cs):∃ v vs,cs=v :: vs∧l.ok v∧Flat ls vs:=by
 cases cs with
 | nil=>exact h.elim
 | cons v vs=>exact ⟨v,vs,rfl,h.1,h.2⟩
theorem Flat.nil_inv {cs:List Value} (h:Flat [] cs):cs=[]:=by
 cases cs with
 | nil=>rfl
 | cons v vs=>exact h.elim
theorem Flat.append:∀ {a b:List L0} {cs ds:List Value},Flat a cs→Flat b ds→Flat (a ++ b) (cs ++ ds)
 | [],_,[],_,_,h=>h
 | _ :: _,_,_ :: _,_,h,k=>⟨h.1,Flat.append h.2 k⟩
 | [],_,_ :: _,_,h,_=>h.elim
 | _ :: _,_,[],_,h,_=>h.elim
def leavesFields (f:TypeId→Option (List L0)):Nat→List Field→Option (List L0)
 | _,[]=>some []
 | off,g :: gs=>if g.offset=off then
    match f g.type with
    | some a=>(leavesFields f (off + a.length) gs).map (a ++ ·)
    | none=>none
   else none
def leaves (P:Program):Nat→TypeId→Option (List L0)
 | 0,_=>none
 | d + 1,t=>match P.underlying t with
   | some .bool=>some [.bool]
   | some (.int k)=>some [.int k]
   | some .string=>some [.str]
   | some (.struct fs)=>(leavesFields (fun u=>match leaves P d u with
       | some a=>if P.cellsOf u=a.length then some a else none
       | none=>none) 0 fs.toList)
   | _=>none
section
variable {H:Type} {enc:TypeId × Value→H} {P:Program} {w:World} {base:Nat} {spare:Nat→Bool} {held:Bool}
theorem flat_fields {f:TypeId→Option (List L0)} {fuel:Nat} (hf:∀ u a,f u=some a→P.cellsOf u=a.length∧∀ cs x,DataW.trod enc P w base spare held fuel u cs=some x→Flat a cs) :
 ∀ {gs:List Field} {off:Nat} {ls:List L0} {cs:List Value},leavesFields f off gs=some ls→off + ls.length=cs.length →
   (∀ g ∈ gs,∃ x,DataW.trod enc P w base spare held fuel g.type ((cs.drop g.offset).take (P.cellsOf g.type))=some x)→Flat ls (cs.drop off)
 | [],off,ls,cs,h,hl,_=>by
   simp only [leavesFields,Option.some.injEq] at h
   subst h
   have:cs.drop off=[]:=by
    simp only [List.length_nil,Nat.add_zero] at hl
    rw [hl,List.drop_length]
   rw [this]
   trivial
 | g :: gs,off,ls,cs,h,hl,hg=>by
   simp only [leavesFields] at h
   split at h
   · rename_i hoff
     cases ha:f g.type with
     | none=>rw [ha] at h;cases h
     | some a =>
       rw [ha] at h
       simp only [Option.map_eq_some_iff] at h
       obtain ⟨ls',h',rfl⟩:=h
       obtain ⟨hc,hflat⟩:=hf _ _ ha
       obtain ⟨x,hx⟩:=hg g (by simp)
       have h1:=hflat _ _ hx
       rw [hoff,hc] at h1
       have h2:=flat_fields hf (cs:=cs) h' (by rw [← hl,List.length_append];omega) (fun g' hg'=>hg g' (by simp [hg']))
       have e:cs.drop off=(cs.drop off).take a.length ++ cs.drop (off + a.length):=by
        rw [← List.drop_drop,List.take_append_drop]
       rw [e]
       exact h1.append h2
   · cases h
theorem leaves_trod:∀ (d:Nat) (t:TypeId) (ls:List L0),leaves P d t=some ls→∀ (fuel:Nat) (cs:List Value) (x:DataW H × List MemPlace),
 P.cellsOf t=ls.length→DataW.trod enc P w base spare held fuel t cs=some x→Flat ls cs
 | 0,_,_,h,_,_,_,_,_=>by cases h
 | d + 1,t,ls,h,fuel,cs,x,hc,ht=>by
   simp only [leaves] at h
   cases hu:P.underlying t with
   | none=>rw [hu] at h;cases h
   | some u =>
     rw [hu] at h
     cases u with
     | bool =>
       simp only [Option.some.injEq] at h
       subst h
       obtain ⟨b,hb,_⟩:=DataW.trod_bool hu ht
       subst hb
       exact ⟨⟨b,rfl⟩,trivial⟩
     | int k =>
       simp only [Option.some.injEq] at h
       subst h
       obtain ⟨n,hb,_,hw⟩:=DataW.trod_int hu ht
       subst hb
       exact ⟨⟨n,rfl,hw⟩,trivial⟩
     | string =>
       simp only [Option.some.injEq] at h
       subst h
       obtain ⟨n,hb,_,hw⟩:=DataW.trod_string hu ht
       subst hb
       exact ⟨⟨n,rfl,hw⟩,trivial⟩
     | struct fs =>
       simp only at h
       obtain ⟨xs,n,rfl,_,hlen,hxl,hg⟩:=DataW.trod_struct hu ht
       have:=flat_fields (enc:=enc) (P:=P) (w:=w) (base:=base) (spare:=spare) (held:=held) (fuel:=n) (cs:=cs) (off:=0) (fun u a ha=>by
        split at ha
        · rename_i b hb
          split at ha
          · rename_i hcb
            simp only [Option.some.injEq] at ha
            subst ha
            exact ⟨hcb,fun cs' x' hx'=>leaves_trod d u _ hb n cs' x' hcb hx'⟩
          · cases ha
        · cases ha) h (by rw [hlen,hc];omega) (fun g hg'=>by
          obtain ⟨i,hi,he⟩:=List.getElem_of_mem hg'
          have hi':fs[i]?=some g:=by rw [← he];simp at hi ⊢
          have h1:=hg i g hi'
          have hi2:i < xs.length:=by rw [hxl];simpa using hi
          rw [List.getElem?_eq_getElem hi2] at h1
          exact ⟨_,h1⟩)
       simpa using this
     | _=>cases h
theorem open_flat_agg {r:Reach} {b0:Nat} {t:TypeId} {fs:Array Field} {ls:List L0} {v:Value} {d:DataW H} {p:List MemPlace} (hs:P.underlying t=some (.struct fs)) (hls:leaves P 9 t=some ls) (hC:P.cellsOf t=ls.length)
 (hv:Value.okWide P w r b0 t v) (h:DataW.Trod enc P w base spare held t v d p):∃ cs:List Value,v=.agg ⟨cs⟩∧Flat ls cs:=by
 obtain ⟨cs,rfl,hsz⟩:=okWide_struct hs hv
 obtain ⟨l⟩:=cs
 obtain ⟨fuel,hf⟩:=h
 exact ⟨l,rfl,leaves_trod 9 t ls hls fuel _ _ hC hf⟩
def SliceRows (w:World) (A:Option Addr) (n cap sz:Nat) (rows:List (List Value)):Prop :=
 rows.length=n∧n ≤ cap∧cap ≤ maxLen∧(∀ r ∈ rows,r.length=sz)∧(A=none→cap=0) ∧
    ∀ i cs,rows[i]?=some cs→∃ a,A=some a∧a.block < w.heap.size∧∀ j u,cs[j]?=some u→w.cell? (a.add (i * sz + j))=some u
theorem open_flat_slice {t e:TypeId} {ls:List L0} {fuel:Nat} {cs:List Value} {x:DataW H × List MemPlace} (ht:P.underlying t=some (.slice e)) (hls:leaves P 9 e=some ls) (hC:P.cellsOf e=ls.length) (hpos:0 < ls.length)
 (h:DataW.trod enc P w base spare held fuel t cs=some x) :
 ∃ (A:Option Addr) (n cap:Nat) (rows:List (List Value)),cs=[.slice A n cap]∧SliceRows w A n cap ls.length rows∧(∀ r ∈ rows,Flat ls r)∧(∃ el sp,(x.1=.nil∧n=0∧cap=0) ∨ (x.1=.slice el sp∧el.length=n)):=by
 rcases Go.Deep.open_slice ht h with ⟨rfl,rfl⟩ | ⟨a,len,cap,m,n,D,Pl,rfl,hb,hl,hm,hmm,rfl,hi⟩
 · exact ⟨none,0,0,[],rfl,⟨rfl,Nat.le_refl _,Nat.zero_le _,by simp,fun _=>rfl,by simp⟩,by simp,[],[],.inl ⟨rfl,rfl,rfl⟩⟩
 · have hlm:len ≤ m:=by rw [hmm];split <;> omega
   obtain ⟨f,hf⟩:=Go.Deep.choose_lt (α:=List Value) (n:=len) (p:=fun i cs'=>w.cells? base (a.add (i * P.cellsOf e)) (P.cellsOf e)=some cs'∧Flat ls cs') (fun i hi'=>by
    obtain ⟨cs',hc,ht'⟩:=hi i (by omega)
    exact ⟨cs',hc,leaves_trod 9 e ls hls n _ _ hC ht'⟩)
   refine ⟨some a,len,cap,(List.range len).map f,rfl,⟨by simp,hl,hm,?_,by simp,?_⟩,?_,(List.range len).map D,_,.inr ⟨rfl,by simp⟩⟩
   · intro r hr
     obtain ⟨i,hi',rfl⟩:=List.mem_map.1 hr
     exact (hf i (List.mem_range.1 hi')).2.length
   · intro i cs' hcs
     have hlt:i < len:=by
        have:=(List.getElem?_eq_some_iff.1 hcs).1
        simpa using this
     have he:cs'=f i:=by simpa [hlt] using hcs.symm
     subst he
     obtain ⟨hc,hfl⟩:=hf i hlt
     obtain ⟨_,hcl,hat⟩:=World.cells?_some hc
     rw [hC] at hat
     have hcell:∀ j u,(f i)[j]?=some u→w.cell? (a.add (i * ls.length + j))=some u:=by
        intro j u hj
        have hjl:j < ls.length:=by rw [← hfl.length];exact (List.getElem?_eq_some_iff.1 hj).1
        rw [← Go.Deep.add_add,hat j hjl,hj]
     refine ⟨a,rfl,?_,hcell⟩
     have hfl0:0 < (f i).length:=by rw [hfl.length];exact hpos
     have h0:=hcell 0 _ (List.getElem?_eq_getElem hfl0)
     have hblk:(a.add (i * ls.length + 0)).block=a.block:=by unfold Addr.add;split <;> rfl
     rw [← hblk]
     unfold World.cell? at h0
     rcases Nat.lt_or_ge (a.add (i * ls.length + 0)).block w.heap.size with hlt' | hge
     · exact hlt'
     · rw [Array.getElem?_eq_none hge] at h0;cases h0
   · intro r hr
     obtain ⟨i,hi',rfl⟩:=List.mem_map.1 hr
     exact (hf i (List.mem_range.1 hi')).2
end
theorem block_of_add (a:Addr) (n:Nat):(a.add n).block=a.block:=by unfold Addr.add;split <;> rfl
theorem add_of_add (a:Addr) (i j:Nat):(a.add i).add j=a.add (i + j):=by
 unfold Addr.add
 by_cases hi:i=0 <;> by_cases hj:j=0 <;> simp [hi,hj,Nat.add_assoc]
def Reads (w:World) (B size:Nat) (A:Option Addr) (n:Nat) (xs:List Value):Prop :=
 xs.length=n * size∧(0 < n→∃ ad,A=some ad∧ad.block < B∧∀ j u,xs[j]?=some u→w.cell? (ad.add j)=some u)
section
variable {w w':World} {B B' size n:Nat} {A:Option Addr} {xs:List Value}
theorem Reads.keep (h:Reads w B size A n xs) (hk:∀ p:Addr,p.block < B→w'.cell? p=w.cell? p):Reads w' B size A n xs :=
 ⟨h.1,fun hn=>by
  obtain ⟨ad,e,hb,hc⟩:=h.2 hn
  exact ⟨ad,e,hb,fun j u hu=>(hk _ (by rw [block_of_add];exact hb)).trans (hc j u hu)⟩⟩
theorem Reads.more (h:Reads w B size A n xs) (hB:B ≤ B'):Reads w B' size A n xs :=
 ⟨h.1,fun hn=>by
  obtain ⟨ad,e,hb,hc⟩:=h.2 hn
  exact ⟨ad,e,by omega,hc⟩⟩
theorem Reads.below (h:Reads w B size A n xs) (hb:Below B w w'):Reads w' B size A n xs:=h.keep fun _ hp=>hb.cell hp
theorem Reads.of_own {base:Nat} {e:TypeId} {c:Nat} (h:w.ownsRow base e size (.slice A n c) n xs):Reads w w.heap.size size A n xs:=by
 refine ⟨h.1,fun hn=>?_⟩
 obtain ⟨g,cap,hv,_,hlt⟩:=h.form hn
 have hA:A=some ⟨g,0,none⟩:=by injection hv
 subst hA
 exact ⟨_,rfl,hlt,h.cells (g:=g) rfl⟩
end
theorem below_drewN {B:Nat} {a w:World} (h:Below B a w) (n:Nat):Below B a (w.drewN n):=⟨h.os,h.tape,h.output,h.size,h.block⟩
theorem below_trans {W w1 w2:World} (h:Below W.heap.size W w1) (k:Below w1.heap.size w1 w2):Below W.heap.size W w2:=h.trans (k.mono h.size)
def Blk (w:World) (g:Nat) (t:TypeId) (cs:Array Value):Prop:=w.heap[g]?=some (.cells cs t (0,0))
section
variable {w w':World} {g:Nat} {t:TypeId} {cs:Array Value}
theorem Blk.lt (h:Blk w g t cs):g < w.heap.size:=by
 rcases Nat.lt_or_ge g w.heap.size with hlt | hge
 · exact hlt
 · unfold Blk at h;rw [Array.getElem?_eq_none hge] at h;cases h
theorem Blk.cell (h:Blk w g t cs) (i:Nat):w.cell? ⟨g,i,none⟩=cs[i]?:=cell_of_row w g i cs t (0,0) h
theorem Blk.frozen (h:Blk w g t cs) (i:Nat):w.frozen? ⟨g,i,none⟩=false:=by
 unfold Blk at h
 simp [World.frozen?,h]
theorem Blk.new (w:World) (t:TypeId) (cs:Array Value):Blk (w.alloc (.cells cs t)) w.heap.size t cs:=heap_alloc_new w _
theorem Blk.drew (h:Blk w g t cs):Blk w.drew g t cs:=h
theorem Blk.drewN (h:Blk w g t cs) (n:Nat):Blk (w.drewN n) g t cs:=h
theorem Blk.alloc (h:Blk w g t cs) (o:Obj):Blk (w.alloc o) g t cs:=(Below.heap_alloc w o g h.lt).trans h
theorem Blk.set_ (h:Blk w g t cs) (i:Nat) (u:Value):Blk (w.setCell ⟨g,i,none⟩ u) g t (cs.setIfInBounds i u):=by
 unfold Blk at h ⊢
 simp [World.setCell,Array.getElem?_modify,h]
theorem Blk.far (h:Blk w g t cs) {p:Addr} (hp:g ≠ p.block) (u:Value):Blk (w.setCell p u) g t cs:=(Below.heap_setCell w p u g hp).trans h
theorem Blk.below {B:Nat} (h:Blk w g t cs) (hb:Below B w w') (hg:g < B):Blk w' g t cs:=(hb.block g hg).trans h
theorem Blk.grown {row:Option Nat} (h:Blk w g t cs) (hb:w.grownBy w' row) (hg:some g ≠ row):Blk w' g t cs:=(hb.block g h.lt hg).trans h
theorem Blk.own {base size n c:Nat} {xs:List Value} (h:Blk w g t cs) (hb:base ≤ g) (hn:n ≤ c) (hc:c ≤ maxLen) (hs:cs.size=c * size) (hx:cs.toList.take (n * size)=xs):w.ownsRow base t size (.slice (some ⟨g,0,none⟩) n c) n xs:=by
 refine ⟨?_,Or.inr ⟨g,c,cs,rfl,hb,h,hn,hc,hs,hx⟩⟩
 rw [← hx,List.length_take,Array.length_toList,hs]
 exact Nat.min_eq_left (Nat.mul_le_mul_right _ hn)
end
theorem ret_int {k:IntKind} {a b:Int} (h:a=b):Ending.returned (.int k a)=.returned (.int k b):=by rw [h]
theorem ret_bool {a b:Bool} (h:a=b):Ending.returned (.bool a)=.returned (.bool b):=by rw [h]
theorem own_form {w:World} {base size n:Nat} {e:TypeId} {v:Value} {xs:List Value} (h:w.ownsRow base e size v n xs):∃ A c,v=.slice A n c∧(A=none→n=0∧c=0)∧n ≤ c∧c ≤ maxLen:=by
 rcases h.2 with ⟨h0,h1⟩ | ⟨g,cap,_,hv,_,_,hn,hc,_⟩
 · subst h1;exact ⟨none,0,h0,fun _=>⟨rfl,rfl⟩,Nat.le_refl _,Nat.zero_le _⟩
 · exact ⟨_,cap,hv,(fun h=>by cases h),hn,hc⟩
def u8s (l:List UInt8):List Value:=l.map fun b=>.int .u8 (b.toNat:Int)
theorem run_string_of_reads {P:Program} {w:World} {B n cap:Nat} {A:Option Addr} {l:List UInt8} (src dst e:TypeId) (hs:P.underlying src=some (.slice e)) (he:P.underlying e=some (.int .u8)) (hd:P.underlying dst=some .string)
 (hA:A=none→cap=0) (h:Reads w B 1 A n (u8s l)):(convert src dst (.slice A n cap)).run P w=.ok (.string ⟨l.toArray⟩) w:=by
 have hlen:l.length=n:=by simpa [u8s] using h.1
 subst hlen
 rcases Nat.eq_zero_or_pos l.length with h0 | hpos
 · have hl:l=[]:=List.length_eq_zero_iff.1 h0
   subst hl
   cases A with
   | none =>
     rw [run_convert_bytes_string w src dst e none _ cap hs he hd,hA rfl]
     rfl
   | some ad=>exact run_convert_bytes_back w src dst e ad cap [] hs he hd (fun j hj=>absurd hj (by simp))
 · obtain ⟨ad,rfl,_,hc⟩:=h.2 hpos
   exact run_convert_bytes_back w src dst e ad cap l hs he hd (fun j hj=>hc j _ (by simp [u8s,hj]))
end Go.Proofs.YtkgflepgkhnclaaGreatDoor
namespace Go.Proofs.YtkgflepgkhnclaaGreatDoor
set_option linter.unusedVariables false
set_option linter.unusedSimpArgs false
open Go.RowKit Go.MapKept Go.ChangeMaps
def IntMap (kd:IntKind) (w:World) (b:Nat) (kvs:List (Int × Value)):Prop :=
 ∃ es clock,w.heap[b]?=some (.map es clock)∧es.toList.map (fun e=>(e.key,e.val))=kvs.map (fun p=>(Value.int kd p.1,p.2))
def look (z:Value) (n:Int):List (Int × Value)→Value
 | []=>z
 | p :: r=>if p.1=n then p.2 else look z n r
def hasKey (n:Int) (kvs:List (Int × Value)):Bool:=kvs.any (fun p=>p.1 == n)
theorem findNow_int {kd q:IntKind} {n:Int}:∀ (l:List MapEntry) (kvs:List (Int × Value)) (i:Nat),l.map (fun e=>(e.key,e.val))=kvs.map (fun p=>(Value.int kd p.1,p.2)) →
 ∃ r,Instr.findNow (.int q) (.int kd n) l i=some r∧(hasKey n kvs=false→r=none)∧(hasKey n kvs=true→∃ j,∀ z,r=some (j,look z n kvs))
 | [],[],i,_=>⟨none,rfl,fun _=>rfl,fun h=>by cases h⟩
 | [],_ :: _,_,h=>by simp at h
 | _ :: _,[],_,h=>by simp at h
 | e :: l,p :: kvs,i,h=>by
   simp only [List.map_cons,List.cons.injEq,Prod.mk.injEq] at h
   obtain ⟨⟨hk,hv⟩,hr⟩:=h
   obtain ⟨r,h1,h2,h3⟩:=findNow_int (q:=q) (n:=n) l kvs (i + 1) hr
   by_cases hp:p.1=n
   · refine ⟨some (i,e.val),?_,fun h=>?_,fun _=>⟨i,fun z=>?_⟩⟩
     · simp [Instr.findNow,hk,Instr.sameNow,hp]
     · simp [hasKey,hp] at h
     · rw [look,if_pos hp,hv]
   · refine ⟨r,?_,fun h=>h2 ?_,fun h=>?_⟩
     · have:(n == p.1)=false:=by simp;exact fun h=>hp h.symm
       simp [Instr.findNow,hk,Instr.sameNow,this,h1]
     · simp only [hasKey,List.any_cons,Bool.or_eq_false_iff] at h
       exact h.2
     · obtain ⟨j,hj⟩:=h3 (by simpa [hasKey,hp] using h)
       exact ⟨j,fun z=>by rw [look,if_neg hp];exact hj z⟩
section
variable {P:Program} {w:World}
theorem run_lookup_intmap {kd q:IntKind} {b:Nat} {kvs:List (Int × Value)} {t k e:TypeId} {z:Value} {n:Int} (h:IntMap kd w b kvs) (ht:P.underlying t=some (.map k e)) (hk:P.underlying k=some (.int q)) (hq:q=kd)
 (hz:(zeroValue e).run P w=.ok z w) (ok:Bool) :
 (Instr.lookup t (.map (some b)) (.int kd n) ok).run P w=.ok (if ok then .tuple #[look z n kvs,.bool (hasKey n kvs)] else look z n kvs) w:=by
 obtain ⟨es,clock,hb,he⟩:=h
 subst hq
 obtain ⟨r,h1,h2,h3⟩:=findNow_int (q:=q) (n:=n) es.toList kvs 0 he
 have hl:∀ z,hasKey n kvs=false→look z n kvs=z:=by
  intro z hn
  clear h2 h3 h1 he
  induction kvs with
  | nil=>rfl
  | cons p r ih =>
    simp only [hasKey,List.any_cons,Bool.or_eq_false_iff,beq_eq_false_iff_ne] at hn
    rw [look,if_neg hn.1]
    exact ih hn.2
 have hkey:IsKey (.int q) (.int q n):=by simp [IsKey]
 have hfk:=run_findKey (P:=P) (w:=w) hk h1
 have hck:=run_checkKey (P:=P) (w:=w) hk hkey es.isEmpty 9999
 unfold Instr.lookup
 simp only [Sem.run_bind,run_underlying ht,Result.andThen,Go.MapKept.run_getObj_map hb,Sem.run_pure,hck,hfk]
 cases hn:hasKey n kvs with
 | false =>
   rw [h2 hn]
   simp only [Sem.run_bind,hz,Result.andThen,Sem.run_pure,hl z hn]
   first | done | (cases ok <;> rfl)
 | true =>
   obtain ⟨j,hj⟩:=h3 hn
   rw [hj z]
   cases ok <;> rfl
theorem insert_intmap {kd q:IntKind} {b:Nat} {kvs:List (Int × Value)} {t k e:TypeId} {n:Int} {v:Value} (h:IntMap kd w b kvs) (ht:P.underlying t=some (.map k e)) (hk:P.underlying k=some (.int q)) (hq:q=kd)
 (hn:hasKey n kvs=false):∃ w',(Instr.mapUpdate t (.map (some b)) (.int kd n) v).run P w=.ok () w'∧IntMap kd w' b (kvs ++ [(n,v)])∧w.grownBy w' (some b):=by
 obtain ⟨es,clock,hb,he⟩:=h
 subst hq
 obtain ⟨r,h1,h2,_⟩:=findNow_int (q:=q) (n:=n) es.toList kvs 0 he
 obtain rfl:=h2 hn
 have hkey:IsKey (.int q) (.int q n):=by simp [IsKey]
 have hfk:=run_findKey (P:=P) (w:=w) hk h1
 have hck:=run_checkKey (P:=P) (w:=w) hk hkey false 9999
 refine ⟨setBlock w b (.map (es.push { key:=.int q n,val:=v,born:=clock }) (clock + 1)),?_,⟨_,_,heap_setBlock_same hb _,?_⟩,
  ⟨rfl,rfl,rfl,by simp [setBlock],fun i _ hi=>heap_setBlock_other hb _ (fun e=>hi (by rw [e]))⟩⟩
 · unfold Instr.mapUpdate
   simp only [Sem.run_bind,run_underlying ht,Result.andThen,Go.MapKept.run_getObj_map hb,hck,hfk,Go.MapKept.run_setObj_map _ hb]
   rfl
 · simp [he]
theorem wpList_insert_intmap {ops:Array Oper} {rest:List Oper} {o:Oper} {a:Act} {Q:Exit→Act→World→Prop} (hg:o.guard=none) (m x v:Operand) (t:TypeId) (hop:o.op=Op.insert t m x v)
 (k e:TypeId) (kd q:IntKind) (ht:P.underlying t=some (.map k e)) (hk:P.underlying k=some (.int q)) (hq:q=kd) (b:Nat) (kvs:List (Int × Value)) (hm:a.eval m=.map (some b)) (h:IntMap kd w b kvs)
 (n:Int) (hx:a.eval x=.int kd n) (hn:hasKey n kvs=false) (val:Value) (hv:a.eval v=val)
 (hK:∀ w',IntMap kd w' b (kvs ++ [(n,val)])→w.grownBy w' (some b)→wpList P ops Q rest (a.put o.dst undef) w'):wpList P ops Q (o :: rest) a w:=by
 refine wpList_plain hg fun K' hK'=>?_
 obtain ⟨w',hrun,r1,r2⟩:=insert_intmap (P:=P) (v:=val) h ht hk hq hn
 unfold Oper.wp
 simp [execOp,hop,hm,hx,hv,hrun,Result.andThen]
 exact hK' _ _ (hK w' r1 r2)
theorem wpList_insert_lit {ops:Array Oper} {rest:List Oper} {o:Oper} {a:Act} {Q:Exit→Act→World→Prop} (W0:World) (B:Nat) (hg:o.guard=none) (m x v:Operand) (t:TypeId) (hop:o.op=Op.insert t m x v)
 (k e:TypeId) (kd q:IntKind) (ht:P.underlying t=some (.map k e)) (hk:P.underlying k=some (.int q)) (hq:q=kd) (b:Nat) (kvs:List (Int × Value)) (hm:a.eval m=.map (some b)) (h:IntMap kd w b kvs) (hbel:Below B W0 w) (hB:B ≤ b)
 (n:Int) (hx:a.eval x=.int kd n) (hn:hasKey n kvs=false) (val:Value) (hv:a.eval v=val)
 (hK:∀ w',IntMap kd w' b (kvs ++ [(n,val)])→Below B W0 w'→wpList P ops Q rest (a.put o.dst undef) w'):wpList P ops Q (o :: rest) a w :=
 wpList_insert_intmap hg m x v t hop k e kd q ht hk hq b kvs hm h n hx hn val hv fun w' h1 h2=>hK w' h1 (hbel.trans ⟨h2.os,h2.tape,h2.output,h2.size,fun i hi=>by
  rcases Nat.lt_or_ge i w.heap.size with h3 | h3
  · exact h2.block i h3 (fun e=>by injection e with e;omega)
  · obtain ⟨_,_,hb,_⟩:=h
    have:=(Array.getElem?_eq_some_iff.1 hb).1
    omega⟩)
theorem IntMap.made (kd:IntKind) (w:World):IntMap kd (w.alloc (.map #[] 0)) w.heap.size []:=⟨#[],0,heap_alloc_new w _,rfl⟩
theorem IntMap.lt {kd:IntKind} {b:Nat} {kvs:List (Int × Value)} (h:IntMap kd w b kvs):b < w.heap.size:=by
 obtain ⟨es,clock,hb,_⟩:=h
 exact (Array.getElem?_eq_some_iff.1 hb).1
theorem IntMap.below {kd:IntKind} {b B:Nat} {kvs:List (Int × Value)} {w':World} (h:IntMap kd w b kvs) (hb:Below B w w') (hB:b < B):IntMap kd w' b kvs:=by
 obtain ⟨es,clock,h1,h2⟩:=h
 exact ⟨es,clock,by rw [hb.block b hB];exact h1,h2⟩
end
end Go.Proofs.YtkgflepgkhnclaaGreatDoor
namespace Go.Proofs.YtkgflepgkhnclaaGreatDoor
set_option linter.unusedVariables false
set_option linter.unusedSimpArgs false
open Go.RowKit Go.Shelf
def BoolB (b:Bool) (w:World) (e:Ending) (w':World):Prop:=e=.returned (.bool b)∧Below w.heap.size w w'
def StayV (v:Value) (w:World) (e:Ending) (w':World):Prop:=e=.returned v∧w'=w
def U8 (w:World) (i:Nat):Prop:=∃ cs fz,w.heap[i]?=some (.cells cs 5 fz)
structure KeepC (C:Nat→Prop) (w w':World):Prop where
 os:w'.os=w.os
 tape:w'.tape=w.tape
 output:w'.output=w.output
 size:w.heap.size ≤ w'.heap.size
 block:∀ i,i < w.heap.size→(¬ C i ∨ U8 w i)→w'.heap[i]?=w.heap[i]?
section
variable {C D:Nat→Prop} {w w' w'':World}
theorem KeepC.refl (C:Nat→Prop) (w:World):KeepC C w w:=⟨rfl,rfl,rfl,Nat.le_refl _,fun _ _ _=>rfl⟩
theorem KeepC.of_below (h:Below w.heap.size w w'):KeepC C w w':=⟨h.os,h.tape,h.output,h.size,fun i hi _=>h.block i hi⟩
theorem U8.on {i:Nat} (h:U8 w i) (hk:w'.heap[i]?=w.heap[i]?):U8 w' i:=by
 obtain ⟨cs,fz,h⟩:=h
 exact ⟨cs,fz,hk.trans h⟩
theorem U8.lt {i:Nat} (h:U8 w i):i < w.heap.size:=by
 obtain ⟨cs,fz,h⟩:=h
 exact (Array.getElem?_eq_some_iff.1 h).1
theorem KeepC.trans (h:KeepC C w w') (k:KeepC D w' w'') (hD:∀ i,i < w.heap.size→D i→C i):KeepC C w w'' :=
 ⟨k.os.trans h.os,k.tape.trans h.tape,k.output.trans h.output,Nat.le_trans h.size k.size,fun i hi hc=>by
  have h1:=h.block i hi hc
  rw [k.block i (Nat.lt_of_lt_of_le hi h.size) (hc.imp (fun a b=>a (hD i hi b)) (fun a=>a.on h1)),h1]⟩
theorem KeepC.mono (h:KeepC C w w') (hD:∀ i,i < w.heap.size→C i→D i):KeepC D w w':=(KeepC.refl D w).trans h hD
theorem KeepC.below (h:KeepC C w w') (k:Below w'.heap.size w' w''):KeepC C w w'':=h.trans (D:=C) (.of_below k) (fun _ _ h=>h)
theorem KeepC.drew (h:KeepC C w w'):KeepC C w w'.drew:=⟨h.os,h.tape,h.output,h.size,h.block⟩
theorem KeepC.drewN (h:KeepC C w w') (n:Nat):KeepC C w (w'.drewN n):=⟨h.os,h.tape,h.output,h.size,h.block⟩
theorem KeepC.alloc (h:KeepC C w w') (o:Obj):KeepC C w (w'.alloc o):=h.below ((Below.refl _ _).alloc (Nat.le_refl _) o)
theorem KeepC.one {b:Nat} (hs:w'.os=w.os∧w'.tape=w.tape∧w'.output=w.output∧w.heap.size ≤ w'.heap.size) (hb:∀ i,i < w.heap.size→i ≠ b→w'.heap[i]?=w.heap[i]?) (hC:b < w.heap.size→C b) (hu:¬ U8 w b):KeepC C w w' :=
 ⟨hs.1,hs.2.1,hs.2.2.1,hs.2.2.2,fun i hi hc=>hb i hi (by
  rintro rfl
  rcases hc with hc | hc
  · exact hc (hC hi)
  · exact hu hc)⟩
theorem not_U8 {b:Nat} {t:TypeId} {cs:Array Value} (h:Blk w b t cs) (ht:t ≠ 5):¬ U8 w b:=by
 rintro ⟨cs',fz,h'⟩
 unfold Blk at h
 rw [h] at h'
 injection h' with h'
 injection h' with _ h2 _
 exact ht h2
theorem not_U8_map {b:Nat} {es:Array MapEntry} {ck:Nat} (h:w.heap[b]?=some (.map es ck)):¬ U8 w b:=by
 rintro ⟨cs',fz,h'⟩
 rw [h] at h'
 injection h' with h'
 cases h'
theorem KeepC.setCell {b:Nat} {t:TypeId} {cs:Array Value} (h:KeepC C w w') (hb:Blk w' b t cs) (ht:t ≠ 5) (hC:b < w.heap.size→C b) (j:Nat) (v:Value):KeepC C w (w'.setCell ⟨b,j,none⟩ v) :=
 h.trans (D:=(·=b)) (.one ⟨rfl,rfl,rfl,by simp⟩ (fun i _ hi=>Below.heap_setCell w' _ v i hi) (fun _=>rfl) (not_U8 hb ht)) (fun i hi e=>by subst e;exact hC hi)
theorem KeepC.grown {row:Option Nat} (h:KeepC C w w') (hg:w'.grownBy w'' row) (hr:∀ b,row=some b→(b < w.heap.size→C b)∧¬ U8 w' b):KeepC C w w'':=by
 cases row with
 | none=>exact h.trans (D:=C) ⟨hg.os,hg.tape,hg.output,hg.size,fun i hi _=>hg.block i hi (fun e=>by cases e)⟩ (fun _ _ h=>h)
 | some b =>
   obtain ⟨h1,h2⟩:=hr b rfl
   exact h.trans (D:=(·=b)) (.one ⟨hg.os,hg.tape,hg.output,hg.size⟩ (fun i hi hne=>hg.block i hi (fun e=>hne (by injection e))) (fun _=>rfl) h2) (fun i hi e=>by subst e;exact h1 hi)
theorem KeepC.blk {b:Nat} {t:TypeId} {cs:Array Value} (h:Blk w b t cs) (k:KeepC C w w') (hb:¬ C b):Blk w' b t cs:=(k.block b h.lt (.inl hb)).trans h
theorem KeepC.u8 {b:Nat} (h:U8 w b) (k:KeepC C w w'):w'.heap[b]?=w.heap[b]?:=k.block b h.lt (.inr h)
end
def BytesAt (w:World) (v:Value) (x:ByteArray):Prop :=
 ∃ A c,v=.slice A x.size c∧(A=none→c=0)∧(0 < x.size→∃ vb off,A=some ⟨vb,off,none⟩∧U8 w vb∧∀ j,(hj:j < x.size)→w.cell? ⟨vb,off + j,none⟩=some (.int .u8 (x[j].toNat:Int)))
theorem BytesAt.keep {C:Nat→Prop} {w w':World} {v:Value} {x:ByteArray} (h:BytesAt w v x) (k:KeepC C w w'):BytesAt w' v x:=by
 obtain ⟨A,c,h1,h2,h3⟩:=h
 refine ⟨A,c,h1,h2,fun hp=>?_⟩
 obtain ⟨vb,off,h4,h5,h6⟩:=h3 hp
 exact ⟨vb,off,h4,h5.on (k.u8 h5),fun j hj=>(World.cell?_of_block (w:=w) (k.u8 h5)).trans (h6 j hj)⟩
abbrev Kvs:=List (ByteArray × Value)
def StrMap (w:World) (b:Nat) (kvs:Kvs):Prop:=∃ es ck,w.heap[b]?=some (.map es ck)∧es.toList.map (fun e=>(e.key,e.val))=kvs.map (fun p=>(Value.string p.1,p.2))∧(es.toList.map (·.born)).Nodup∧(∀ e ∈ es.toList,e.born < ck)∧(kvs.map (·.1)).Nodup
def getS (k:ByteArray):Kvs→Option Value
 | []=>none
 | p :: r=>if p.1=k then some p.2 else getS k r
def putS (k:ByteArray) (v:Value):Kvs→Kvs
 | []=>[(k,v)]
 | p :: r=>if p.1=k then (p.1,v) :: r else p :: putS k v r
def delS (k:ByteArray):Kvs→Kvs
 | []=>[]
 | p :: r=>if p.1=k then r else p :: delS k r
def ltS (a b:ByteArray):Prop:=Op.bytesLess a.toList b.toList=true
instance (a b:ByteArray):Decidable (ltS a b):=inferInstanceAs (Decidable (_=true))
structure Bk where
 l:List (ByteArray × ByteArray)
 qk:Int
 qb:Int
def sizeP (p:ByteArray × ByteArray):Nat:=p.1.size + p.2.size
def sizeL (l:List (ByteArray × ByteArray)):Nat:=(l.map sizeP).sum
structure Bk.wf (B:Bk):Prop where
 qk:0 ≤ B.qk∧B.qk ≤ 18446744073709551615
 qb:0 ≤ B.qb∧B.qb ≤ 18446744073709551615
 keys:(B.l.map (·.1)).Pairwise ltS
 short:∀ p ∈ B.l,p.1.size ≤ 16∧p.2.size ≤ 32
 nk:(B.l.length:Int) ≤ B.qk
 nb:(sizeL B.l:Int) ≤ B.qb
def KeysAt (w:World) (o:Option Nat) (A:Option Addr) (c:Nat) (ks:List ByteArray):Prop :=
 (o=none∧A=none∧ks=[]∧c=0) ∨
 ∃ kb cs,o=some kb∧A=some ⟨kb,0,none⟩∧Blk w kb 9 cs∧cs.size=c∧ks.length ≤ c∧c ≤ 9223372036854775807∧∀ j,(hj:j < ks.length)→cs[j]?=some (.string ks[j])
structure Ow where
 b:Nat
 m:Nat
 k:Option Nat
def Ow.has (o:Ow) (i:Nat):Prop:=i=o.b ∨ i=o.m ∨ o.k=some i
def getL (k:ByteArray):List (ByteArray × ByteArray)→Option ByteArray
 | []=>none
 | p :: r=>if p.1=k then some p.2 else getL k r
abbrev keysL (l:List (ByteArray × ByteArray)):List ByteArray:=l.map (·.1)
def ValsAt (w:World) (m:Nat) (l:List (ByteArray × ByteArray)):Prop :=
 ∃ kvs,StrMap w m kvs∧∀ k,(getL k l=none→getS k kvs=none)∧∀ x,getL k l=some x→∃ v,getS k kvs=some v∧BytesAt w v x
structure BkAt (w:World) (o:Ow) (B:Bk):Prop where
 wf:B.wf
 row:∃ A c,Blk w o.b 134 #[.slice A B.l.length c,.map (some o.m),.int .u64 B.qk,.int .u64 B.qb,.int .u64 (sizeL B.l:Int)]∧KeysAt w o.k A c (B.l.map (·.1))
 vals:ValsAt w o.m B.l
end Go.Proofs.YtkgflepgkhnclaaGreatDoor
namespace Go.Proofs.YtkgflepgkhnclaaGreatDoor
set_option linter.unusedVariables false
set_option linter.unusedSimpArgs false
open Go.RowKit Go.MapKept Go.ChangeMaps
theorem findNow_str {k:ByteArray}:∀ (l:List MapEntry) (kvs:Kvs) (i:Nat),l.map (fun e=>(e.key,e.val))=kvs.map (fun p=>(Value.string p.1,p.2)) →
 ∃ r,Instr.findNow .string (.string k) l i=some r∧(getS k kvs=none→r=none)∧∀ v,getS k kvs=some v→∃ j e,r=some (i + j,v)∧l[j]?=some e∧e.key=.string k∧e.val=v∧∀ j' e',l[j']?=some e'→e'.key=.string k→j' < j→False
 | [],[],i,_=>⟨none,rfl,fun _=>rfl,fun v h=>by cases h⟩
 | [],_ :: _,_,h=>by simp at h
 | _ :: _,[],_,h=>by simp at h
 | e :: l,p :: kvs,i,h=>by
   simp only [List.map_cons,List.cons.injEq,Prod.mk.injEq] at h
   obtain ⟨⟨hk,hv⟩,hr⟩:=h
   obtain ⟨r,h1,h2,h3⟩:=findNow_str (k:=k) l kvs (i + 1) hr
   by_cases hp:p.1=k
   · refine ⟨some (i,e.val),?_,fun h=>?_,fun v hv'=>⟨0,e,?_,rfl,?_,?_,fun j' _ _ _ h=>by omega⟩⟩
     · have:(k == p.1)=true:=(bytes_beq _ _).2 hp.symm
       simp [Instr.findNow,hk,Instr.sameNow,this]
     · simp [getS,hp] at h
     · simp only [getS,if_pos hp,Option.some.injEq] at hv'
       rw [hv,hv'];rfl
     · rw [hk,hp]
     · simp only [getS,if_pos hp,Option.some.injEq] at hv'
       rw [hv,hv']
   · have hb:(k == p.1)=false:=Bool.eq_false_iff.2 (fun h=>hp ((bytes_beq _ _).1 h).symm)
     refine ⟨r,by simp [Instr.findNow,hk,Instr.sameNow,hb,h1],fun h=>h2 (by simpa [getS,hp] using h),fun v hv'=>?_⟩
     obtain ⟨j,e',h4,h5,h6,h7,h8⟩:=h3 v (by simpa [getS,hp] using hv')
     refine ⟨j + 1,e',by rw [h4];congr 2;omega,by simpa using h5,h6,h7,fun j' e2 a b c=>?_⟩
     cases j' with
     | zero =>
       simp only [List.getElem?_cons_zero,Option.some.injEq] at a
       subst a
       rw [hk] at b
       injection b with b
       exact hp b
     | succ j'=>exact h8 j' e2 (by simpa using a) b (by omega)
section
variable {P:Program} {w:World}
theorem StrMap.lt {b:Nat} {kvs:Kvs} (h:StrMap w b kvs):b < w.heap.size:=by
 obtain ⟨es,ck,hb,_⟩:=h
 exact (Array.getElem?_eq_some_iff.1 hb).1
theorem StrMap.notU8 {b:Nat} {kvs:Kvs} (h:StrMap w b kvs):¬ U8 w b:=by
 obtain ⟨es,ck,hb,_⟩:=h
 exact not_U8_map hb
theorem StrMap.on {w':World} {b:Nat} {kvs:Kvs} (h:StrMap w b kvs) (hb:w'.heap[b]?=w.heap[b]?):StrMap w' b kvs:=by
 obtain ⟨es,ck,h1,h2⟩:=h
 exact ⟨es,ck,hb.trans h1,h2⟩
theorem StrMap.made (w:World):StrMap (w.alloc (.map #[] 0)) w.heap.size []:=⟨#[],0,heap_alloc_new w _,rfl,by simp,by simp,by simp⟩
theorem run_lookup_str {b:Nat} {kvs:Kvs} {t k e:TypeId} {z:Value} {x:ByteArray} (h:StrMap w b kvs) (ht:P.underlying t=some (.map k e)) (hk:P.underlying k=some .string)
 (hz:(zeroValue e).run P w=.ok z w) (ok:Bool) :
 (Instr.lookup t (.map (some b)) (.string x) ok).run P w=.ok (if ok then .tuple #[(getS x kvs).getD z,.bool (getS x kvs).isSome] else (getS x kvs).getD z) w:=by
 obtain ⟨es,ck,hb,he,_⟩:=h
 obtain ⟨r,h1,h2,h3⟩:=findNow_str (k:=x) es.toList kvs 0 he
 have hkey:IsKey .string (.string x):=by simp [IsKey]
 have hfk:=run_findKey (P:=P) (w:=w) hk h1
 have hck:=run_checkKey (P:=P) (w:=w) hk hkey es.isEmpty 9999
 unfold Instr.lookup
 simp only [Sem.run_bind,run_underlying ht,Result.andThen,Go.MapKept.run_getObj_map hb,Sem.run_pure,hck,hfk]
 cases hn:getS x kvs with
 | none =>
   rw [h2 hn]
   simp only [Sem.run_bind,hz,Result.andThen,Sem.run_pure]
   first | done | (cases ok <;> rfl)
 | some v =>
   obtain ⟨j,e',hj,_⟩:=h3 v hn
   rw [hj]
   cases ok <;> rfl
theorem putS_new {k:ByteArray} {v:Value}:∀ {kvs:Kvs},getS k kvs=none→putS k v kvs=kvs ++ [(k,v)]
 | [],_=>rfl
 | p :: r,h=>by
   by_cases hp:p.1=k
   · simp [getS,hp] at h
   · simp only [getS,if_neg hp] at h
     simp [putS,hp,putS_new h]
theorem putS_old {k:ByteArray} {v:Value}:∀ {kvs:Kvs} {l:List MapEntry} {i:Nat},l.map (fun e=>(e.key,e.val))=kvs.map (fun p=>(Value.string p.1,p.2))→∀ {v0:Value},getS k kvs=some v0 →
 (∀ j e,l[j]?=some e→e.key=.string k→j < i→False)→(∃ e,l[i]?=some e∧e.key=.string k) →
 (l.modify i (fun e=>{ e with val:=v })).map (fun e=>(e.key,e.val))=(putS k v kvs).map (fun p=>(Value.string p.1,p.2))
 | [],l,i,h,v0,hg,_,_=>by cases hg
 | p :: r,[],i,h,_,_,_,_=>by simp at h
 | p :: r,e :: l,i,h,v0,hg,hj,hi=>by
   simp only [List.map_cons,List.cons.injEq,Prod.mk.injEq] at h
   obtain ⟨⟨hk,hv⟩,hr⟩:=h
   by_cases hp:p.1=k
   · cases i with
     | zero=>simp [putS,hp,hk,hr]
     | succ i=>exact absurd (hj 0 e rfl (by rw [hk,hp]) (by omega)) (fun h=>h)
   · cases i with
     | zero =>
       obtain ⟨e',h1,h2⟩:=hi
       simp only [List.getElem?_cons_zero,Option.some.injEq] at h1
       subst h1
       rw [hk] at h2
       injection h2 with h2
       exact absurd h2 hp
     | succ i =>
       simp only [getS,if_neg hp] at hg
       have:=putS_old (v:=v) (kvs:=r) (l:=l) (i:=i) hr hg (fun j e hj1 hj2 hj3=>hj (j + 1) e (by simpa using hj1) hj2 (by omega)) (by simpa using hi)
       simp [putS,hp,hk,hv,this]
theorem keys_putS {k:ByteArray} {v:Value}:∀ {kvs:Kvs},(putS k v kvs).map (·.1)=if getS k kvs=none then kvs.map (·.1) ++ [k] else kvs.map (·.1)
 | []=>by simp [putS,getS]
 | p :: r=>by
   by_cases hp:p.1=k
   · simp [putS,getS,hp]
   · have:=keys_putS (k:=k) (v:=v) (kvs:=r)
     simp only [putS,getS,if_neg hp,List.map_cons,this]
     split <;> rfl
theorem getS_none {k:ByteArray}:∀ {kvs:Kvs},getS k kvs=none ↔ k ∉ kvs.map (·.1)
 | []=>by simp [getS]
 | p :: r=>by
   by_cases hp:p.1=k
   · simp [getS,hp]
   · have:=getS_none (k:=k) (kvs:=r)
     simp only [getS,if_neg hp,this,List.map_cons,List.mem_cons,not_or]
     exact ⟨fun h=>⟨fun e=>hp e.symm,h⟩,fun h=>h.2⟩
theorem nodup_putS {k:ByteArray} {v:Value} {kvs:Kvs} (h:(kvs.map (·.1)).Nodup):((putS k v kvs).map (·.1)).Nodup:=by
 rw [keys_putS]
 split
 · rename_i hn
   rw [List.nodup_append]
   refine ⟨h,by simp,fun a ha b hb=>?_⟩
   rw [List.mem_singleton] at hb
   rintro rfl
   exact getS_none.1 hn (hb ▸ ha)
 · exact h
theorem getS_putS {k x:ByteArray} {v:Value}:∀ {kvs:Kvs},getS x (putS k v kvs)=if x=k then some v else getS x kvs
 | []=>by
   by_cases h:x=k
   · simp [putS,getS,h]
   · simp only [putS,getS,if_neg h,if_neg (fun e:k=x=>h e.symm)]
 | p :: r=>by
   have ih:=getS_putS (k:=k) (x:=x) (v:=v) (kvs:=r)
   by_cases hp:p.1=k
   · by_cases h:x=k
     · simp [putS,getS,hp,h]
     · simp only [putS,if_pos hp,if_neg h,getS,show ¬ p.1=x from fun e=>h (e.symm.trans hp),if_false]
   · by_cases h:p.1=x
     · simp only [putS,if_neg hp,getS,if_pos h,if_neg (show ¬ x=k from fun e=>hp (h.trans e))]
     · simp only [putS,if_neg hp,getS,if_neg h,ih]
theorem keys_delS {k:ByteArray}:∀ {kvs:Kvs},((delS k kvs).map (·.1)).Sublist (kvs.map (·.1))
 | []=>by simp [delS]
 | p :: r=>by
   by_cases hp:p.1=k
   · simp [delS,hp]
   · simp only [delS,if_neg hp,List.map_cons]
     exact keys_delS.cons_cons _
theorem getS_delS {k x:ByteArray}:∀ {kvs:Kvs},(kvs.map (·.1)).Nodup→getS x (delS k kvs)=if x=k then none else getS x kvs
 | [],_=>by simp [delS,getS]
 | p :: r,h=>by
   simp only [List.map_cons,List.nodup_cons] at h
   have ih:=getS_delS (k:=k) (x:=x) h.2
   by_cases hp:p.1=k
   · by_cases hx:x=k
     · rw [if_pos hx]
       simp only [delS,if_pos hp]
       rw [getS_none,hx,← hp]
       exact h.1
     · simp only [delS,if_pos hp,if_neg hx,getS,show ¬ p.1=x from fun e=>hx (e.symm.trans hp),if_false]
   · by_cases hx:p.1=x
     · simp only [delS,if_neg hp,getS,if_pos hx,if_neg (show ¬ x=k from fun e=>hp (hx.trans e))]
     · simp only [delS,if_neg hp,getS,if_neg hx,ih]
theorem delS_none {k:ByteArray}:∀ {kvs:Kvs},getS k kvs=none→delS k kvs=kvs
 | [],_=>rfl
 | p :: r,h=>by
   by_cases hp:p.1=k
   · simp [getS,hp] at h
   · simp only [getS,if_neg hp] at h
     simp [delS,hp,delS_none h]
theorem delS_erase {k:ByteArray}:∀ {kvs:Kvs} {l:List MapEntry} {i:Nat},l.map (fun e=>(e.key,e.val))=kvs.map (fun p=>(Value.string p.1,p.2)) →
 (∀ j e,l[j]?=some e→e.key=.string k→j < i→False)→(∃ e,l[i]?=some e∧e.key=.string k) →
 (l.eraseIdx i).map (fun e=>(e.key,e.val))=(delS k kvs).map (fun p=>(Value.string p.1,p.2))
 | [],[],i,h,_,hi=>by obtain ⟨e,h1,_⟩:=hi;simp at h1
 | [],_ :: _,i,h,_,_=>by simp at h
 | p :: r,[],i,h,_,_=>by simp at h
 | p :: r,e :: l,i,h,hj,hi=>by
   simp only [List.map_cons,List.cons.injEq,Prod.mk.injEq] at h
   obtain ⟨⟨hk,hv⟩,hr⟩:=h
   by_cases hp:p.1=k
   · cases i with
     | zero=>simp [delS,hp,hr]
     | succ i=>exact absurd (hj 0 e rfl (by rw [hk,hp]) (by omega)) (fun h=>h)
   · cases i with
     | zero =>
       obtain ⟨e',h1,h2⟩:=hi
       simp only [List.getElem?_cons_zero,Option.some.injEq] at h1
       subst h1
       rw [hk] at h2
       injection h2 with h2
       exact absurd h2 hp
     | succ i =>
       have:=delS_erase (kvs:=r) (l:=l) (i:=i) hr (fun j e hj1 hj2 hj3=>hj (j + 1) e (by simpa using hj1) hj2 (by omega)) (by simpa using hi)
       simp [delS,hp,hk,hv,this]
def StrOpen (w:World) (b:Nat) (kvs:Kvs) (k:ByteArray) (st:Nat):Prop :=
 ∃ es ck i,w.heap[b]?=some (.map es ck)∧(es.toList.map (·.born)).Nodup∧(∀ e ∈ es.toList,e.born < ck)∧(∃ e,es.toList[i]?=some e∧e.born=st)∧(kvs.map (·.1)).Nodup ∧
   ∀ v,(es.toList.modify i (fun e=>{ e with val:=v })).map (fun e=>(e.key,e.val))=(putS k v kvs).map (fun p=>(Value.string p.1,p.2))
theorem map_born_modify {f:MapEntry→MapEntry} (hf:∀ e,(f e).born=e.born):∀ (l:List MapEntry) (i:Nat),(l.modify i f).map (·.born)=l.map (·.born)
 | [],i=>by simp
 | e :: l,0=>by simp [hf]
 | e :: l,i + 1=>by simp [map_born_modify hf l i]
theorem modify_id {f:MapEntry→MapEntry}:∀ (l:List MapEntry) (i:Nat),(∀ e,l[i]?=some e→f e=e)→l.modify i f=l
 | [],i,_=>by simp
 | e :: l,0,h=>by simp [h e rfl]
 | e :: l,i + 1,h=>by simp [modify_id l i (fun e he=>h e (by simpa using he))]
theorem modify_last (l:List MapEntry) (e:MapEntry) (f:MapEntry→MapEntry):(l ++ [e]).modify l.length f=l ++ [f e]:=by
 induction l with
 | nil=>simp
 | cons a l ih=>simp [ih]
theorem run_mapEntry_str {b:Nat} {kvs:Kvs} {t k e:TypeId} {z:Value} {x:ByteArray} (h:StrMap w b kvs) (ht:P.underlying t=some (.map k e)) (hk:P.underlying k=some .string)
 (hz:(zeroValue e).run P w=.ok z w):∃ v0 st w',(Instr.mapEntry t (.map (some b)) (.string x)).run P w=.ok (.tuple #[v0,.int .i64 (st:Nat)]) w'∧StrOpen w' b kvs x st∧w.grownBy w' (some b):=by
 obtain ⟨es,ck,hb,he,hn,hlt,hnk⟩:=h
 obtain ⟨r,h1,h2,h3⟩:=findNow_str (k:=x) es.toList kvs 0 he
 have hkey:IsKey .string (.string x):=by simp [IsKey]
 have hfk:=run_findKey (P:=P) (w:=w) hk h1
 have hck:=run_checkKey (P:=P) (w:=w) hk hkey false 9999
 cases hg:getS x kvs with
 | none =>
   obtain rfl:=h2 hg
   refine ⟨z,ck,setBlock w b (.map (es.push { key:=.string x,val:=z,born:=ck }) (ck + 1)),?_,⟨_,_,es.toList.length,heap_setBlock_same hb _,?_,?_,⟨_,by rw [Array.toList_push];exact List.getElem?_concat_length,rfl⟩,hnk,fun v=>?_⟩,
    ⟨rfl,rfl,rfl,by simp [setBlock],fun i _ hi=>heap_setBlock_other hb _ (fun e=>hi (by rw [e]))⟩⟩
   · unfold Instr.mapEntry
     simp only [Sem.run_bind,run_underlying ht,Result.andThen,Go.MapKept.run_getObj_map hb,hck,hfk,hz,Go.MapKept.run_setObj_map _ hb,Sem.run_pure]
     rfl
   · rw [Array.toList_push,List.map_append,List.nodup_append]
     refine ⟨hn,by simp,fun a ha c hc=>?_⟩
     simp only [List.map_cons,List.map_nil,List.mem_singleton] at hc
     simp only [List.mem_map] at ha
     obtain ⟨e',he',rfl⟩:=ha
     have:=hlt e' he'
     omega
   · intro e' he'
     rw [Array.toList_push,List.mem_append,List.mem_singleton] at he'
     rcases he' with he' | rfl
     · have:=hlt e' he';omega
     · exact Nat.lt_succ_self _
   · rw [Array.toList_push,modify_last,putS_new hg,List.map_append,List.map_append,he]
     rfl
 | some v0 =>
   obtain ⟨j,e0,rfl,h5,h6,h7,h8⟩:=h3 v0 hg
   simp only [Nat.zero_add] at hfk h1
   have hmod:es.modify j (fun e=>{ e with key:=Value.string x })=es:=by
    apply Array.toList_inj.1
    rw [Array.toList_modify]
    refine modify_id _ _ (fun e he=>?_)
    rw [h5] at he
    injection he with he
    subst he
    rw [← h6]
   have h5':es[j]?=some e0:=by rw [← Array.getElem?_toList];exact h5
   have hsb:Instr.sameBits 10000 (.string x) (.string x)=true:=by simp [Instr.sameBits,bytes_beq]
   refine ⟨v0,e0.born,setBlock w b (.map es ck),?_,⟨es,ck,j,heap_setBlock_same hb _,hn,hlt,⟨e0,h5,rfl⟩,hnk,fun v=>putS_old he hg h8 ⟨e0,h5,h6⟩⟩,
    ⟨rfl,rfl,rfl,by simp [setBlock],fun i _ hi=>heap_setBlock_other hb _ (fun e=>hi (by rw [e]))⟩⟩
   unfold Instr.mapEntry
   simp only [Sem.run_bind,run_underlying ht,Result.andThen,Go.MapKept.run_getObj_map hb,hck,hfk,h5',Option.map_some,Option.getD_some,h6,Instr.keyThatStays,hsb,if_true,Sem.run_pure,hmod,Go.MapKept.run_setObj_map _ hb]
   rfl
theorem run_entryStore_str {b:Nat} {kvs:Kvs} {t:TypeId} {v:Value} {x:ByteArray} {st:Nat} (h:StrOpen w b kvs x st) :
 ∃ w',(Instr.entryStore t (.map (some b)) (.int .i64 (st:Nat)) v).run P w=.ok () w'∧StrMap w' b (putS x v kvs)∧w.grownBy w' (some b):=by
 obtain ⟨es,ck,i,hb,hn,hlt,⟨e0,he0,rfl⟩,hnk,hm⟩:=h
 have hf':es.findIdx? (fun e=>(e.born:Int) == (e0.born:Int))=some i:=by
  rw [Array.findIdx?_eq_some_iff_getElem]
  obtain ⟨hi,hie⟩:=List.getElem?_eq_some_iff.1 he0
  have hi':i < es.size:=by simpa using hi
  refine ⟨hi',by
   have:es[i]=e0:=by rw [← Array.getElem_toList];exact hie
   rw [this];simp,fun j hji=>?_⟩
  have hj:j < es.toList.length:=by omega
  have hne:es.toList[j].born ≠ e0.born:=fun e=>by
   have h1:(es.toList.map (·.born))[j]'(by simpa using hj)=(es.toList.map (·.born))[i]'(by simpa using hi):=by
        simp only [List.getElem_map,hie];exact e
   exact List.pairwise_iff_getElem.1 hn j i (by simpa using hj) (by simpa using hi) hji h1
  rw [Array.getElem_toList] at hne
  simp only [beq_iff_eq]
  intro h
  exact hne (by omega)
 refine ⟨setBlock w b (.map (es.modify i fun e=>{ e with val:=v }) ck),?_,⟨_,_,heap_setBlock_same hb _,?_,?_,?_,nodup_putS hnk⟩,⟨rfl,rfl,rfl,by simp [setBlock],fun i _ hi=>heap_setBlock_other hb _ (fun e=>hi (by rw [e]))⟩⟩
 · unfold Instr.entryStore
   simp only [Sem.run_bind,Go.MapKept.run_getObj_map hb,Result.andThen,asInt,asIntOf,Sem.run_pure,hf',Go.MapKept.run_setObj_map _ hb]
   rfl
 · rw [Array.toList_modify];exact hm v
 · rw [Array.toList_modify,map_born_modify (f:=fun e=>{ e with val:=v }) (fun _=>rfl)];exact hn
 · intro e he
   have:e.born ∈ es.toList.map (·.born):=by
    rw [← map_born_modify (f:=fun e=>{ e with val:=v }) (fun _=>rfl) es.toList i,← Array.toList_modify]
    exact List.mem_map_of_mem he
   obtain ⟨e',h1,h2⟩:=List.mem_map.1 this
   have:=hlt e' h1
   omega
theorem run_delete_str {b:Nat} {kvs:Kvs} {t k e:TypeId} {x:ByteArray} (h:StrMap w b kvs) (ht:P.underlying t=some (.map k e)) (hk:P.underlying k=some .string) (kt:TypeId) (ty:TypeId) :
 ∃ w',(Builtin.delete_ #[t,kt] ty #[.map (some b),.string x]).run P w=.ok (.tuple #[]) w'∧StrMap w' b (delS x kvs)∧w.grownBy w' (some b):=by
 obtain ⟨es,ck,hb,he,hn,hlt,hnk⟩:=h
 obtain ⟨r,h1,h2,h3⟩:=findNow_str (k:=x) es.toList kvs 0 he
 have hkey:IsKey .string (.string x):=by simp [IsKey]
 have hfk:=run_findKey (P:=P) (w:=w) hk h1
 have hck:=run_checkKey (P:=P) (w:=w) hk hkey es.isEmpty 9999
 have hgr:∀ o:Obj,w.grownBy (setBlock w b o) (some b):=fun o=>⟨rfl,rfl,rfl,by simp [setBlock],fun i _ hi=>heap_setBlock_other hb _ (fun e=>hi (by rw [e]))⟩
 cases hg:getS x kvs with
 | none =>
   obtain rfl:=h2 hg
   refine ⟨setBlock w b (.map es ck),?_,⟨es,ck,heap_setBlock_same hb _,by rw [delS_none hg];exact he,hn,hlt,by rw [delS_none hg];exact hnk⟩,hgr _⟩
   simp [Builtin.delete_,run_underlying ht,Result.andThen,Go.MapKept.run_getObj_map hb,hck,hfk,Go.MapKept.run_setObj_map _ hb]
   rfl
 | some v0 =>
   obtain ⟨j,e0,rfl,h5,h6,h7,h8⟩:=h3 v0 hg
   simp only [Nat.zero_add] at hfk h1
   refine ⟨setBlock w b (.map (es.eraseIdxIfInBounds j) ck),?_,⟨_,ck,heap_setBlock_same hb _,?_,?_,?_,hnk.sublist keys_delS⟩,hgr _⟩
   · simp [Builtin.delete_,run_underlying ht,Result.andThen,Go.MapKept.run_getObj_map hb,hck,hfk,Go.MapKept.run_setObj_map _ hb]
     rfl
   · rw [Array.toList_eraseIdxIfInBounds];exact delS_erase he h8 ⟨e0,h5,h6⟩
   · rw [Array.toList_eraseIdxIfInBounds];exact hn.sublist ((List.eraseIdx_sublist _ _).map _)
   · intro e hm
     rw [Array.toList_eraseIdxIfInBounds] at hm
     exact hlt e ((List.eraseIdx_sublist _ _).mem hm)
theorem wpList_lookup_str {ops:Array Oper} {rest:List Oper} {o:Oper} {a:Act} {Q:Exit→Act→World→Prop} (hg:o.guard=none) (m x:Operand) (t:TypeId) (hop:o.op=Op.lookup t m x false)
 (k e:TypeId) (ht:P.underlying t=some (.map k e)) (hk:P.underlying k=some .string) (z:Value) (hz:(zeroValue e).run P w=.ok z w) (b:Nat) (kvs:Kvs) (hm:a.eval m=.map (some b)) (h:StrMap w b kvs)
 (n:ByteArray) (hx:a.eval x=.string n) (hK:wpList P ops Q rest (a.put o.dst ((getS n kvs).getD z)) w):wpList P ops Q (o :: rest) a w:=by
 refine wpList_plain hg fun K' hK'=>?_
 have hrun:=run_lookup_str (P:=P) (x:=n) h ht hk hz false
 unfold Oper.wp
 simp [execOp,hop,hm,hx,hrun,Result.andThen]
 exact hK' _ _ hK
theorem wpList_lookup_str_ok {ops:Array Oper} {rest:List Oper} {o:Oper} {a:Act} {Q:Exit→Act→World→Prop} (hg:o.guard=none) (m x:Operand) (t:TypeId) (hop:o.op=Op.lookup t m x true)
 (k e:TypeId) (ht:P.underlying t=some (.map k e)) (hk:P.underlying k=some .string) (z:Value) (hz:(zeroValue e).run P w=.ok z w) (b:Nat) (kvs:Kvs) (hm:a.eval m=.map (some b)) (h:StrMap w b kvs)
 (n:ByteArray) (hx:a.eval x=.string n) (v:Value) (ok:Bool) (hv:(getS n kvs).getD z=v) (ho:(getS n kvs).isSome=ok) (hK:wpList P ops Q rest (a.put o.dst (.tuple #[v,.bool ok])) w):wpList P ops Q (o :: rest) a w:=by
 refine wpList_plain hg fun K' hK'=>?_
 have hrun:=run_lookup_str (P:=P) (x:=n) h ht hk hz true
 rw [hv,ho] at hrun
 unfold Oper.wp
 simp [execOp,hop,hm,hx,hrun,Result.andThen]
 exact hK' _ _ hK
theorem wpList_mapEntry_str {ops:Array Oper} {rest:List Oper} {o:Oper} {a:Act} {Q:Exit→Act→World→Prop} (hg:o.guard=none) (m x:Operand) (t:TypeId) (hop:o.op=Op.mapEntry t m x)
 (k e:TypeId) (ht:P.underlying t=some (.map k e)) (hk:P.underlying k=some .string) (z:Value) (hz:(zeroValue e).run P w=.ok z w) (b:Nat) (kvs:Kvs) (hm:a.eval m=.map (some b)) (h:StrMap w b kvs)
 (n:ByteArray) (hx:a.eval x=.string n) (hK:∀ v0 (st:Nat) w',StrOpen w' b kvs n st→w.grownBy w' (some b)→wpList P ops Q rest (a.put o.dst (.tuple #[v0,.int .i64 (st:Int)])) w'):wpList P ops Q (o :: rest) a w:=by
 refine wpList_plain hg fun K' hK'=>?_
 obtain ⟨v0,st,w',hrun,r1,r2⟩:=run_mapEntry_str (P:=P) (x:=n) h ht hk hz
 unfold Oper.wp
 simp [execOp,hop,hm,hx,hrun,Result.andThen]
 exact hK' _ _ (hK v0 st w' r1 r2)
theorem wpList_entryStore_str {ops:Array Oper} {rest:List Oper} {o:Oper} {a:Act} {Q:Exit→Act→World→Prop} (hg:o.guard=none) (m s v:Operand) (t:TypeId) (hop:o.op=Op.entryStore t m s v)
 (b:Nat) (kvs:Kvs) (n:ByteArray) (st:Nat) (hm:a.eval m=.map (some b)) (h:StrOpen w b kvs n st) (hs:a.eval s=.int .i64 (st:Int)) (val:Value) (hv:a.eval v=val)
 (hK:∀ w',StrMap w' b (putS n val kvs)→w.grownBy w' (some b)→wpList P ops Q rest (a.put o.dst undef) w'):wpList P ops Q (o :: rest) a w:=by
 refine wpList_plain hg fun K' hK'=>?_
 obtain ⟨w',hrun,r1,r2⟩:=run_entryStore_str (P:=P) (t:=t) (v:=val) h
 unfold Oper.wp
 simp [execOp,hop,hm,hs,hv,hrun,Result.andThen]
 exact hK' _ _ (hK w' r1 r2)
theorem wpList_delete_str {ops:Array Oper} {rest:List Oper} {o:Oper} {a:Act} {Q:Exit→Act→World→Prop} (hg:o.guard=none) (m x:Operand) (t kt:TypeId) (hop:o.op=Op.call { callee:=Callee.builtin Builtin.delete,args:=#[m,x],argTypes:=#[t,kt] })
 (k e:TypeId) (ht:P.underlying t=some (.map k e)) (hk:P.underlying k=some .string) (b:Nat) (kvs:Kvs) (hm:a.eval m=.map (some b)) (h:StrMap w b kvs)
 (n:ByteArray) (hx:a.eval x=.string n) (hK:∀ w',StrMap w' b (delS n kvs)→w.grownBy w' (some b)→wpList P ops Q rest (a.put o.dst (.tuple #[])) w'):wpList P ops Q (o :: rest) a w:=by
 refine wpList_plain hg fun K' hK'=>?_
 obtain ⟨w',hrun,r1,r2⟩:=run_delete_str (P:=P) (x:=n) h ht hk kt o.type
 unfold Oper.wp
 simp [execOp,hop,resolve,invoke,builtin,hm,hx,hrun,Result.andThen]
 exact hK' _ _ (hK w' r1 r2)
end
end Go.Proofs.YtkgflepgkhnclaaGreatDoor
namespace Go.Proofs.YtkgflepgkhnclaaGreatDoor
set_option linter.unusedVariables false
set_option linter.unusedSimpArgs false
open Go.RowKit Go.Shelf
theorem size_b (k v:ByteArray) (w:World) (hk:k.size ≤ 1000) (hv:v.size ≤ 1000):Calls Tryz.prog 173 #[.string k,.string v] w (StayV (.int .u64 ((k.size + v.size:Nat):Int)) w):=by
 have h1:IntKind.i64.wrap ((k.size:Int) + (v.size:Int))=((k.size + v.size:Nat):Int):=by rw [IntWalk.i64_in _ (by omega)];omega
 have h2:IntKind.u64.wrap ((k.size + v.size:Nat):Int)=((k.size + v.size:Nat):Int):=by rw [IntKind.wrap_u64];omega
 generalize ((k.size + v.size:Nat):Int)=z at h1 h2 ⊢
 clear hk hv
 go_enter Tryz.func173,Tryz.ntmps173
 go_wp2
 go_ret
 exact ⟨rfl,rfl⟩
theorem none_b {w:World} {o:Ow} {B:Bk} (h:BkAt w o B):Calls Tryz.prog 67 #[.pointer (some ⟨o.b,0,none⟩)] w (StayV (.bool false) w):=by
 obtain ⟨A,c,h1,h2⟩:=h.row
 have c1:w.cell? ⟨o.b,1,none⟩=some (.map (some o.m)):=h1.cell 1
 have hq:=fun w=>run_eql_map_nil (P:=Tryz.prog) w 132 _ _ (some o.m) Tryz.underlying132
 clear h h1 h2
 go_enter Tryz.func67,Tryz.ntmps67
 go_wp2
 go_ret
 exact ⟨rfl,rfl⟩
theorem short1_b (n:Int) (s:ByteArray) (b:Nat) (w:World) (h:w.cell? ⟨b,0,none⟩=some (.int .i64 n)):Calls Tryz.prog 236 #[.string s,.pointer (some ⟨b,0,none⟩)] w (StayV (.bool (decide (n < (s.size:Int)))) w):=by
 go_enter Tryz.func236,Tryz.ntmps236
 go_wp2
 go_ret
 exact ⟨rfl,rfl⟩
def longS (n:Int) (l:List ByteArray):Bool:=l.any (fun s=>decide (n < (s.size:Int)))
def StrsAt (w:World) (A:Option Addr) (l:List ByteArray):Prop:=l ≠ []→∃ g,A=some ⟨g,0,none⟩∧∀ i,(h:i < l.length)→w.cell? ⟨g,i,none⟩=some (.string l[i])
set_option maxHeartbeats 1600000 in
theorem index_b (n:Int) (l:List ByteArray) (A:Option Addr) (c b:Nat) (w:World) (hA:StrsAt w A l) (h:w.cell? ⟨b,0,none⟩=some (.int .i64 n)) (hl:l.length ≤ 1000) :
 Calls Tryz.prog 255 #[.slice A l.length c,.func (.func 236) #[] #[.pointer (some ⟨b,0,none⟩)]] w fun e w'=>∃ k:Int,e=.returned (.int .i64 k)∧decide (0 ≤ k)=longS n l∧w'=w:=by
 have HA:=Lib.hid hA
 have HH:=Lib.hid h
 clear hA h
 go_enter Tryz.func255,Tryz.ntmps255
 go_wp2
 go_loop [8] (fun v=>∃ k:Nat,k ≤ l.length∧v=.int .i64 k∧longS n (l.take k)=false) (fun v=>l.length - (intOf v).toNat)
 case atStart=>exact ⟨0,Nat.zero_le _,rfl,rfl⟩
 case round =>
  obtain ⟨k,hk,rfl,hlo⟩:=hrel
  by_cases hlt:k < l.length
  · obtain ⟨g,rfl,hc⟩:=HA.out (fun e=>by rw [e] at hlt;simp at hlt)
    have ck:=hc k hlt
    have et:l.take (k + 1)=l.take k ++ [l[k]]:=by rw [List.take_add_one,List.getElem?_eq_getElem hlt];rfl
    obtain ⟨x,hx⟩:∃ x,l[k]=x:=⟨_,rfl⟩
    rw [hx] at et ck
    have HC:=Lib.hid (short1_b n x b w HH.out)
    have HT:=Lib.hid et
    have HLO:=Lib.hid hlo
    have HX:=Lib.hid (show x ∈ l from hx ▸ List.getElem_mem _)
    clear hc hlo et hx
    by_cases hlong:n < (x.size:Int)
    · rw [decide_eq_true hlong] at HC
      have HL:=Lib.hid hlong
      clear hlong
      go_wp2_with (go_at_call 236;refine HC.out.mono ?_;rintro e w1 ⟨rfl,rfl⟩)
      go_ret
      refine ⟨_,rfl,?_,rfl⟩
      have:longS n l=true:=List.any_eq_true.2 ⟨x,HX.out,decide_eq_true HL.out⟩
      rw [this]
      simp
    · rw [decide_eq_false hlong] at HC
      have HL:=Lib.hid hlong
      clear hlong
      go_wp2_with (go_at_call 236;refine HC.out.mono ?_;rintro e w1 ⟨rfl,rfl⟩)
      go_round
      case rel=>exact ⟨k + 1,by omega,by go_num,by
       rw [HT.out]
       unfold longS at HLO ⊢
       rw [List.any_append,HLO.out]
       simp [HL.out]⟩
      case measure=>simp [intOf];omega
  · obtain rfl:k=l.length:=by omega
    have HLO:=Lib.hid hlo
    clear hlo
    go_wp2
    go_ret
    refine ⟨_,rfl,?_,rfl⟩
    have:=HLO.out
    rw [List.take_length] at this
    rw [this]
    rfl
theorem contains_b (n:Int) (l:List ByteArray) (A:Option Addr) (c b:Nat) (w:World) (hA:StrsAt w A l) (h:w.cell? ⟨b,0,none⟩=some (.int .i64 n)) (hl:l.length ≤ 1000) :
 Calls Tryz.prog 235 #[.slice A l.length c,.func (.func 236) #[] #[.pointer (some ⟨b,0,none⟩)]] w (StayV (.bool (longS n l)) w):=by
 have HC:=Lib.hid (index_b n l A c b w hA h hl)
 clear hA h
 go_enter Tryz.func235,Tryz.ntmps235
 go_wp2_with (go_at_call 255;refine HC.out.mono ?_;rintro e w1 ⟨k,rfl,hk,rfl⟩;have HK:=Lib.hid hk;clear hk)
 go_ret
 exact ⟨by rw [← HK.out];simp,rfl⟩
theorem StrsAt.below {w w':World} {A:Option Addr} {l:List ByteArray} (h:StrsAt w A l) (hb:Below w.heap.size w w'):StrsAt w' A l:=fun hne=>by
 obtain ⟨g,rfl,hc⟩:=h hne
 refine ⟨g,rfl,fun i hi=>(hb.cell ?_).trans (hc i hi)⟩
 exact World.block_lt_of_cell? w _ (hc i hi)
theorem StrsAt.nil {w:World} {A:Option Addr}:StrsAt w A []:=fun h=>absurd rfl h
theorem short_b (n:Int) (l:List ByteArray) (A:Option Addr) (c:Nat) (w:World) (hA:StrsAt w A l) (hl:l.length ≤ 1000) :
 Calls Tryz.prog 210 #[.int .i64 n,.slice A l.length c] w (BoolB (!longS n l) w):=by
 have hb:=Blk.new w 3 #[.int .i64 n]
 have hA':StrsAt (w.alloc (.cells #[.int .i64 n] 3)) A l:=hA.below ((Below.refl _ _).alloc (Nat.le_refl _) _)
 have HC:=Lib.hid (contains_b n l A c w.heap.size _ hA' (hb.cell 0) hl)
 clear hA hb hA'
 go_enter Tryz.func210,Tryz.ntmps210
 go_wp2_with (go_at_call 235;refine HC.out.mono ?_;rintro e w1 ⟨rfl,rfl⟩)
 go_ret
 exact ⟨rfl,(Below.refl _ _).alloc (Nat.le_refl _) _⟩
def mayN (key:ByteArray) (vs:List ByteArray):Int:=if 16 < key.size ∨ longS 32 vs=true then 2 else 0
def IntB (n:Int) (w:World) (e:Ending) (w':World):Prop:=e=.returned (.int .i64 n)∧Below w.heap.size w w'
set_option maxHeartbeats 1600000 in
theorem may_b {w:World} {o:Ow} {B:Bk} (h:BkAt w o B) (key:ByteArray) (vs:List ByteArray) (A:Option Addr) (c:Nat) (hA:StrsAt w A vs) (hl:vs.length ≤ 1000) :
 Calls Tryz.prog 172 #[.pointer (some ⟨o.b,0,none⟩),.string key,.slice A vs.length c] w (IntB (mayN key vs) w):=by
 have HN:=Lib.hid (none_b h)
 have hk:StrsAt (w.alloc (.cells #[.string key] 9)) (some ⟨w.heap.size,0,none⟩) [key]:=fun _=>⟨w.heap.size,rfl,fun i hi=>by
  obtain rfl:i=0:=by simpa using hi
  exact (Blk.new w 9 #[.string key]).cell 0⟩
 have HS:=Lib.hid (short_b 16 [key] (some ⟨w.heap.size,0,none⟩) 1 _ hk (by simp))
 have hb:=(Below.refl w.heap.size w).alloc (Nat.le_refl _) (.cells #[.string key] 9)
 have HA:=Lib.hid hA
 have HB:=Lib.hid hb
 clear h hA hk hb
 go_enter Tryz.func172,Tryz.ntmps172
 go_wp2_with (go_at_call 67;refine HN.out.mono ?_;rintro e w1 ⟨rfl,rfl⟩)
 have HQ:Hid (longS 16 [key]=decide (16 < key.size)):=Lib.hid (by simp [longS];omega)
 by_cases hlong:16 < key.size
 · rw [HQ.out,decide_eq_true hlong] at HS
   have HL:=Lib.hid hlong
   clear hlong
   go_wp2_with (go_at_call 210;refine HS.out.mono ?_;rintro e w1 ⟨rfl,hb1⟩;have HB1:=Lib.hid hb1;clear hb1)
   go_ret
   exact ⟨by unfold mayN;rw [if_pos (.inl HL.out)];rfl,HB.out.trans (HB1.out.mono HB.out.size)⟩
 · rw [HQ.out,decide_eq_false hlong] at HS
   have HL:=Lib.hid hlong
   clear hlong
   go_wp2_with fail
   refine HS.out.mono ?_
   rintro e w2 ⟨rfl,hb1⟩
   have HB2:=Lib.hid (HB.out.trans (hb1.mono HB.out.size))
   clear hb1
   have HV:=Lib.hid (short_b 32 vs A c w2 (HA.out.below HB2.out) hl)
   by_cases hv:longS 32 vs=true
   · have HE:Hid (mayN key vs=2):=Lib.hid (by unfold mayN;rw [if_pos (.inr hv)])
     rw [hv] at HV
     clear hv
     go_wp2_with (go_at_call 210;refine HV.out.mono ?_;rintro e w3 ⟨rfl,hb1⟩;have HB3:=Lib.hid (HB2.out.trans (hb1.mono HB2.out.size));clear hb1)
     go_ret
     exact ⟨by rw [HE.out];rfl,HB3.out⟩
   · have HE:Hid (mayN key vs=0):=Lib.hid (by unfold mayN;rw [if_neg (fun h=>h.elim HL.out hv)])
     rw [Bool.not_eq_true] at hv
     rw [hv] at HV
     clear hv
     go_wp2_with (go_at_call 210;refine HV.out.mono ?_;rintro e w3 ⟨rfl,hb1⟩;have HB3:=Lib.hid (HB2.out.trans (hb1.mono HB2.out.size));clear hb1)
     go_ret
     exact ⟨by rw [HE.out];rfl,HB3.out⟩
end Go.Proofs.YtkgflepgkhnclaaGreatDoor
namespace Go.Proofs.YtkgflepgkhnclaaGreatDoor
set_option linter.unusedVariables false
set_option linter.unusedSimpArgs false
open Go.Shelf
def laysSearch_ren:Go.Shelf.Ren:=⟨fun | 26=>213 | 33=>239 | 34=>240 | 38=>257 | n=>n,fun | 24=>93 | 9=>9 | 3=>3 | 4=>4 | 40=>97 | 0=>0 | n=>n,fun | n=>n⟩
theorem laysSearch:Go.Proofs.Lays2.n26 Tryz.prog laysSearch_ren:={
 mixed:=by kernel_rfl
 f26:=Tryz.func213.trans (congrArg some (by kernel_rfl))
 f33:=Tryz.func239.trans (congrArg some (by kernel_rfl))
 f34:=Tryz.func240.trans (congrArg some (by kernel_rfl))
 f38:=Tryz.func257.trans (congrArg some (by kernel_rfl))
 t0:=Tryz.underlying0
 a0:=Tryz.isAgg0
 z0:=Tryz.sizeOf0
 v0:=Tryz.zeroValue0
 t3:=Tryz.underlying3
 a3:=Tryz.isAgg3
 z3:=Tryz.sizeOf3
 v3:=Tryz.zeroValue3
 t4:=Tryz.underlying4
 a4:=Tryz.isAgg4
 z4:=Tryz.sizeOf4
 v4:=Tryz.zeroValue4
 t9:=Tryz.underlying9
 a9:=Tryz.isAgg9
 z9:=Tryz.sizeOf9
 v9:=Tryz.zeroValue9
 t24:=Tryz.underlying93
 a24:=Tryz.isAgg93
 z24:=Tryz.sizeOf93
 v24:=Tryz.zeroValue93
 t40:=Tryz.underlying97
 a40:=Tryz.isAgg97
 z40:=Tryz.sizeOf97
 v40:=Tryz.zeroValue97 }
def laysInsert_ren:Go.Shelf.Ren:=⟨fun | 22=>211 | 29=>237 | 30=>238 | 36=>256 | 17=>270 | n=>n,fun | 24=>93 | 9=>9 | 3=>3 | 4=>4 | 0=>0 | n=>n,fun | n=>n⟩
theorem laysInsert:Go.Proofs.Lays2.n22 Tryz.prog laysInsert_ren:={
 mixed:=by kernel_rfl
 f17:=Tryz.func270.trans (congrArg some (by kernel_rfl))
 f22:=Tryz.func211.trans (congrArg some (by kernel_rfl))
 f29:=Tryz.func237.trans (congrArg some (by kernel_rfl))
 f30:=Tryz.func238.trans (congrArg some (by kernel_rfl))
 f36:=Tryz.func256.trans (congrArg some (by kernel_rfl))
 t0:=Tryz.underlying0
 a0:=Tryz.isAgg0
 z0:=Tryz.sizeOf0
 v0:=Tryz.zeroValue0
 t3:=Tryz.underlying3
 a3:=Tryz.isAgg3
 z3:=Tryz.sizeOf3
 v3:=Tryz.zeroValue3
 t4:=Tryz.underlying4
 a4:=Tryz.isAgg4
 z4:=Tryz.sizeOf4
 v4:=Tryz.zeroValue4
 t9:=Tryz.underlying9
 a9:=Tryz.isAgg9
 z9:=Tryz.sizeOf9
 v9:=Tryz.zeroValue9
 t24:=Tryz.underlying93
 a24:=Tryz.isAgg93
 z24:=Tryz.sizeOf93
 v24:=Tryz.zeroValue93
 i9:=by kernel_rfl }
def laysDelete_ren:Go.Shelf.Ren:=⟨fun | 24=>212 | n=>n,fun | 24=>93 | 9=>9 | 3=>3 | 4=>4 | 0=>0 | n=>n,fun | n=>n⟩
theorem laysDelete:Go.Proofs.Lays2.n24 Tryz.prog laysDelete_ren:={
 mixed:=by kernel_rfl
 f24:=Tryz.func212.trans (congrArg some (by kernel_rfl))
 t0:=Tryz.underlying0
 a0:=Tryz.isAgg0
 z0:=Tryz.sizeOf0
 v0:=Tryz.zeroValue0
 t3:=Tryz.underlying3
 a3:=Tryz.isAgg3
 z3:=Tryz.sizeOf3
 v3:=Tryz.zeroValue3
 t4:=Tryz.underlying4
 a4:=Tryz.isAgg4
 z4:=Tryz.sizeOf4
 v4:=Tryz.zeroValue4
 t9:=Tryz.underlying9
 a9:=Tryz.isAgg9
 z9:=Tryz.sizeOf9
 v9:=Tryz.zeroValue9
 t24:=Tryz.underlying93
 a24:=Tryz.isAgg93
 z24:=Tryz.sizeOf93
 v24:=Tryz.zeroValue93
 i9:=by kernel_rfl }
def laysClone_ren:Go.Shelf.Ren:=⟨fun | 16=>83 | n=>n,fun | 24=>93 | 9=>9 | 4=>4 | n=>n,fun | n=>n⟩
theorem laysClone:Go.Proofs.Lays2.n16 Tryz.prog laysClone_ren:={
 mixed:=by kernel_rfl
 f16:=Tryz.func83.trans (congrArg some (by kernel_rfl))
 t4:=Tryz.underlying4
 a4:=Tryz.isAgg4
 z4:=Tryz.sizeOf4
 v4:=Tryz.zeroValue4
 t9:=Tryz.underlying9
 a9:=Tryz.isAgg9
 z9:=Tryz.sizeOf9
 v9:=Tryz.zeroValue9
 t24:=Tryz.underlying93
 a24:=Tryz.isAgg93
 z24:=Tryz.sizeOf93
 v24:=Tryz.zeroValue93
 i9:=by kernel_rfl }
def laysMaps_ren:Go.Shelf.Ren:=⟨fun | 5=>84 | 7=>145 | n=>n,fun | 23=>132 | 25=>9 | 3=>135 | 4=>4 | 20=>20 | n=>n,fun | n=>n⟩
theorem laysMaps:Go.Proofs.SlLaysW.n5 Tryz.prog laysMaps_ren:={
 mixed:=by kernel_rfl
 f5:=⟨Tryz.f84.name,by decide,Tryz.func84.trans (congrArg some (by kernel_rfl))⟩
 f7:=Tryz.func145.trans (congrArg some (by kernel_rfl))
 t4:=Tryz.underlying4
 a4:=Tryz.isAgg4
 z4:=Tryz.sizeOf4
 v4:=Tryz.zeroValue4
 t20:=Tryz.underlying20
 a20:=Tryz.isAgg20
 z20:=Tryz.sizeOf20
 v20:=Tryz.zeroValue20
 t23:=Tryz.underlying132
 a23:=Tryz.isAgg132
 z23:=Tryz.sizeOf132
 v23:=Tryz.zeroValue132 }
end Go.Proofs.YtkgflepgkhnclaaGreatDoor
namespace Go.Proofs.YtkgflepgkhnclaaGreatDoor
set_option linter.unusedVariables false
set_option linter.unusedSimpArgs false
theorem bl_irrefl:∀ x:List UInt8,Op.bytesLess x x=false
 | []=>rfl
 | a :: x=>by simp [Op.bytesLess,bl_irrefl x]
theorem bl_trans:∀ {x y z:List UInt8},Op.bytesLess x y=true→Op.bytesLess y z=true→Op.bytesLess x z=true
 | [],_,[],_,h=>by simp [Op.bytesLess] at h
 | [],_,_ :: _,_,_=>by simp [Op.bytesLess]
 | _ :: _,[],_,h,_=>by simp [Op.bytesLess] at h
 | _ :: _,_ :: _,[],_,h=>by simp [Op.bytesLess] at h
 | a :: x,b :: y,c :: z,h1,h2=>by
   simp only [Op.bytesLess,Bool.or_eq_true,decide_eq_true_eq,Bool.and_eq_true,beq_iff_eq] at h1 h2 ⊢
   rcases h1 with h1 | ⟨rfl,h1⟩
   · rcases h2 with h2 | ⟨rfl,h2⟩
     · exact .inl (UInt8.lt_trans h1 h2)
     · exact .inl h1
   · rcases h2 with h2 | ⟨rfl,h2⟩
     · exact .inl h2
     · exact .inr ⟨rfl,bl_trans h1 h2⟩
theorem bl_total:∀ {x y:List UInt8},x ≠ y→Op.bytesLess x y=true ∨ Op.bytesLess y x=true
 | [],[],h=>absurd rfl h
 | [],_ :: _,_=>.inl rfl
 | _ :: _,[],_=>.inr rfl
 | a :: x,b :: y,h=>by
   simp only [Op.bytesLess,Bool.or_eq_true,decide_eq_true_eq,Bool.and_eq_true,beq_iff_eq]
   by_cases hab:a=b
   · subst hab
     rcases bl_total (x:=x) (y:=y) (fun e=>h (by rw [e])) with h1 | h1
     · exact .inl (.inr ⟨rfl,h1⟩)
     · exact .inr (.inr ⟨rfl,h1⟩)
   · rcases Nat.lt_or_gt_of_ne (fun e:a.toNat=b.toNat=>hab (UInt8.toNat_inj.1 e)) with h1 | h1
     · exact .inl (.inl h1)
     · exact .inr (.inl h1)
theorem toList_inj {a b:ByteArray} (h:a.toList=b.toList):a=b:=(Lib.bytes_beq_iff a b).1 (by simp [h])
theorem lt_irrefl (a:ByteArray):¬ ltS a a:=fun h=>by unfold ltS at h;rw [bl_irrefl] at h;cases h
theorem lt_trans {a b c:ByteArray} (h:ltS a b) (k:ltS b c):ltS a c:=bl_trans h k
theorem lt_total {a b:ByteArray} (h:a ≠ b):ltS a b ∨ ltS b a:=bl_total (fun e=>h (toList_inj e))
theorem lt_asymm {a b:ByteArray} (h:ltS a b):¬ ltS b a:=fun k=>lt_irrefl a (lt_trans h k)
theorem lt_ne {a b:ByteArray} (h:ltS a b):a ≠ b:=fun e=>lt_irrefl b (e ▸ h)
def posK (x:ByteArray):List ByteArray→Nat
 | []=>0
 | k :: r=>if ltS k x then posK x r + 1 else 0
theorem pos_le {x:ByteArray}:∀ {ks:List ByteArray},posK x ks ≤ ks.length
 | []=>Nat.le_refl _
 | k :: r=>by
   have:=pos_le (x:=x) (ks:=r)
   unfold posK
   split
   · simp;omega
   · simp
theorem pos_lt {x:ByteArray}:∀ {ks:List ByteArray} {t:Nat} (ht:t < ks.length),t < posK x ks→ltS ks[t] x
 | [],_,ht,_=>by simp at ht
 | k :: r,t,ht,h=>by
   unfold posK at h
   split at h
   · rename_i hk
     cases t with
     | zero=>exact hk
     | succ t=>exact pos_lt (ks:=r) (by simpa using ht) (by omega)
   · omega
theorem pos_ge {x:ByteArray}:∀ {ks:List ByteArray},ks.Pairwise ltS→∀ {t:Nat} (ht:t < ks.length),posK x ks ≤ t→¬ ltS ks[t] x
 | [],_,_,ht,_=>by simp at ht
 | k :: r,hs,t,ht,h=>by
   rw [List.pairwise_cons] at hs
   unfold posK at h
   split at h
   · cases t with
     | zero=>omega
     | succ t=>exact pos_ge hs.2 (by simpa using ht) (by omega)
   · rename_i hk
     cases t with
     | zero=>exact hk
     | succ t =>
       have ht':t < r.length:=by simpa using ht
       exact fun h=>hk (lt_trans (hs.1 r[t] (List.getElem_mem _)) h)
theorem pos_mem {x:ByteArray}:∀ {ks:List ByteArray},ks.Pairwise ltS→(x ∈ ks ↔ ks[posK x ks]?=some x)
 | [],_=>by simp [posK]
 | k :: r,hs=>by
   rw [List.pairwise_cons] at hs
   have ih:=pos_mem (x:=x) hs.2
   unfold posK
   split
   · rename_i hk
     rw [List.mem_cons,List.getElem?_cons_succ,← ih]
     exact ⟨fun h=>h.elim (fun e=>absurd e.symm (lt_ne hk)) id,.inr⟩
   · rename_i hk
     rw [List.mem_cons,List.getElem?_cons_zero,Option.some.injEq]
     refine ⟨fun h=>h.elim Eq.symm (fun hm=>absurd (hs.1 x hm) hk),fun h=>.inl h.symm⟩
def putL (k v:ByteArray):List (ByteArray × ByteArray)→List (ByteArray × ByteArray)
 | []=>[(k,v)]
 | p :: r=>if ltS p.1 k then p :: putL k v r else if p.1=k then (k,v) :: r else (k,v) :: p :: r
def delL (k:ByteArray):List (ByteArray × ByteArray)→List (ByteArray × ByteArray)
 | []=>[]
 | p :: r=>if p.1=k then r else p :: delL k r
theorem getL_none {k:ByteArray}:∀ {l:List (ByteArray × ByteArray)},getL k l=none ↔ k ∉ keysL l
 | []=>by simp [getL]
 | p :: r=>by
   by_cases hp:p.1=k
   · simp [getL,hp]
   · have:=getL_none (k:=k) (l:=r)
     simp only [getL,if_neg hp,this,List.map_cons,List.mem_cons,not_or]
     exact ⟨fun h=>⟨fun e=>hp e.symm,h⟩,fun h=>h.2⟩
theorem getL_mem {k v:ByteArray}:∀ {l:List (ByteArray × ByteArray)},getL k l=some v→(k,v) ∈ l
 | [],h=>by cases h
 | p :: r,h=>by
   by_cases hp:p.1=k
   · simp only [getL,if_pos hp,Option.some.injEq] at h
     subst hp h
     exact List.mem_cons_self ..
   · simp only [getL,if_neg hp] at h
     exact List.mem_cons_of_mem _ (getL_mem h)
theorem mem_getL {k v:ByteArray}:∀ {l:List (ByteArray × ByteArray)},(keysL l).Pairwise ltS→(k,v) ∈ l→getL k l=some v
 | [],_,h=>by simp at h
 | p :: r,hs,h=>by
   simp only [List.map_cons,List.pairwise_cons] at hs
   rw [List.mem_cons] at h
   rcases h with rfl | h
   · simp [getL]
   · have:ltS p.1 k:=hs.1 k (List.mem_map_of_mem (f:=(·.1)) h)
     simp only [getL,if_neg (lt_ne this)]
     exact mem_getL hs.2 h
theorem keys_putL {k v:ByteArray}:∀ {l:List (ByteArray × ByteArray)},(keysL l).Pairwise ltS→keysL (putL k v l)=if (getL k l).isSome then keysL l else (keysL l).take (posK k (keysL l)) ++ k :: (keysL l).drop (posK k (keysL l))
 | [],_=>by simp [putL,posK,getL]
 | p :: r,hs=>by
   simp only [List.map_cons,List.pairwise_cons] at hs
   have ih:=keys_putL (k:=k) (v:=v) hs.2
   unfold putL
   by_cases h1:ltS p.1 k
   · rw [if_pos h1]
     simp only [List.map_cons,posK,if_pos h1,ih,getL,if_neg (lt_ne h1)]
     split <;> simp
   · rw [if_neg h1]
     by_cases h2:p.1=k
     · rw [if_pos h2]
       simp [h2,getL]
     · rw [if_neg h2]
       have hlt:ltS k p.1:=(lt_total h2).resolve_left h1
       have hn:getL k r=none:=getL_none.2 (fun hm=>lt_asymm (hs.1 k hm) hlt)
       simp [posK,h1,getL,h2,hn]
theorem lt_putL {a k v:ByteArray} (ha:ltS a k):∀ {l:List (ByteArray × ByteArray)},(∀ x ∈ keysL l,ltS a x)→∀ x ∈ keysL (putL k v l),ltS a x
 | [],_,x,hx=>by simp [putL] at hx;rw [hx];exact ha
 | p :: r,h,x,hx=>by
   simp only [List.map_cons,List.mem_cons] at h
   unfold putL at hx
   split at hx
   · simp only [List.map_cons,List.mem_cons] at hx
     rcases hx with rfl | hx
     · exact h _ (.inl rfl)
     · exact lt_putL ha (fun x hx=>h x (.inr hx)) x hx
   · split at hx
     · simp only [List.map_cons,List.mem_cons] at hx
       rcases hx with rfl | hx
       · exact ha
       · exact h _ (.inr hx)
     · simp only [List.map_cons,List.mem_cons] at hx
       rcases hx with rfl | rfl | hx
       · exact ha
       · exact h _ (.inl rfl)
       · exact h _ (.inr hx)
theorem sorted_putL {k v:ByteArray}:∀ {l:List (ByteArray × ByteArray)},(keysL l).Pairwise ltS→(keysL (putL k v l)).Pairwise ltS
 | [],_=>by simp [putL]
 | p :: r,hs=>by
   have hs0:=hs
   simp only [List.map_cons,List.pairwise_cons] at hs
   unfold putL
   by_cases h1:ltS p.1 k
   · rw [if_pos h1]
     simp only [List.map_cons,List.pairwise_cons]
     exact ⟨lt_putL h1 hs.1,sorted_putL hs.2⟩
   · rw [if_neg h1]
     by_cases h2:p.1=k
     · rw [if_pos h2]
       simp only [List.map_cons,List.pairwise_cons]
       exact ⟨h2 ▸ hs.1,hs.2⟩
     · rw [if_neg h2]
       have hlt:ltS k p.1:=(lt_total h2).resolve_left h1
       simp only [List.map_cons,List.pairwise_cons,List.mem_cons]
       exact ⟨fun x hx=>hx.elim (fun e=>e ▸ hlt) (fun hm=>lt_trans hlt (hs.1 x hm)),hs.1,hs.2⟩
theorem getL_putL {k v x:ByteArray}:∀ {l:List (ByteArray × ByteArray)},getL x (putL k v l)=if x=k then some v else getL x l
 | []=>by
   by_cases h:x=k
   · simp [putL,getL,h]
   · simp only [putL,getL,if_neg h,if_neg (fun e:k=x=>h e.symm)]
 | p :: r=>by
   have ih:=getL_putL (k:=k) (v:=v) (x:=x) (l:=r)
   unfold putL
   split
   · rename_i h1
     by_cases h:p.1=x
     · simp only [getL,if_pos h,if_neg (show ¬ x=k from fun e=>lt_ne h1 (h.trans e))]
     · simp only [getL,if_neg h,ih]
   · split
     · rename_i h2
       by_cases h:x=k
       · simp [getL,h]
       · simp only [getL,if_neg h,if_neg (fun e:k=x=>h e.symm),if_neg (fun e:p.1=x=>h (e.symm.trans h2))]
     · by_cases h:x=k
       · simp [getL,h]
       · simp only [getL,if_neg h,if_neg (fun e:k=x=>h e.symm)]
theorem keys_delL {k:ByteArray}:∀ {l:List (ByteArray × ByteArray)},(keysL l).Pairwise ltS→k ∈ keysL l→keysL (delL k l)=(keysL l).take (posK k (keysL l)) ++ (keysL l).drop (posK k (keysL l) + 1)
 | [],_,h=>by simp at h
 | p :: r,hs,h=>by
   simp only [List.map_cons,List.pairwise_cons] at hs
   by_cases h1:p.1=k
   · simp [delL,h1,posK,lt_irrefl]
   · have hm:k ∈ keysL r:=by
        simp only [List.map_cons,List.mem_cons] at h
        exact h.resolve_left (fun e=>h1 e.symm)
     have hlt:ltS p.1 k:=hs.1 k hm
     have ih:=keys_delL hs.2 hm
     simp [delL,h1,posK,hlt,ih]
theorem delL_sub {k:ByteArray}:∀ {l:List (ByteArray × ByteArray)},(delL k l).Sublist l
 | []=>by simp [delL]
 | p :: r=>by
   by_cases hp:p.1=k
   · simp [delL,hp]
   · simp only [delL,if_neg hp]
     exact delL_sub.cons_cons _
theorem sorted_delL {k:ByteArray} {l:List (ByteArray × ByteArray)} (hs:(keysL l).Pairwise ltS):(keysL (delL k l)).Pairwise ltS:=hs.sublist (delL_sub.map _)
theorem getL_delL {k x:ByteArray}:∀ {l:List (ByteArray × ByteArray)},(keysL l).Pairwise ltS→getL x (delL k l)=if x=k then none else getL x l
 | [],_=>by simp [delL,getL]
 | p :: r,hs=>by
   simp only [List.map_cons,List.pairwise_cons] at hs
   have ih:=getL_delL (k:=k) (x:=x) hs.2
   by_cases hp:p.1=k
   · by_cases hx:x=k
     · rw [if_pos hx]
       simp only [delL,if_pos hp]
       rw [getL_none,hx,← hp]
       exact fun hm=>lt_irrefl _ (hs.1 _ hm)
     · simp only [delL,if_pos hp,if_neg hx,getL,show ¬ p.1=x from fun e=>hx (e.symm.trans hp),if_false]
   · by_cases hx:p.1=x
     · simp only [delL,if_neg hp,getL,if_pos hx,if_neg (show ¬ x=k from fun e=>hp (hx.trans e))]
     · simp only [delL,if_neg hp,getL,if_neg hx,ih]
def oldS (k:ByteArray) (l:List (ByteArray × ByteArray)):Nat:=((getL k l).map (fun u=>k.size + u.size)).getD 0
theorem oldS_ne {p:ByteArray × ByteArray} {k:ByteArray} {l:List (ByteArray × ByteArray)} (h:¬ p.1=k):oldS k (p :: l)=oldS k l:=by simp [oldS,getL,h]
theorem size_putL {k v:ByteArray}:∀ {l:List (ByteArray × ByteArray)},(keysL l).Pairwise ltS→sizeL (putL k v l) + oldS k l=sizeL l + (k.size + v.size)
 | [],_=>by simp [putL,getL,sizeL,sizeP,oldS]
 | p :: r,hs=>by
   simp only [List.map_cons,List.pairwise_cons] at hs
   have ih:=size_putL (k:=k) (v:=v) hs.2
   unfold putL
   by_cases h1:ltS p.1 k
   · rw [if_pos h1]
     rw [oldS_ne (lt_ne h1)]
     simp only [sizeL,List.map_cons,List.sum_cons] at ih ⊢
     omega
   · rw [if_neg h1]
     by_cases h2:p.1=k
     · subst h2
       simp [getL,sizeL,sizeP,oldS]
       omega
     · rw [if_neg h2,oldS_ne h2]
       have hlt:ltS k p.1:=(lt_total h2).resolve_left h1
       have hn:getL k r=none:=getL_none.2 (fun hm=>lt_asymm (hs.1 k hm) hlt)
       simp only [oldS,hn,sizeL,List.map_cons,List.sum_cons,sizeP,Option.map_none,Option.getD_none]
       omega
theorem size_delL {k v:ByteArray}:∀ {l:List (ByteArray × ByteArray)},getL k l=some v→sizeL (delL k l) + (k.size + v.size)=sizeL l
 | [],h=>by cases h
 | p :: r,h=>by
   by_cases hp:p.1=k
   · simp only [getL,if_pos hp,Option.some.injEq] at h
     subst hp h
     simp [delL,sizeL,sizeP]
     omega
   · simp only [getL,if_neg hp] at h
     have ih:=size_delL h
     simp only [delL,if_neg hp,sizeL,List.map_cons,List.sum_cons] at ih ⊢
     omega
theorem len_putL {k v:ByteArray}:∀ {l:List (ByteArray × ByteArray)},(keysL l).Pairwise ltS→(putL k v l).length=if getL k l=none then l.length + 1 else l.length
 | [],_=>by simp [putL,getL]
 | p :: r,hs=>by
   simp only [List.map_cons,List.pairwise_cons] at hs
   have ih:=len_putL (k:=k) (v:=v) hs.2
   unfold putL
   by_cases h1:ltS p.1 k
   · rw [if_pos h1]
     simp only [getL,if_neg (lt_ne h1),List.length_cons,ih]
     split <;> rfl
   · rw [if_neg h1]
     by_cases h2:p.1=k
     · simp [getL,h2]
     · rw [if_neg h2]
       have hlt:ltS k p.1:=(lt_total h2).resolve_left h1
       have hn:getL k r=none:=getL_none.2 (fun hm=>lt_asymm (hs.1 k hm) hlt)
       simp [getL,h2,hn]
theorem mem_putL {k v:ByteArray} {q:ByteArray × ByteArray}:∀ {l:List (ByteArray × ByteArray)},q ∈ putL k v l→q=(k,v) ∨ q ∈ l
 | [],h=>by simpa [putL] using h
 | p :: r,h=>by
   unfold putL at h
   split at h
   · rw [List.mem_cons] at h ⊢
     rcases h with h | h
     · exact .inr (.inl h)
     · exact (mem_putL h).imp id .inr
   · split at h
     · rw [List.mem_cons] at h ⊢
       exact h.imp id .inr
     · rw [List.mem_cons] at h
       exact h
end Go.Proofs.YtkgflepgkhnclaaGreatDoor
namespace Go.Proofs.YtkgflepgkhnclaaGreatDoor
set_option linter.unusedVariables false
set_option linter.unusedSimpArgs false
open Go.RowKit Go.Shelf
theorem row_cell {cs:Array Value} {ks:List ByteArray} (h:cs.toList.take ks.length=ks.map Value.string) (j:Nat) (hj:j < ks.length):cs[j]?=some (.string ks[j]):=by
 have h1:(cs.toList.take ks.length)[j]?=(ks.map Value.string)[j]?:=by rw [h]
 rw [List.getElem?_take_of_lt hj,Array.getElem?_toList,List.getElem?_map,List.getElem?_eq_getElem hj] at h1
 exact h1
def keyAt (ks:List ByteArray) (x:ByteArray) (t:Nat):ByteArray:=(ks[t]?).getD x
theorem keyAt_in {ks:List ByteArray} {x:ByteArray} {t:Nat} (h:t < ks.length):keyAt ks x t=ks[t]:=by simp [keyAt,h]
theorem keyAt_out {ks:List ByteArray} {x:ByteArray} {t:Nat} (h:ks.length ≤ t):keyAt ks x t=x:=by simp [keyAt,h]
theorem bs_pos {ks:List ByteArray} {x:ByteArray} (hs:ks.Pairwise ltS):Lib.bsGo (fun t=>Op.bytesLess (keyAt ks x t).toList x.toList) ks.length 0 ks.length=posK x ks:=by
 refine Lib.bsGo_spec _ (posK x ks) (fun t ht=>?_) (fun t ht=>?_) _ _ _ (by omega) (by omega) pos_le
 · have hl:t < ks.length:=Nat.lt_of_lt_of_le ht pos_le
   rw [keyAt_in hl]
   exact pos_lt hl ht
 · rcases Nat.lt_or_ge t ks.length with hl | hl
   · rw [keyAt_in hl]
     exact Bool.eq_false_iff.2 (pos_ge hs hl ht)
   · rw [keyAt_out hl]
     exact bl_irrefl _
theorem found_pos {ks:List ByteArray} {x:ByteArray} (hs:ks.Pairwise ltS):(posK x ks < ks.length∧keyAt ks x (posK x ks)=x) ↔ x ∈ ks:=by
 rw [pos_mem hs]
 constructor
 · rintro ⟨h1,h2⟩
   rw [keyAt_in h1] at h2
   rw [List.getElem?_eq_getElem h1,h2]
 · intro h
   obtain ⟨h1,h2⟩:=List.getElem?_eq_some_iff.1 h
   exact ⟨h1,by rw [keyAt_in h1,h2]⟩
theorem search_b {w:World} {ok:Option Nat} {A:Option Addr} {c:Nat} {ks:List ByteArray} (h:KeysAt w ok A c ks) (hs:ks.Pairwise ltS) (hl:ks.length ≤ 1000000) (x:ByteArray) (f:Bool) (hf:f=true ↔ x ∈ ks) :
 Calls Tryz.prog 213 #[.slice A ks.length c,.string x] w fun e w'=>e=.returned (.tuple #[.int .i64 (posK x ks:Nat),.bool f])∧Below w.heap.size w w':=by
 rcases h with ⟨-,rfl,rfl,rfl⟩ | ⟨kb,cs,-,rfl,hb,h1,h2,h3,h4⟩
 · have hf':f=false:=Bool.eq_false_iff.2 (fun e=>by have:=hf.1 e;simp at this)
   subst hf'
   have hc:=Any2.slices_BinarySearch_string_empty laysSearch none 0 x w
   refine Calls.mono hc ?_
   rintro e w' ⟨rfl,rfl⟩
   exact ⟨rfl,Below.refl _ _⟩
 · have hc:=Any2.slices_BinarySearch_string laysSearch kb 0 ks.length c (keyAt ks x) x w (by omega) (fun j hj=>by
    rw [Nat.zero_add,hb.cell,keyAt_in hj];exact h4 j hj)
   rw [bs_pos hs] at hc
   refine Calls.mono hc ?_
   rintro e w' ⟨rfl,q,rfl⟩
   refine ⟨?_,below_drewN (Below.refl _ _) q⟩
   have:decide (posK x ks < ks.length∧keyAt ks x (posK x ks)=x)=f:=by
    rw [Bool.eq_iff_iff,decide_eq_true_iff,found_pos hs,hf]
   rw [this]
theorem find_b {w:World} {b:Nat} {ok:Option Nat} {A:Option Addr} {c:Nat} {ks:List ByteArray} {v1 v2 v3 v4:Value} (h0:Blk w b 134 #[.slice A ks.length c,v1,v2,v3,v4]) (h:KeysAt w ok A c ks) (hs:ks.Pairwise ltS) (hl:ks.length ≤ 1000000)
 (x:ByteArray) (f:Bool) (hf:f=true ↔ x ∈ ks) :
 Calls Tryz.prog 176 #[.pointer (some ⟨b,0,none⟩),.string x] w fun e w'=>e=.returned (.tuple #[.int .i64 (posK x ks:Nat),.bool f])∧Below w.heap.size w w':=by
 have c0:w.cell? ⟨b,0,none⟩=some (.slice A ks.length c):=h0.cell 0
 have HS:=Lib.hid (search_b h hs hl x f hf)
 clear h0 h hs hl hf
 go_enter Tryz.func176,Tryz.ntmps176
 go_wp2_with (go_at_call 213;refine HS.out.mono ?_;rintro e w1 ⟨rfl,hb⟩;have HB:=Lib.hid hb;clear hb)
 go_ret2
 exact ⟨rfl,HB.out⟩
theorem Blk.sets {w:World} {b:Nat} {t:TypeId} {cs:Array Value} (h:Blk w b t cs) (vs:List Value) (o:Nat):∃ cs',Blk (w.setCells b o vs) b t cs'∧cs'.size=cs.size:=by
 induction vs generalizing w cs o with
 | nil=>exact ⟨cs,h,rfl⟩
 | cons v r ih =>
   obtain ⟨cs',h1,h2⟩:=ih (h.set_ o v) (o + 1)
   exact ⟨cs',h1,by rw [h2,Array.size_setIfInBounds]⟩
theorem sets_same (b:Nat):∀ (vs:List Value) (o:Nat) (w:World),(w.setCells b o vs).os=w.os∧(w.setCells b o vs).tape=w.tape∧(w.setCells b o vs).output=w.output∧(w.setCells b o vs).heap.size=w.heap.size∧∀ i,i ≠ b→(w.setCells b o vs).heap[i]?=w.heap[i]?
 | [],_,_=>⟨rfl,rfl,rfl,rfl,fun _ _=>rfl⟩
 | v :: r,o,w=>by
   obtain ⟨h1,h2,h3,h4,h5⟩:=sets_same b r (o + 1) (w.setCell ⟨b,o,none⟩ v)
   exact ⟨h1,h2,h3,by rw [World.setCells,h4];simp,fun i hi=>by rw [World.setCells,h5 i hi];exact Below.heap_setCell w _ v i hi⟩
theorem KeepC.sets {C:Nat→Prop} {w w':World} {b:Nat} {t:TypeId} {cs:Array Value} (h:KeepC C w w') (hb:Blk w' b t cs) (ht:t ≠ 5) (hC:b < w.heap.size→C b) (o:Nat) (vs:List Value):KeepC C w (w'.setCells b o vs):=by
 obtain ⟨h1,h2,h3,h4,h5⟩:=sets_same b vs o w'
 exact h.trans (D:=(·=b)) (.one ⟨h1,h2,h3,by omega⟩ (fun i _ hi=>h5 i hi) (fun _=>rfl) (not_U8 hb ht)) (fun i hi e=>by subst e;exact hC hi)
theorem cell_some {w:World} {b:Nat} {t:TypeId} {cs:Array Value} (h:Blk w b t cs) {j:Nat} (hj:j < cs.size):(w.cell? ⟨b,j,none⟩).isSome=true:=by
 rw [h.cell,Array.getElem?_eq_getElem hj];rfl
def insK (i:Nat) (x:ByteArray) (ks:List ByteArray):List ByteArray:=ks.take i ++ x :: ks.drop i
theorem insK_len {i:Nat} {x:ByteArray} {ks:List ByteArray} (h:i ≤ ks.length):(insK i x ks).length=ks.length + 1:=by
 simp [insK];omega
theorem insK_lo {i j:Nat} {x:ByteArray} {ks:List ByteArray} (hi:i ≤ ks.length) (h:j < i):(insK i x ks)[j]?=ks[j]?:=by
 rw [insK,List.getElem?_append_left (by simp;omega),List.getElem?_take_of_lt h]
theorem insK_at {i:Nat} {x:ByteArray} {ks:List ByteArray} (hi:i ≤ ks.length):(insK i x ks)[i]?=some x:=by
 rw [insK,List.getElem?_append_right (by simp;omega)]
 simp [Nat.min_eq_left hi]
theorem insK_hi {i j:Nat} {x:ByteArray} {ks:List ByteArray} (hi:i ≤ ks.length) (h:i ≤ j):(insK i x ks)[j + 1]?=ks[j]?:=by
 rw [insK,List.getElem?_append_right (by simp;omega)]
 simp only [List.length_take,Nat.min_eq_left hi]
 rw [show j + 1 - i=(j - i) + 1 by omega,List.getElem?_cons_succ,List.getElem?_drop,show i + (j - i)=j by omega]
def InsEnd (ok:Option Nat) (ks':List ByteArray) (w:World) (e:Ending) (w':World):Prop :=
 ∃ A' c' ok',e=.returned (.slice A' ks'.length c')∧KeysAt w' ok' A' c' ks'∧(ok'=ok ∨ ∃ g,ok'=some g∧w.heap.size ≤ g)∧KeepC (fun j=>ok=some j) w w'
theorem insEnd_of {w w':World} {ok:Option Nat} {ks:List ByteArray} {i:Nat} {x:ByteArray} {kb c':Nat} {cs:Array Value} (hi:i ≤ ks.length) (hb:Blk w' kb 9 cs) (hs:cs.size=c') (hl:ks.length + 1 ≤ c') (hc:c' ≤ 9223372036854775807)
 (h1:∀ j,j < i→∀ v,ks[j]?=some v→w'.cell? ⟨kb,j,none⟩=some (.string v)) (h2:w'.cell? ⟨kb,i,none⟩=some (.string x)) (h3:∀ j,i ≤ j→∀ v,ks[j]?=some v→w'.cell? ⟨kb,j + 1,none⟩=some (.string v))
 (ho:some kb=ok ∨ w.heap.size ≤ kb) (hk:KeepC (fun j=>ok=some j) w w'):InsEnd ok (insK i x ks) w (.returned (.slice (some ⟨kb,0,none⟩) (ks.length + 1) c')) w':=by
 refine ⟨some ⟨kb,0,none⟩,c',some kb,by rw [insK_len hi],.inr ⟨kb,cs,rfl,rfl,hb,hs,by rw [insK_len hi];exact hl,hc,fun j hj=>?_⟩,ho.imp id (fun h=>⟨kb,rfl,h⟩),hk⟩
 rw [← hb.cell]
 have hg:(insK i x ks)[j]?=some (insK i x ks)[j]:=List.getElem?_eq_getElem hj
 rcases Nat.lt_trichotomy j i with h | h | h
 · rw [insK_lo hi h] at hg
   exact h1 j h _ hg
 · subst h
   rw [insK_at hi,Option.some.injEq] at hg
   rw [h2,← hg]
 · obtain ⟨j',rfl⟩:∃ j',j=j' + 1:=⟨j - 1,by omega⟩
   rw [insK_hi hi (by omega)] at hg
   exact h3 j' (by omega) _ hg
theorem size_zc (k:Nat):(Builtin.zeroCells (Value.string ⟨#[]⟩).cells k).size=k:=by
 first | simp [Builtin.zeroCells,Value.cells] | (induction k <;> simp_all [Builtin.zeroCells,Value.cells])
theorem keys_at {ks:List ByteArray} {cs:Array Value} {w:World} {kb:Nat} (hb:Blk w kb 9 cs) (h4:∀ j,(hj:j < ks.length)→cs[j]?=some (.string ks[j])) (j:Nat) (v:Value) (h:(ks.map Value.string)[j]?=some v):w.cell? ⟨kb,0 + j,none⟩=some v:=by
 rw [List.getElem?_map,Option.map_eq_some_iff] at h
 obtain ⟨k,h1,rfl⟩:=h
 obtain ⟨h2,h3⟩:=List.getElem?_eq_some_iff.1 h1
 rw [Nat.zero_add,hb.cell,h4 j h2,h3]
theorem one_cell_map {l:List ByteArray}:∀ v ∈ l.map Value.string,v.oneCell'=true:=by
 intro v hv
 obtain ⟨k,_,rfl⟩:=List.mem_map.1 hv
 rfl
set_option maxHeartbeats 1600000 in
theorem insert_b {w:World} {ok:Option Nat} {A:Option Addr} {c:Nat} {ks:List ByteArray} (h:KeysAt w ok A c ks) (hl:ks.length ≤ 1000000) (i:Nat) (hi:i ≤ ks.length) (x:ByteArray) (vb:Nat) (hv:Blk w vb 9 #[.string x]) (hne:ok ≠ some vb) :
 Calls Tryz.prog 211 #[.slice A ks.length c,.int .i64 (i:Nat),.slice (some ⟨vb,0,none⟩) 1 1] w (InsEnd ok (insK i x ks) w):=by
 have hvs:∀ j v,([Value.string x]:List Value)[j]?=some v→w.cell? ⟨vb,0 + j,none⟩=some v:=fun j v hj=>by
  cases j with
  | zero=>simp only [List.getElem?_cons_zero,Option.some.injEq] at hj;rw [← hj];exact hv.cell 0
  | succ j=>simp at hj
 have h1v:∀ v ∈ ([Value.string x]:List Value),v.oneCell'=true:=fun v hv=>by rw [List.mem_singleton] at hv;rw [hv];rfl
 rcases h with ⟨rfl,rfl,rfl,rfl⟩ | ⟨kb,cs,rfl,rfl,hb,h1,h2,h3,h4⟩
 · obtain rfl:i=0:=by simpa using hi
   have hc:=Any2.slices_Insert_string_end_grow laysInsert none 0 0 vb 0 1 1 [] [.string x] w (by omega) (by omega) (by omega) (by omega) rfl rfl (fun _=>rfl) (fun a h=>by cases h) hvs h1v
   refine Calls.mono hc ?_
   rintro e w' ⟨rfl,rfl⟩
   have hg:=grownCap_ge w (0 + 1) 0 (laysInsert_ren.t 9)
   have hm:=grownCap_le_maxLen w (0 + 1) 0 (laysInsert_ren.t 9) (by unfold maxLen;omega)
   generalize grownCap w (0 + 1) 0 (laysInsert_ren.t 9)=C at hg hm ⊢
   have hb:=Blk.new w.drew (laysInsert_ren.t 9) ((([] ++ [.string x]:List Value)).toArray ++ Builtin.zeroCells (Value.string ⟨#[]⟩).cells (C - (0 + 1)))
   refine insEnd_of (i:=0) (ks:=[]) (Nat.zero_le _) hb (by rw [Array.size_append,size_zc];simp;omega) (by simpa using hg) (by unfold maxLen at hm;omega) (fun j hj=>by omega) ?_ (fun j _ v hv=>by simp at hv) (.inr (Nat.le_refl _)) (KeepC.of_below (((Below.refl _ _).drew).alloc (Nat.le_refl _) _))
   refine (hb.cell 0).trans ?_
   rw [Array.getElem?_append_left (by simp)]
   rfl
 · have hcell:=keys_at hb h4
   have hsome:∀ j,j < c→(w.cell? ⟨kb,j,none⟩).isSome=true:=fun j hj=>cell_some hb (by omega)
   have hfz:∀ j,w.frozen? ⟨kb,j,none⟩=false:=fun j=>hb.frozen j
   by_cases hin:i=ks.length
   · subst hin
     by_cases hroom:ks.length + 1 ≤ c
     · have hc:=Any2.slices_Insert_string_end_room laysInsert kb 0 ks.length c vb 0 1 1 [.string x] w (by omega) hroom h3 rfl (fun j hj=>by rw [Nat.zero_add];exact hsome _ (by omega)) (fun j _=>by rw [Nat.zero_add];exact hfz _) hvs h1v
       refine Calls.mono hc ?_
       rintro e w' ⟨rfl,rfl⟩
       rw [Nat.zero_add]
       obtain ⟨cs',hb',hs'⟩:=hb.sets [.string x] ks.length
       refine insEnd_of (Nat.le_refl _) hb' (hs'.trans h1) hroom h3 (fun j hj v hv=>?_) ?_ (fun j hj v hv=>?_) (.inl rfl) ((KeepC.refl (fun j=>some kb=some j) w).sets hb (by decide) (fun _=>rfl) _ _)
       · rw [World.cell?_setCells_out kb _ _ _ _ (fun _ _=>.inl hj)]
         have:=hcell j (.string v) (by rw [List.getElem?_map,hv];rfl)
         rwa [Nat.zero_add] at this
       · have:=World.cell?_setCells_in kb [.string x] ks.length w (fun j hj=>hsome _ (by simp at hj;omega)) 0 (by simp)
         simpa using this
       · obtain ⟨h,_⟩:=List.getElem?_eq_some_iff.1 hv;omega
     · have hc:=Any2.slices_Insert_string_end_grow laysInsert (some ⟨kb,0,none⟩) ks.length c vb 0 1 1 (ks.map Value.string) [.string x] w (by omega) h2 (by omega) (by omega) (by simp) rfl (fun h=>by cases h) (fun a ha j v hj=>by
           injection ha with ha
           subst ha
           rw [Addr.add_lit]
           exact hcell j v hj) hvs h1v
       refine Calls.mono hc ?_
       rintro e w' ⟨rfl,rfl⟩
       have hg:=grownCap_ge w (ks.length + 1) c (laysInsert_ren.t 9)
       have hm:=grownCap_le_maxLen w (ks.length + 1) c (laysInsert_ren.t 9) (by unfold maxLen;omega)
       generalize grownCap w (ks.length + 1) c (laysInsert_ren.t 9)=C at hg hm ⊢
       have hb':=Blk.new w.drew (laysInsert_ren.t 9) ((ks.map Value.string ++ [Value.string x]).toArray ++ Builtin.zeroCells (Value.string ⟨#[]⟩).cells (C - (ks.length + 1)))
       refine insEnd_of (Nat.le_refl _) hb' (by rw [Array.size_append,size_zc];simp;omega) hg (by unfold maxLen at hm;omega) (fun j hj v hv=>?_) ?_ (fun j hj v hv=>?_) (.inr (Nat.le_refl _)) (KeepC.of_below (((Below.refl _ _).drew).alloc (Nat.le_refl _) _))
       · refine (hb'.cell j).trans ?_
         have hj':j < (ks.map Value.string ++ [Value.string x]).toArray.size:=by simp;omega
         rw [Array.getElem?_append_left hj']
         obtain ⟨h5,h6⟩:=List.getElem?_eq_some_iff.1 hv
         simp [List.getElem?_append_left,h5,h6]
       · refine (hb'.cell _).trans ?_
         have hj':ks.length < (ks.map Value.string ++ [Value.string x]).toArray.size:=by simp
         rw [Array.getElem?_append_left hj']
         simp
       · obtain ⟨h,_⟩:=List.getElem?_eq_some_iff.1 hv;omega
   · have hlt:i < ks.length:=by omega
     by_cases hroom:ks.length + 1 ≤ c
     · have hc:=Any2.slices_Insert_string_shift laysInsert kb 0 ks.length c i vb 0 1 1 (ks.map Value.string) [.string x] w hlt (by omega) hroom h3 (fun e=>hne (by rw [e])) (by simp) rfl hcell (fun j hj=>by rw [Nat.zero_add];exact hsome _ (by omega)) (fun j _=>by rw [Nat.zero_add];exact hfz _) hvs one_cell_map h1v
        9 9 1 c (by unfold Blk at hv;simp [World.shape?,hv]) (by unfold Blk at hb;simp [World.shape?,hb,h1]) (by omega) (hv.frozen 0) (hv.frozen 1)
       refine Calls.mono hc ?_
       rintro e w' ⟨rfl,rfl⟩
       rw [Nat.zero_add,Nat.zero_add,List.map_drop.symm]
       obtain ⟨cs1,hb1,hs1⟩:=hb.drew.sets ((ks.drop i).map Value.string) (i + 1)
       obtain ⟨cs2,hb2,hs2⟩:=hb1.sets [.string x] i
       have hsome1:∀ j,j < c→((w.drew.setCells kb (i + 1) ((ks.drop i).map Value.string)).cell? ⟨kb,j,none⟩).isSome=true:=fun j hj=>cell_some hb1 (by omega)
       refine insEnd_of hi hb2 (by omega) hroom h3 (fun j hj v hv=>?_) ?_ (fun j hj v hv=>?_) (.inl rfl) (((KeepC.refl (fun j=>some kb=some j) w).drew.sets hb.drew (by decide) (fun _=>rfl) _ _).sets hb1 (by decide) (fun _=>rfl) _ _)
       · rw [World.cell?_setCells_out kb _ _ _ _ (fun _ _=>.inl hj),World.cell?_setCells_out kb _ _ _ _ (fun _ _=>.inl (by show j < i + 1;omega))]
         have:=hcell j (.string v) (by rw [List.getElem?_map,hv];rfl)
         rwa [Nat.zero_add] at this
       · have:=World.cell?_setCells_in kb [.string x] i (w.drew.setCells kb (i + 1) ((ks.drop i).map Value.string)) (fun j hj=>hsome1 _ (by simp at hj;omega)) 0 (by simp)
         simpa using this
       · obtain ⟨h5,h6⟩:=List.getElem?_eq_some_iff.1 hv
         rw [World.cell?_setCells_out kb _ _ _ _ (fun _ _=>.inr (by show i + 1 ≤ j + 1;omega))]
         have:=World.cell?_setCells_in kb ((ks.drop i).map Value.string) (i + 1) w.drew (fun j hj=>by
          simp only [List.length_map,List.length_drop] at hj
          exact hsome _ (by omega)) (j - i) (by simp;omega)
         rw [show i + 1 + (j - i)=j + 1 by omega] at this
         rw [this]
         simp only [List.getElem_map,List.getElem_drop]
         congr 2
         rw [← h6]
         congr 1
         omega
     · have hc:=Any2.slices_Insert_string_grow laysInsert kb 0 ks.length c i vb 0 1 1 (ks.map Value.string) [.string x] w hlt (by omega) h2 (by omega) (by omega) (by simp) rfl hcell hvs one_cell_map h1v
       refine Calls.mono hc ?_
       rintro e w' ⟨rfl,rfl⟩
       have hg:=grownCap_ge w (ks.length + 1) c (laysInsert_ren.t 9)
       have hm:=grownCap_le_maxLen w (ks.length + 1) c (laysInsert_ren.t 9) (by unfold maxLen;omega)
       generalize grownCap w (ks.length + 1) c (laysInsert_ren.t 9)=C at hg hm ⊢
       rw [← List.map_take,← List.map_drop]
       have hb0:=Blk.new w (laysInsert_ren.t 9) (((ks.take i).map Value.string).toArray ++ Builtin.zeroCells (Value.string ⟨#[]⟩).cells (ks.length + 1 - i) ++ Builtin.zeroCells (Value.string ⟨#[]⟩).cells (C - (ks.length + 1)))
       have hs0:(((ks.take i).map Value.string).toArray ++ Builtin.zeroCells (Value.string ⟨#[]⟩).cells (ks.length + 1 - i) ++ Builtin.zeroCells (Value.string ⟨#[]⟩).cells (C - (ks.length + 1))).size=C:=by
        rw [Array.size_append,Array.size_append,size_zc,size_zc];simp;omega
       have hlo:∀ j v,j < i→ks[j]?=some v→(((ks.take i).map Value.string).toArray ++ Builtin.zeroCells (Value.string ⟨#[]⟩).cells (ks.length + 1 - i) ++ Builtin.zeroCells (Value.string ⟨#[]⟩).cells (C - (ks.length + 1)))[j]?=some (.string v):=fun j v hj hv=>by
        rw [Array.append_assoc,Array.getElem?_append_left (by simp;omega)]
        simp only [List.getElem?_toArray,List.getElem?_map,List.getElem?_take_of_lt hj,hv,Option.map_some]
       generalize (((ks.take i).map Value.string).toArray ++ Builtin.zeroCells (Value.string ⟨#[]⟩).cells (ks.length + 1 - i) ++ Builtin.zeroCells (Value.string ⟨#[]⟩).cells (C - (ks.length + 1)))=Z at hb0 hs0 hlo ⊢
       obtain ⟨cs1,hb1,hs1⟩:=hb0.drew.sets [.string x] i
       obtain ⟨cs2,hb2,hs2⟩:=hb1.drew.sets ((ks.drop i).map Value.string) (i + 1)
       have hsome0:∀ j,j < C→((w.alloc (.cells Z (laysInsert_ren.t 9))).drew.cell? ⟨w.heap.size,j,none⟩).isSome=true:=fun j hj=>cell_some hb0.drew (by omega)
       have hsome1:∀ j,j < C→(((w.alloc (.cells Z (laysInsert_ren.t 9))).drew.setCells w.heap.size i [.string x]).drew.cell? ⟨w.heap.size,j,none⟩).isSome=true:=fun j hj=>cell_some hb1.drew (by omega)
       refine insEnd_of hi hb2 (by omega) hg (by unfold maxLen at hm;omega) (fun j hj v hv=>?_) ?_ (fun j hj v hv=>?_) (.inr (Nat.le_refl _)) ?_
       · rw [World.cell?_setCells_out _ _ _ _ _ (fun _ _=>.inl (by show j < i + 1;omega))]
         show (World.setCells _ _ _ _).cell? _=_
         rw [World.cell?_setCells_out _ _ _ _ _ (fun _ _=>.inl hj),hb0.drew.cell]
         exact hlo j v hj hv
       · rw [World.cell?_setCells_out _ _ _ _ _ (fun _ _=>.inl (by show i < i + 1;omega))]
         have:=World.cell?_setCells_in w.heap.size [.string x] i _ (fun j hj=>hsome0 _ (by simp at hj;omega)) 0 (by simp)
         simpa using this
       · obtain ⟨h5,h6⟩:=List.getElem?_eq_some_iff.1 hv
         have:=World.cell?_setCells_in w.heap.size ((ks.drop i).map Value.string) (i + 1) _ (fun j hj=>by
          simp only [List.length_map,List.length_drop] at hj
          exact hsome1 _ (by omega)) (j - i) (by simp;omega)
         rw [show i + 1 + (j - i)=j + 1 by omega] at this
         rw [this]
         simp only [List.getElem_map,List.getElem_drop]
         congr 2
         rw [← h6]
         congr 1
         omega
       · exact ((((KeepC.refl _ w).alloc _).drew.sets hb0.drew (by decide) (fun h=>absurd h (Nat.lt_irrefl _)) _ _).drew.sets hb1.drew (by decide) (fun h=>absurd h (Nat.lt_irrefl _)) _ _)
theorem KeysAt.keep {C:Nat→Prop} {w w':World} {ok:Option Nat} {A:Option Addr} {c:Nat} {ks:List ByteArray} (h:KeysAt w ok A c ks) (k:KeepC C w w') (hC:∀ g,ok=some g→¬ C g):KeysAt w' ok A c ks:=by
 rcases h with h | ⟨kb,cs,h1,h2,h3,h4⟩
 · exact .inl h
 · exact .inr ⟨kb,cs,h1,h2,k.blk h3 (hC kb h1),h4⟩
theorem KeysAt.below {w w':World} {ok:Option Nat} {A:Option Addr} {c:Nat} {ks:List ByteArray} (h:KeysAt w ok A c ks) (hb:Below w.heap.size w w'):KeysAt w' ok A c ks:=h.keep (C:=fun _=>False) (.of_below hb) (fun _ _ h=>h)
theorem KeysAt.lt {w:World} {ok:Option Nat} {A:Option Addr} {c:Nat} {ks:List ByteArray} (h:KeysAt w ok A c ks) {g:Nat} (hg:ok=some g):g < w.heap.size:=by
 rcases h with ⟨h1,_⟩ | ⟨kb,cs,h1,_,h3,_⟩
 · rw [h1] at hg;cases hg
 · rw [h1] at hg;injection hg with hg;subst hg;exact h3.lt
theorem KeysAt.ne {w:World} {ok:Option Nat} {A:Option Addr} {c:Nat} {ks:List ByteArray} {b:Nat} {t:TypeId} {cs:Array Value} (h:KeysAt w ok A c ks) (hb:Blk w b t cs) (ht:t ≠ 9):ok ≠ some b:=by
 rintro rfl
 rcases h with ⟨h1,_⟩ | ⟨kb,cs',h1,_,h3,_⟩
 · cases h1
 · injection h1 with h1
   subst h1
   unfold Blk at hb h3
   rw [hb] at h3
   injection h3 with h3
   injection h3 with _ h3 _
   exact ht h3
def delK (i:Nat) (ks:List ByteArray):List ByteArray:=ks.take i ++ ks.drop (i + 1)
theorem strs_keys (ks:List ByteArray) (x:ByteArray):Lib.strsOf (keyAt ks x) ks.length=ks.map (·.data.toList):=by
 apply List.ext_getElem
 · simp [Lib.strsOf]
 · intro i h1 h2
   have hi:i < ks.length:=by simpa using h2
   simp [Lib.strsOf,keyAt_in hi]
theorem enc_map (l:List ByteArray):(l.map (·.data.toList)).map encStr=l.map Value.string:=by
 rw [List.map_map]
 apply List.map_congr_left
 intro a _
 simp [encStr]
theorem delete_b {w:World} {ok:Option Nat} {A:Option Addr} {c:Nat} {ks:List ByteArray} (h:KeysAt w ok A c ks) (i:Nat) (hi:i < ks.length) :
 Calls Tryz.prog 212 #[.slice A ks.length c,.int .i64 (i:Nat),.int .i64 ((i + 1:Nat):Int)] w fun e w'=>e=.returned (.slice A (delK i ks).length c)∧KeysAt w' ok A c (delK i ks)∧KeepC (fun j=>ok=some j) w w':=by
 rcases h with ⟨rfl,rfl,rfl,rfl⟩ | ⟨kb,cs,rfl,rfl,hb,h1,h2,h3,h4⟩
 · simp at hi
 · have hc:=Any.slices_Delete_string_cells laysDelete kb 0 ks.length c i (i + 1) (keyAt ks ByteArray.empty) w h2 h3 (by omega) (by omega) (fun j hj=>by rw [Nat.zero_add,hb.cell,keyAt_in hj];exact h4 j hj) (fun j _=>by rw [Nat.zero_add];exact hb.frozen j)
   refine Calls.mono hc ?_
   rintro e w' ⟨rfl,q,rfl⟩
   have hlen:(delK i ks).length=ks.length - (i + 1 - i):=by simp [delK];omega
   have hvs:(((Lib.strsOf (keyAt ks ByteArray.empty) ks.length).take i ++ (Lib.strsOf (keyAt ks ByteArray.empty) ks.length).drop (i + 1) ++ List.replicate (i + 1 - i) []).map encStr)=(delK i ks ++ [ByteArray.empty]).map Value.string:=by
    rw [strs_keys,← enc_map,delK]
    rw [show i + 1 - i=1 by omega]
    simp [List.map_take,List.map_drop]
   rw [hvs]
   generalize hL:(delK i ks ++ [ByteArray.empty]).map Value.string=vs
   have hvl:vs.length=ks.length:=by rw [← hL];simp;omega
   obtain ⟨cs',hb',hs'⟩:=(hb.drewN q).sets vs 0
   refine ⟨by rw [hlen],.inr ⟨kb,cs',rfl,rfl,hb',hs'.trans h1,by omega,h3,fun j hj=>?_⟩,((KeepC.refl (fun j=>some kb=some j) w).drewN q).sets (hb.drewN q) (by decide) (fun _=>rfl) _ _⟩
   have:=World.cell?_setCells_in kb vs 0 (w.drewN q) (fun j hj=>by rw [Nat.zero_add];exact cell_some (hb.drewN q) (by omega)) j (by omega)
   rw [Nat.zero_add,hb'.cell] at this
   rw [this]
   subst hL
   simp [hj]
def KeysEnd (b:Nat) (ok:Option Nat) (ks':List ByteArray) (v1 v2 v3 v4:Value) (w:World) (e:Ending) (w':World):Prop :=
 e=.returned (.tuple #[])∧∃ A' c' ok',Blk w' b 134 #[.slice A' ks'.length c',v1,v2,v3,v4]∧KeysAt w' ok' A' c' ks'∧(ok'=ok ∨ ∃ g,ok'=some g∧w.heap.size ≤ g)∧KeepC (fun j=>j=b ∨ ok=some j) w w'
set_option maxHeartbeats 1600000 in
theorem add_b {w:World} {b:Nat} {ok:Option Nat} {A:Option Addr} {c:Nat} {ks:List ByteArray} {v1 v2 v3 v4:Value} (h0:Blk w b 134 #[.slice A ks.length c,v1,v2,v3,v4]) (h:KeysAt w ok A c ks) (hs:ks.Pairwise ltS) (hl:ks.length ≤ 1000000) (x:ByteArray) (hx:x ∉ ks) :
 Calls Tryz.prog 174 #[.pointer (some ⟨b,0,none⟩),.string x] w (KeysEnd b ok (insK (posK x ks) x ks) v1 v2 v3 v4 w):=by
 have HF:=Lib.hid (find_b h0 h hs hl x false ⟨fun h=>(by cases h),fun h=>absurd h hx⟩)
 have H0:=Lib.hid h0
 have H:=Lib.hid h
 have hp:posK x ks ≤ ks.length:=pos_le
 generalize posK x ks=i at HF hp ⊢
 clear h0 h hs hx
 go_enter Tryz.func174,Tryz.ntmps174
 go_wp2_with (go_at_call 176;refine HF.out.mono ?_;rintro e w1 ⟨rfl,hb⟩;have HB:=Lib.hid hb;have c0:w1.cell? ⟨b,0,none⟩=some (.slice A ks.length c):=(H0.out.below hb H0.out.lt).cell 0;have f0:w1.frozen? ⟨b,0,none⟩=false:=(H0.out.below hb H0.out.lt).frozen 0;clear hb)
 have B1:=H0.out.below HB.out H0.out.lt
 have B2:=B1.alloc (.cells #[.string x] 9)
 have K2:=(H.out.below HB.out).below ((Below.refl _ _).alloc (Nat.le_refl _) (.cells #[.string x] 9))
 have hne:ok ≠ some w1.heap.size:=fun e=>by have:=(H.out.below HB.out).lt e;omega
 refine (insert_b K2 hl i hp x w1.heap.size (Blk.new _ _ _) hne).mono ?_
 rintro e w2 ⟨A',c',ok',rfl,k1,k2,k3⟩
 have B3:Blk w2 b 134 #[.slice A ks.length c,v1,v2,v3,v4]:=k3.blk B2 (H.out.ne H0.out (by decide))
 have c1:w2.cell? ⟨b,0,none⟩=some (.slice A ks.length c):=B3.cell 0
 have f1:w2.frozen? ⟨b,0,none⟩=false:=B3.frozen 0
 have HK:=Lib.hid (And.intro k1 (And.intro k2 (And.intro k3 B3)))
 have HS:=Lib.hid ((KeepC.refl (fun j=>j=b ∨ ok=some j) w).below HB.out |>.alloc (.cells #[.string x] 9) |>.trans k3 (fun i _ h=>.inr h))
 have HZ:=Lib.hid HB.out.size
 clear k1 k2 k3 B1 B2 B3 K2 hne
 go_wp2
 refine bodyPost_ret (results_none rfl _ _ _) rfl ?_
 obtain ⟨k1,k2,k3,B3⟩:=HK.out
 refine ⟨rfl,A',c',ok',B3.set_ 0 _,k1.keep (C:=fun j=>j=b) (.one ⟨rfl,rfl,rfl,by simp⟩ (fun i _ hi=>Below.heap_setCell _ _ _ i hi) (fun _=>rfl) (not_U8 B3 (by decide))) (fun g hg e=>k1.ne B3 (by decide) (by rw [hg,e])),?_,HS.out.setCell B3 (by decide) (fun _=>.inl rfl) _ _⟩
 rcases k2 with k2 | ⟨g,k2,k4⟩
 · exact .inl k2
 · have:=HZ.out
   simp at k4
   exact .inr ⟨g,k2,by omega⟩
set_option maxHeartbeats 1600000 in
theorem drop_b {w:World} {b:Nat} {ok:Option Nat} {A:Option Addr} {c:Nat} {ks:List ByteArray} {v1 v2 v3 v4:Value} (h0:Blk w b 134 #[.slice A ks.length c,v1,v2,v3,v4]) (h:KeysAt w ok A c ks) (hs:ks.Pairwise ltS) (hl:ks.length ≤ 1000000) (x:ByteArray) (hx:x ∈ ks) :
 Calls Tryz.prog 175 #[.pointer (some ⟨b,0,none⟩),.string x] w (KeysEnd b ok (delK (posK x ks) ks) v1 v2 v3 v4 w):=by
 have HF:=Lib.hid (find_b h0 h hs hl x true ⟨fun _=>hx,fun _=>rfl⟩)
 have H0:=Lib.hid h0
 have H:=Lib.hid h
 have hp:posK x ks < ks.length:=((found_pos hs).2 hx).1
 generalize posK x ks=i at HF hp ⊢
 clear h0 h hs hx
 have hw:IntKind.i64.wrap ((i:Int) + 1)=((i + 1:Nat):Int):=by rw [IntWalk.i64_in _ (by omega)];omega
 go_enter Tryz.func175,Tryz.ntmps175
 go_wp2_with (go_at_call 176;refine HF.out.mono ?_;rintro e w1 ⟨rfl,hb⟩;have HB:=Lib.hid hb;have c0:w1.cell? ⟨b,0,none⟩=some (.slice A ks.length c):=(H0.out.below hb H0.out.lt).cell 0;have f0:w1.frozen? ⟨b,0,none⟩=false:=(H0.out.below hb H0.out.lt).frozen 0;clear hb)
 have B1:=H0.out.below HB.out H0.out.lt
 have K2:=H.out.below HB.out
 have hd:=delete_b K2 i hp
 have e1:((i + 1:Nat):Int)=(i:Int) + 1:=by omega
 rw [e1] at hd
 refine hd.mono ?_
 rintro e w2 ⟨rfl,k1,k3⟩
 have B3:Blk w2 b 134 #[.slice A ks.length c,v1,v2,v3,v4]:=k3.blk B1 (H.out.ne H0.out (by decide))
 have c1:w2.cell? ⟨b,0,none⟩=some (.slice A ks.length c):=B3.cell 0
 have f1:w2.frozen? ⟨b,0,none⟩=false:=B3.frozen 0
 have HK:=Lib.hid (And.intro k1 (And.intro k3 B3))
 have HS:=Lib.hid ((KeepC.refl (fun j=>j=b ∨ ok=some j) w).below HB.out |>.trans k3 (fun i _ h=>.inr h))
 clear k1 k3 B1 B3 K2 hd
 go_wp2
 refine bodyPost_ret (results_none rfl _ _ _) rfl ?_
 obtain ⟨k1,k3,B3⟩:=HK.out
 exact ⟨rfl,A,c,ok,B3.set_ 0 _,k1.keep (C:=fun j=>j=b) (.one ⟨rfl,rfl,rfl,by simp⟩ (fun i _ hi=>Below.heap_setCell _ _ _ i hi) (fun _=>rfl) (not_U8 B3 (by decide))) (fun g hg e=>k1.ne B3 (by decide) (by rw [hg,e])),.inl rfl,HS.out.setCell B3 (by decide) (fun _=>.inl rfl) _ _⟩
end Go.Proofs.YtkgflepgkhnclaaGreatDoor
