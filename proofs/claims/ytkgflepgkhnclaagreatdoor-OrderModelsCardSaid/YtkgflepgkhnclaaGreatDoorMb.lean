/- Layer 27: book: there, Get, Keys, Bytes. Layer 27: book: New, Delete. Layer 27: book: Put. Layer 27: book: Swap, Copy. Layer 27: book: Copy. Plain models: requests, codes of keys, what an operation is, its way and its bound (layer 29), how many picks it takes (layer 22). A function's code behind its first parts: so that a long walk can be cut into declarations. Over any program. append where the source reads as a list, told for a row of the call's own; make with a length and a capacity (layer 27's copy). Layer 27: book: Scan. Layer 27: the iterator that a book's All returns, as a contract of the kit's form ('SeqStopsK'). Layer 27: package handle: Right, Asks, Allows. -/
import Derived.Test.YtkgflepgkhnclaaGreatDoorMa
import Derived.Maps.OwnOps
import Derived.Maps.OwnSet
import Derived.Maps.AppendAt
import Derived.Laws.MakeOwn
import Derived.RegionTactic
import Derived.OwnWalk
import Derived.RangeFuncNested
import Derived.RangeFuncBound
import Derived.RangeFuncCalls
import Derived.RangeFuncLeaves
import Derived.Shelf.Abstract
import Derived.Shelf.RegionOpen
import Derived.OwnWalkIn
import Derived.TacticsInMore
import Derived.LoopNIn
import Derived.LoopIn
import Derived.Deep.MidRow
namespace Go.Proofs.YtkgflepgkhnclaaGreatDoor
set_option linter.unusedVariables false
set_option linter.unusedSimpArgs false
open Go.RowKit Go.Shelf
theorem run_conv_bytes {w:World} {v:Value} {x:ByteArray} (h:BytesAt w v x):(convert 135 9 v).run Tryz.prog w=.ok (.string x) w:=by
 obtain ⟨A,c,rfl,h2,h3⟩:=h
 have hx:(⟨x.data.toList.toArray⟩:ByteArray)=x:=by rw [Array.toArray_toList]
 have hlen:x.data.toList.length=x.size:=by rw [Array.length_toList];rfl
 have hr:=run_string_of_reads (P:=Tryz.prog) (w:=w) (B:=w.heap.size) (n:=x.size) (cap:=c) (A:=A) (l:=x.data.toList) 135 9 5 Tryz.underlying135 Tryz.underlying5 Tryz.underlying9 h2
  ⟨by simp [u8s,hlen],fun hp=>?_⟩
 · rw [hx] at hr
   exact hr
 · obtain ⟨vb,off,rfl,h5,h6⟩:=h3 hp
   refine ⟨⟨vb,off,none⟩,rfl,h5.lt,fun j u hj=>?_⟩
   simp only [u8s,List.getElem?_map,Option.map_eq_some_iff] at hj
   obtain ⟨b,h7,rfl⟩:=hj
   obtain ⟨h8,h9⟩:=List.getElem?_eq_some_iff.1 h7
   have h10:j < x.size:=by omega
   rw [Addr.add_lit,h6 j h10]
   rw [← h9]
   rfl
def thereN (l:List (ByteArray × ByteArray)) (key:ByteArray) (vs:List ByteArray):ByteArray × Int:=if mayN key vs=2 then (⟨#[]⟩,2) else match getL key l with | none=>(⟨#[]⟩,5) | some v=>(v,0)
def StrErr (r:ByteArray × Int) (w:World) (e:Ending) (w':World):Prop:=e=.returned (.tuple #[.string r.1,.int .i64 r.2])∧Below w.heap.size w w'
theorem mayN_or (key:ByteArray) (vs:List ByteArray):mayN key vs=2 ∨ mayN key vs=0:=by
 unfold mayN
 split
 · exact .inl rfl
 · exact .inr rfl
theorem ValsAt.keep {C:Nat→Prop} {w w':World} {m:Nat} {l:List (ByteArray × ByteArray)} (h:ValsAt w m l) (k:KeepC C w w') (hC:¬ C m):ValsAt w' m l:=by
 obtain ⟨kvs,h1,h2⟩:=h
 refine ⟨kvs,h1.on (k.block m h1.lt (.inl hC)),fun x=>⟨(h2 x).1,fun y hy=>?_⟩⟩
 obtain ⟨v,h4,h5⟩:=(h2 x).2 y hy
 exact ⟨v,h4,h5.keep k⟩
theorem ValsAt.below {w w':World} {m:Nat} {l:List (ByteArray × ByteArray)} (h:ValsAt w m l) (hb:Below w.heap.size w w'):ValsAt w' m l:=h.keep (C:=fun _=>False) (.of_below hb) (fun h=>h)
theorem BkAt.below {w w':World} {o:Ow} {B:Bk} (h:BkAt w o B) (hb:Below w.heap.size w w'):BkAt w' o B:=by
 obtain ⟨A,c,h1,h2⟩:=h.row
 exact ⟨h.wf,⟨A,c,h1.below hb h1.lt,h2.below hb⟩,h.vals.below hb⟩
theorem ValsAt.look {w:World} {m:Nat} {l:List (ByteArray × ByteArray)} (h:ValsAt w m l) (key:ByteArray) :
 ∃ kvs,StrMap w m kvs∧(getL key l=none→getS key kvs=none)∧∀ x,getL key l=some x→∃ v,getS key kvs=some v∧BytesAt w v x:=by
 obtain ⟨kvs,h1,h2⟩:=h
 exact ⟨kvs,h1,h2 key⟩
set_option maxHeartbeats 1600000 in
theorem there_b {w:World} {o:Ow} {B:Bk} (h:BkAt w o B) (key:ByteArray) (vs:List ByteArray) (A:Option Addr) (c:Nat) (hA:StrsAt w A vs) (hl:vs.length ≤ 1000) :
 Calls Tryz.prog 171 #[.pointer (some ⟨o.b,0,none⟩),.string key,.slice A vs.length c] w (StrErr (thereN B.l key vs) w):=by
 have HM:=Lib.hid (may_b h key vs A c hA hl)
 rcases mayN_or key vs with hm | hm
 · have hE:thereN B.l key vs=(⟨#[]⟩,2):=by unfold thereN;rw [if_pos hm]
   rw [hE]
   rw [hm] at HM
   clear h hA hm hE
   go_enter Tryz.func171,Tryz.ntmps171
   go_wp2_with (go_at_call 172;refine HM.out.mono ?_;rintro e w1 ⟨rfl,hb⟩;have HB:=Lib.hid hb;clear hb)
   go_ret2
   exact ⟨rfl,HB.out⟩
 · have hE:thereN B.l key vs=match getL key B.l with | none=>(⟨#[]⟩,5) | some v=>(v,0):=by unfold thereN;rw [if_neg (by rw [hm];decide)]
   rw [hE]
   rw [hm] at HM
   have HH:=Lib.hid h
   clear hA hm hE
   cases hg:getL key B.l with
   | none =>
     have HG:=Lib.hid hg
     clear hg h
     go_enter Tryz.func171,Tryz.ntmps171
     go_wp2_with fail
     refine HM.out.mono ?_
     rintro e w1 ⟨rfl,hb⟩
     obtain ⟨A1,c1,h1,h2⟩:=(HH.out.below hb).row
     have d1:w1.cell? ⟨o.b,1,none⟩=some (.map (some o.m)):=h1.cell 1
     obtain ⟨kvs,k1,k2,k3⟩:=(HH.out.below hb).vals.look key
     have k4:=k2 HG.out
     have HK:=Lib.hid k1
     have HB:=Lib.hid hb
     have HV:=Lib.hid (show (getS key kvs).getD (.slice none 0 0)=.slice none 0 0 by rw [k4];rfl)
     have HO:=Lib.hid (show (getS key kvs).isSome=false by rw [k4];rfl)
     clear h1 h2 k1 k2 k3 k4 hb
     go_wp2_with (at_lookup;refine wpList_lookup_str_ok rfl _ _ 132 rfl 9 135 Tryz.underlying132 Tryz.underlying9 (.slice none 0 0) (Tryz.zeroValue135 _) o.m kvs rfl HK.out key rfl _ _ HV.out HO.out ?_)
     go_ret2
     exact ⟨rfl,HB.out⟩
   | some x =>
     have HG:=Lib.hid hg
     clear hg h
     go_enter Tryz.func171,Tryz.ntmps171
     go_wp2_with fail
     refine HM.out.mono ?_
     rintro e w1 ⟨rfl,hb⟩
     obtain ⟨A1,c1,h1,h2⟩:=(HH.out.below hb).row
     have d1:w1.cell? ⟨o.b,1,none⟩=some (.map (some o.m)):=h1.cell 1
     obtain ⟨kvs,k1,k2,k3⟩:=(HH.out.below hb).vals.look key
     obtain ⟨v,k4,k5⟩:=k3 x HG.out
     have hc:=run_conv_bytes k5
     have HK:=Lib.hid k1
     have HB:=Lib.hid hb
     have HV:=Lib.hid (show (getS key kvs).getD (.slice none 0 0)=v by rw [k4];rfl)
     have HO:=Lib.hid (show (getS key kvs).isSome=true by rw [k4];rfl)
     clear h1 h2 k1 k2 k3 k4 k5 hb
     go_wp2_with (at_lookup;refine wpList_lookup_str_ok rfl _ _ 132 rfl 9 135 Tryz.underlying132 Tryz.underlying9 (.slice none 0 0) (Tryz.zeroValue135 _) o.m kvs rfl HK.out key rfl _ _ HV.out HO.out ?_)
     go_ret2
     exact ⟨rfl,HB.out⟩
theorem get_b {w:World} {o:Ow} {B:Bk} (h:BkAt w o B) (key:ByteArray) :
 Calls Tryz.prog 127 #[.pointer (some ⟨o.b,0,none⟩),.string key] w (StrErr (thereN B.l key []) w):=by
 have HT:=Lib.hid (there_b h key [] none 0 .nil (by simp))
 generalize thereN B.l key []=r at HT ⊢
 clear h
 go_enter Tryz.func127,Tryz.ntmps127
 go_wp2_with (go_at_call 171;refine HT.out.mono ?_;rintro e w1 ⟨rfl,hb⟩;have HB:=Lib.hid hb;clear hb)
 go_ret2
 exact ⟨rfl,HB.out⟩
theorem keys_b {w:World} {o:Ow} {B:Bk} (h:BkAt w o B) (hl:B.l.length ≤ 1000000):Calls Tryz.prog 133 #[.pointer (some ⟨o.b,0,none⟩)] w (StayV (.int .u64 (B.l.length:Nat)) w):=by
 have HN:=Lib.hid (none_b h)
 obtain ⟨A1,c1,h1,h2⟩:=h.row
 have d1:w.cell? ⟨o.b,0,none⟩=some (.slice A1 B.l.length c1):=h1.cell 0
 have hw:IntKind.u64.wrap (B.l.length:Int)=(B.l.length:Int):=by rw [IntKind.wrap_u64];omega
 clear h h1 h2
 go_enter Tryz.func133,Tryz.ntmps133
 go_wp2_with (go_at_call 67;refine HN.out.mono ?_;rintro e w1 ⟨rfl,rfl⟩)
 go_ret
 exact ⟨rfl,rfl⟩
theorem bytes_b {w:World} {o:Ow} {B:Bk} (h:BkAt w o B):Calls Tryz.prog 134 #[.pointer (some ⟨o.b,0,none⟩)] w (StayV (.int .u64 (sizeL B.l:Nat)) w):=by
 have HN:=Lib.hid (none_b h)
 obtain ⟨A1,c1,h1,h2⟩:=h.row
 have d1:w.cell? ⟨o.b,4,none⟩=some (.int .u64 (sizeL B.l:Nat)):=h1.cell 4
 clear h h1 h2
 go_enter Tryz.func134,Tryz.ntmps134
 go_wp2_with (go_at_call 67;refine HN.out.mono ?_;rintro e w1 ⟨rfl,rfl⟩)
 go_ret
 exact ⟨rfl,rfl⟩
theorem blk_at {w:World} {g:Nat} {t:TypeId} {cs:Array Value} (h:g=w.heap.size):Blk (w.alloc (.cells cs t)) g t cs:=by subst h;exact Blk.new _ _ _
theorem strMap_at {w:World} {g:Nat} (h:g=w.heap.size):StrMap (w.alloc (.map #[] 0)) g []:=by subst h;exact StrMap.made _
theorem StrMap.alloc {w:World} {g:Nat} {kvs:Kvs} (h:StrMap w g kvs) (o:Obj):StrMap (w.alloc o) g kvs:=h.on (Below.heap_alloc w o g h.lt)
def NewB (qk qb:Int) (w:World) (e:Ending) (w':World):Prop :=
 ∃ o:Ow,e=.returned (.pointer (some ⟨o.b,0,none⟩))∧BkAt w' o ⟨[],qk,qb⟩∧(∀ i,o.has i→w.heap.size ≤ i)∧Below w.heap.size w w'
theorem new_b (qk qb:Int) (w:World) (h1:0 ≤ qk∧qk ≤ 18446744073709551615) (h2:0 ≤ qb∧qb ≤ 18446744073709551615):Calls Tryz.prog 136 #[.agg #[.int .u64 qk,.int .u64 qb]] w (NewB qk qb w):=by
 have HH:=Lib.hid (And.intro h1 h2)
 clear h1 h2
 have hmm:=@run_makeMap Tryz.prog
 go_enter Tryz.func136,Tryz.ntmps136
 go_wp2
 go_ret
 obtain ⟨h1,h2⟩:=HH.out
 refine ⟨⟨_,_,none⟩,rfl,⟨⟨h1,h2,by simp,by simp,by simpa using h1.1,by simpa [sizeL] using h2.1⟩,⟨none,0,blk_at (by simp),.inl ⟨rfl,rfl,rfl,rfl⟩⟩,⟨[],(strMap_at (by simp)).alloc _,fun k=>⟨fun _=>rfl,fun x hx=>by cases hx⟩⟩⟩,?_,?_⟩
 · rintro i (rfl | rfl | h)
   · show _ ≤ w.heap.size + 1 + 1;omega
   · show _ ≤ w.heap.size + 1;omega
   · cases h
 · exact (((Below.refl _ _).alloc (Nat.le_refl _) _).alloc (by simp) _).alloc (by simp;omega) _
def BookEnd (r:Int) (o:Ow) (B':Bk) (w:World) (e:Ending) (w':World):Prop :=
 e=.returned (.int .i64 r)∧∃ ok,BkAt w' ⟨o.b,o.m,ok⟩ B'∧(ok=o.k ∨ ∃ g,ok=some g∧w.heap.size ≤ g)∧KeepC o.has w w'
def delB (B:Bk) (key:ByteArray):Int × Bk:=if (thereN B.l key []).2=0 then (0,{ B with l:=delL key B.l }) else ((thereN B.l key []).2,B)
theorem thereN_none {l:List (ByteArray × ByteArray)} {key:ByteArray} {vs:List ByteArray} (h:mayN key vs=0) (hg:getL key l=none):thereN l key vs=(⟨#[]⟩,5):=by
 unfold thereN
 rw [if_neg (by rw [h];decide),hg]
theorem thereN_some {l:List (ByteArray × ByteArray)} {key x:ByteArray} {vs:List ByteArray} (h:mayN key vs=0) (hg:getL key l=some x):thereN l key vs=(x,0):=by
 unfold thereN
 rw [if_neg (by rw [h];decide),hg]
theorem thereN_bad {l:List (ByteArray × ByteArray)} {key:ByteArray} {vs:List ByteArray} (h:mayN key vs=2):thereN l key vs=(⟨#[]⟩,2):=by
 unfold thereN
 rw [if_pos h]
theorem ow_self (o:Ow):(⟨o.b,o.m,o.k⟩:Ow)=o:=by cases o;rfl
section
variable {w:World} {o:Ow} {B:Bk}
theorem BkAt.blk (h:BkAt w o B):∃ cs,Blk w o.b 134 cs:=by
 obtain ⟨A,c,h1,_⟩:=h.row
 exact ⟨_,h1⟩
theorem BkAt.map (h:BkAt w o B):∃ kvs,StrMap w o.m kvs:=by
 obtain ⟨kvs,h1,_⟩:=h.vals
 exact ⟨kvs,h1⟩
theorem strMap_ne {m b:Nat} {kvs:Kvs} {t:TypeId} {cs:Array Value} (h:StrMap w m kvs) (k:Blk w b t cs):m ≠ b:=by
 rintro rfl
 obtain ⟨es,ck,h1,_⟩:=h
 unfold Blk at k
 rw [h1] at k
 injection k with k
 cases k
theorem BkAt.mb (h:BkAt w o B):o.m ≠ o.b:=by
 obtain ⟨cs,h1⟩:=h.blk
 obtain ⟨kvs,h2⟩:=h.map
 exact strMap_ne h2 h1
theorem BkAt.km (h:BkAt w o B):o.k ≠ some o.m:=by
 intro e
 obtain ⟨A,c,h1,h2⟩:=h.row
 obtain ⟨kvs,h3⟩:=h.map
 rcases h2 with ⟨h4,_⟩ | ⟨kb,cs,h4,_,h5,_⟩
 · rw [h4] at e;cases e
 · rw [h4] at e;injection e with e;subst e;exact strMap_ne h3 h5 rfl
theorem BkAt.lt (h:BkAt w o B) {i:Nat} (hi:o.has i):i < w.heap.size:=by
 rcases hi with rfl | rfl | hi
 · obtain ⟨cs,h1⟩:=h.blk;exact h1.lt
 · obtain ⟨kvs,h2⟩:=h.map;exact h2.lt
 · obtain ⟨A,c,h1,h2⟩:=h.row;exact h2.lt hi
theorem BkAt.keep {C:Nat→Prop} {w':World} (h:BkAt w o B) (k:KeepC C w w') (hC:∀ i,o.has i→¬ C i):BkAt w' o B:=by
 obtain ⟨A,c,h1,h2⟩:=h.row
 exact ⟨h.wf,⟨A,c,k.blk h1 (hC _ (.inl rfl)),h2.keep k (fun g hg=>hC g (.inr (.inr hg)))⟩,h.vals.keep k (hC _ (.inr (.inl rfl)))⟩
end
set_option maxHeartbeats 3200000 in
theorem del_b {w:World} {o:Ow} {B:Bk} (h:BkAt w o B) (key:ByteArray) (hl:B.l.length ≤ 1000000) :
 Calls Tryz.prog 129 #[.pointer (some ⟨o.b,0,none⟩),.string key] w (BookEnd (delB B key).1 o (delB B key).2 w):=by
 have HT:=Lib.hid (there_b h key [] none 0 .nil (by simp))
 have HH:=Lib.hid h
 by_cases h0:(thereN B.l key []).2=0
 · have hE:delB B key=(0,{ B with l:=delL key B.l }):=by unfold delB;rw [if_pos h0]
   rw [hE]
   have hm:mayN key []=0:=by
    rcases mayN_or key [] with h1 | h1
    · rw [thereN_bad h1] at h0;cases h0
    · exact h1
   obtain ⟨x,hg⟩:∃ x,getL key B.l=some x:=by
    cases hg:getL key B.l with
    | none=>rw [thereN_none hm hg] at h0;cases h0
    | some x=>exact ⟨x,rfl⟩
   rw [thereN_some hm hg] at HT
   have HG:=Lib.hid hg
   clear h h0 hE hm hg
   go_enter Tryz.func129,Tryz.ntmps129
   go_wp2_with fail
   refine HT.out.mono ?_
   rintro e w1 ⟨rfl,hb⟩
   have H1:=HH.out.below hb
   have HB:=Lib.hid hb
   clear hb
   obtain ⟨A1,c1,b1,k1⟩:=H1.row
   have hmem:key ∈ keysL B.l:=List.mem_map_of_mem (f:=(·.1)) (getL_mem HG.out)
   have hlen:(keysL B.l).length=B.l.length:=by simp
   rw [← hlen] at b1
   have HD:=Lib.hid (drop_b b1 k1 H1.wf.keys (by omega) key hmem)
   have H1':=Lib.hid H1
   have BK:=Lib.hid (And.intro b1 k1)
   clear H1 b1 k1 hmem hlen
   go_wp2_with fail
   refine HD.out.mono ?_
   rintro e w2 ⟨rfl,A2,c2,ok2,b2,k2,g2,q2⟩
   have hkl:keysL (delL key B.l)=delK (posK key (keysL B.l)) (keysL B.l):=keys_delL HH.out.wf.keys (List.mem_map_of_mem (f:=(·.1)) (getL_mem HG.out))
   rw [← hkl] at b2 k2
   rw [List.length_map] at b2
   clear hkl
   obtain ⟨kvs,n1,n2⟩:=H1'.out.vals
   have n3:StrMap w2 o.m kvs:=n1.on (q2.block o.m n1.lt (.inl (fun hc=>hc.elim H1'.out.mb H1'.out.km)))
   have d1:w2.cell? ⟨o.b,1,none⟩=some (.map (some o.m)):=b2.cell 1
   have B2:=Lib.hid b2
   have N3:=Lib.hid n3
   have hne:=H1'.out.mb
   have HS:Hid (IntKind.u64.wrap ((sizeL B.l:Int) - ((key.size + x.size:Nat):Int))=(sizeL (delL key B.l):Int)):=Lib.hid (by
    have h1:=size_delL HG.out
    have h2:=HH.out.wf.nb
    have h3:=HH.out.wf.qb
    rw [IntKind.wrap_u64];omega)
   have HX:=Lib.hid (HH.out.wf.short _ (getL_mem HG.out))
   have Q2:=Lib.hid q2
   have K2:=Lib.hid k2
   have N2:=Lib.hid n2
   have G2:=Lib.hid g2
   clear b2 n1 n2 n3 q2 k2 g2
   go_wp2_with (at_delete;refine wpList_delete_str rfl _ _ 132 9 rfl 9 135 Tryz.underlying132 Tryz.underlying9 o.m kvs rfl N3.out key rfl ?_;intro w3 m3 g3;have b3:=Blk.grown B2.out g3 (fun e=>hne (by injection e with e;exact e.symm));have d4:w3.cell? ⟨o.b,4,none⟩=some (.int .u64 (sizeL B.l:Int)):=b3.cell 4;have f4:w3.frozen? ⟨o.b,4,none⟩=false:=b3.frozen 4)
   have B3:=Lib.hid b3
   have M3:=Lib.hid m3
   have G3:=Lib.hid g3
   clear b3 m3 g3
   have HZ:=Lib.hid (size_b key x w3.drew (by have:=HX.out;omega) (by have:=HX.out;omega))
   have hs:=HS.out
   have HEND:Hid (BookEnd 0 o { B with l:=delL key B.l } w (.returned (.int .i64 0)) ((w3.setCell ⟨o.b,4,none⟩ (.int .u64 (sizeL (delL key B.l):Int))).drew)):=Lib.hid (by
    have hwf:({ B with l:=delL key B.l }:Bk).wf:=by
        have h1:=size_delL HG.out
        have h2:(delL key B.l).length ≤ B.l.length:=delL_sub.length_le
        obtain ⟨p1,p2,p3,p4,p5,p6⟩:=HH.out.wf
        exact ⟨p1,p2,sorted_delL p3,fun p hp=>p4 p (delL_sub.mem hp),by show ((delL key B.l).length:Int) ≤ B.qk;omega,by show (sizeL (delL key B.l):Int) ≤ B.qb;omega⟩
    have hq3:KeepC (fun i=>i=o.b ∨ i=o.m) w2 (w3.setCell ⟨o.b,4,none⟩ (.int .u64 (sizeL (delL key B.l):Int))) :=
        ((KeepC.refl (fun i=>i=o.b ∨ i=o.m) w2).grown G3.out (fun b hb=>by injection hb with hb;subst hb;exact ⟨fun _=>.inr rfl,N3.out.notU8⟩)).setCell B3.out (by decide) (fun _=>.inl rfl) _ _
    have hq:KeepC o.has w (w3.setCell ⟨o.b,4,none⟩ (.int .u64 (sizeL (delL key B.l):Int))) :=
        ((KeepC.refl o.has w).below HB.out |>.trans Q2.out (fun i _ h=>h.elim .inl (fun h=>.inr (.inr h)))).trans hq3 (fun i _ h=>h.elim .inl (fun h=>.inr (.inl h)))
    refine ⟨rfl,ok2,⟨hwf,⟨A2,c2,(B3.out.set_ 4 _).drew,?_⟩,⟨delS key kvs,M3.out.on (Below.heap_setCell _ _ _ _ hne),fun k=>⟨fun hk=>?_,fun y hy=>?_⟩⟩⟩,?_,hq.drew⟩
    · refine (KeysAt.keep K2.out hq3 (fun g hg hc=>?_):KeysAt _ ok2 A2 c2 (keysL (delL key B.l)))
      rcases hc with rfl | rfl
      · exact K2.out.ne B2.out (by decide) hg
      · rcases K2.out with ⟨h4,_⟩ | ⟨kb,cs,h4,_,h5,_⟩
        · rw [h4] at hg;cases hg
        · rw [h4] at hg;injection hg with hg;subst hg;exact strMap_ne N3.out h5 rfl
    · have hnd:(kvs.map (·.1)).Nodup:=by
       obtain ⟨es,ck,_,_,_,_,h⟩:=N3.out;exact h
      rw [getL_delL HH.out.wf.keys] at hk
      rw [getS_delS hnd]
      split
      · rfl
      · rename_i hne2;rw [if_neg hne2] at hk;exact (N2.out k).1 hk
    · have hnd:(kvs.map (·.1)).Nodup:=by
       obtain ⟨es,ck,_,_,_,_,h⟩:=N3.out;exact h
      rw [getL_delL HH.out.wf.keys] at hy
      split at hy
      · cases hy
      · rename_i hne2
        obtain ⟨v,h1,h2⟩:=(N2.out k).2 y hy
        rw [getS_delS hnd,if_neg hne2]
        exact ⟨v,h1,((h2.keep Q2.out).keep hq3.drew)⟩
    · rcases G2.out with h | ⟨g,h1,h2⟩
      · exact .inl h
      · exact .inr ⟨g,h1,Nat.le_trans HB.out.size h2⟩)
   clear hl hne
   generalize ((key.size + x.size:Nat):Int)=sz at hs HZ
   go_region_with (go_at_call 173;refine HZ.out.mono ?_;rintro e w4 ⟨rfl,rfl⟩)
   all_goals
    go_wp2
    go_ret
    exact HEND.out
 · have hE:delB B key=((thereN B.l key []).2,B):=by unfold delB;rw [if_neg h0]
   rw [hE]
   generalize thereN B.l key []=r at HT h0 ⊢
   obtain ⟨s,n⟩:=r
   dsimp only at h0 ⊢
   clear h hE
   go_enter Tryz.func129,Tryz.ntmps129
   go_wp2_with (go_at_call 171;refine HT.out.mono ?_;rintro e w1 ⟨rfl,hb⟩;have HB:=Lib.hid hb;clear hb)
   go_ret
   exact ⟨rfl,o.k,by rw [ow_self];exact HH.out.below HB.out,.inl rfl,.of_below HB.out⟩
theorem u8_at {w:World} {x:ByteArray} {C:Nat} {z:Nat × Nat} {g:Nat} (h:g=w.heap.size):BytesAt (w.alloc (.cells (bytesRow x C) 5 z)) (.slice (some ⟨g,0,none⟩) x.size C) x:=by
 subst h
 have hb:(w.alloc (.cells (bytesRow x C) 5 z)).heap[w.heap.size]?=some (.cells (bytesRow x C) 5 z):=heap_alloc_new w _
 refine ⟨_,_,rfl,(fun h=>by cases h),fun _=>⟨_,0,rfl,⟨_,_,hb⟩,fun j hj=>?_⟩⟩
 rw [Nat.zero_add,cell_of_row _ _ j _ _ _ hb]
 exact bytesRow_at x C j hj
theorem conv_new (x:ByteArray) (w:World):∃ C z,(convert 9 135 (.string x)).run Tryz.prog w=.ok (.slice (some ⟨w.heap.size,0,none⟩) x.size C) (w.drew.alloc (.cells (bytesRow x C) 5 z)) :=
 ⟨_,_,run_bytes_of_string w 9 135 5 x Tryz.underlying9 Tryz.underlying135 Tryz.underlying5⟩
theorem StrOpen.notU8 {w:World} {b:Nat} {kvs:Kvs} {k:ByteArray} {st:Nat} (h:StrOpen w b kvs k st):¬ U8 w b:=by
 obtain ⟨es,ck,i,hb,_⟩:=h
 exact not_U8_map hb
def addK (x:ByteArray) (l:List (ByteArray × ByteArray)):List ByteArray:=if (getL x l).isSome then keysL l else insK (posK x (keysL l)) x (keysL l)
set_option maxHeartbeats 1600000 in
theorem add_old {w:World} {b:Nat} {ok:Option Nat} {A:Option Addr} {c:Nat} {ks:List ByteArray} {v1 v2 v3 v4:Value} (h0:Blk w b 134 #[.slice A ks.length c,v1,v2,v3,v4]) (h:KeysAt w ok A c ks) (hs:ks.Pairwise ltS) (hl:ks.length ≤ 1000000) (x:ByteArray) (hx:x ∈ ks) :
 Calls Tryz.prog 174 #[.pointer (some ⟨b,0,none⟩),.string x] w (KeysEnd b ok ks v1 v2 v3 v4 w):=by
 have HF:=Lib.hid (find_b h0 h hs hl x true ⟨fun _=>hx,fun _=>rfl⟩)
 have H0:=Lib.hid h0
 have H:=Lib.hid h
 clear h0 h hs hx
 go_enter Tryz.func174,Tryz.ntmps174
 go_wp2_with (go_at_call 176;refine HF.out.mono ?_;rintro e w1 ⟨rfl,hb⟩;have HB:=Lib.hid hb;clear hb)
 refine bodyPost_ret (results_none rfl _ _ _) rfl ?_
 exact ⟨rfl,A,c,ok,H0.out.below HB.out H0.out.lt,H.out.below HB.out,.inl rfl,.of_below HB.out⟩
theorem add_any {w:World} {b:Nat} {ok:Option Nat} {A:Option Addr} {c:Nat} {l:List (ByteArray × ByteArray)} {v1 v2 v3 v4:Value} (h0:Blk w b 134 #[.slice A l.length c,v1,v2,v3,v4]) (h:KeysAt w ok A c (keysL l)) (hs:(keysL l).Pairwise ltS) (hl:l.length ≤ 1000000) (x y:ByteArray) :
 Calls Tryz.prog 174 #[.pointer (some ⟨b,0,none⟩),.string x] w (KeysEnd b ok (keysL (putL x y l)) v1 v2 v3 v4 w):=by
 have hlen:(keysL l).length=l.length:=by simp
 rw [← hlen] at h0 hl
 rw [keys_putL hs]
 cases hg:getL x l with
 | none =>
   simp only [Option.isSome_none,Bool.false_eq_true,if_false]
   exact add_b h0 h hs hl x (getL_none.1 hg)
 | some v =>
   simp only [Option.isSome_some,if_true]
   exact add_old h0 h hs hl x (List.mem_map_of_mem (f:=(·.1)) (getL_mem hg))
def putB (B:Bk) (key value:ByteArray):Int × Bk :=
 if mayN key [value]=2 then (2,B) else if B.qk < ((putL key value B.l).length:Int) ∨ B.qb < (sizeL (putL key value B.l):Int) then (10,B) else (0,{ B with l:=putL key value B.l })
theorem putB_wf {B:Bk} {key value:ByteArray} (h:B.wf) (hm:mayN key [value]=0) (h1:¬ B.qk < ((putL key value B.l).length:Int)) (h2:¬ B.qb < (sizeL (putL key value B.l):Int)):({ B with l:=putL key value B.l }:Bk).wf:=by
 obtain ⟨p1,p2,p3,p4,p5,p6⟩:=h
 refine ⟨p1,p2,sorted_putL p3,fun p hp=>?_,by show ((putL key value B.l).length:Int) ≤ B.qk;omega,by show (sizeL (putL key value B.l):Int) ≤ B.qb;omega⟩
 rcases mem_putL hp with rfl | hp
 · unfold mayN at hm
   split at hm
   · cases hm
   · rename_i hn
     simp [longS] at hn
     exact ⟨by show key.size ≤ 16;omega,by show value.size ≤ 32;omega⟩
 · exact p4 p hp
theorem mayN_short {key:ByteArray} {vs:List ByteArray} (hm:mayN key vs=0):key.size ≤ 16∧∀ v ∈ vs,v.size ≤ 32:=by
 unfold mayN at hm
 split at hm
 · cases hm
 · rename_i hn
   simp [longS] at hn
   exact ⟨by omega,fun v hv=>by have:=hn.2 v hv;omega⟩
theorem sizeL_le {l:List (ByteArray × ByteArray)} (h:∀ p ∈ l,p.1.size ≤ 16∧p.2.size ≤ 32):sizeL l ≤ 48 * l.length:=by
 induction l with
 | nil=>simp [sizeL]
 | cons p r ih =>
   have h1:=h p (by simp)
   have h2:=ih (fun q hq=>h q (by simp [hq]))
   simp only [sizeL,List.map_cons,List.sum_cons,sizeP,List.length_cons] at h2 ⊢
   omega
def PutEnd (B:Bk) (o:Ow) (key value:ByteArray) (w:World) (e:Ending) (w':World):Prop:=BookEnd (putB B key value).1 o (putB B key value).2 w e w'
theorem putEnd_no {B:Bk} {o:Ow} {key value:ByteArray} {w w':World} {n:Int} (h:BkAt w o B) (hb:Below w.heap.size w w') (hE:putB B key value=(n,B)):PutEnd B o key value w (.returned (.int .i64 n)) w':=by
 unfold PutEnd
 rw [hE]
 exact ⟨rfl,o.k,by rw [ow_self];exact h.below hb,.inl rfl,.of_below hb⟩
theorem putEnd_yes {B:Bk} {o:Ow} {key value:ByteArray} {w w1 w2 w5:World} {A2:Option Addr} {c2:Nat} {ok2:Option Nat} {kvs:Kvs} {val:Value} (h:BkAt w o B) (hb:Below w.heap.size w w1) (hE:putB B key value=(0,{ B with l:=putL key value B.l }))
 (hwf:({ B with l:=putL key value B.l }:Bk).wf) (hv:∀ k,(getL k B.l=none→getS k kvs=none)∧∀ x,getL k B.l=some x→∃ v,getS k kvs=some v∧BytesAt w1 v x)
 (k2:KeysAt w2 ok2 A2 c2 (keysL (putL key value B.l))) (hne2:ok2 ≠ some o.b∧ok2 ≠ some o.m) (g2:ok2=o.k ∨ ∃ g,ok2=some g∧w1.heap.size ≤ g) (q2:KeepC (fun j=>j=o.b ∨ o.k=some j) w1 w2)
 (q5:KeepC (fun j=>j=o.b ∨ j=o.m) w2 w5) (b5:Blk w5 o.b 134 #[.slice A2 (putL key value B.l).length c2,.map (some o.m),.int .u64 B.qk,.int .u64 B.qb,.int .u64 (sizeL (putL key value B.l):Int)])
 (m5:StrMap w5 o.m (putS key val kvs)) (hval:BytesAt w5 val value):PutEnd B o key value w (.returned (.int .i64 0)) w5:=by
 unfold PutEnd
 rw [hE]
 refine ⟨rfl,ok2,⟨hwf,⟨A2,c2,b5,k2.keep q5 (fun g hg hc=>hc.elim (fun e=>hne2.1 (by rw [hg,e])) (fun e=>hne2.2 (by rw [hg,e])))⟩,⟨putS key val kvs,m5,fun k=>⟨fun hk=>?_,fun x hx=>?_⟩⟩⟩,?_,?_⟩
 · rw [getL_putL] at hk
   rw [getS_putS]
   split
   · rename_i he;rw [if_pos he] at hk;cases hk
   · rename_i he;rw [if_neg he] at hk;exact (hv k).1 hk
 · rw [getL_putL] at hx
   rw [getS_putS]
   split
   · rename_i he
     rw [if_pos he] at hx
     injection hx with hx
     subst hx
     exact ⟨val,rfl,hval⟩
   · rename_i he
     rw [if_neg he] at hx
     obtain ⟨v,h1,h2⟩:=(hv k).2 x hx
     exact ⟨v,h1,(h2.keep q2).keep q5⟩
 · rcases g2 with h1 | ⟨g,h1,h2⟩
   · exact .inl h1
   · exact .inr ⟨g,h1,Nat.le_trans hb.size h2⟩
 · exact (((KeepC.refl o.has w).below hb).trans q2 (fun i _ h=>h.elim .inl (fun h=>.inr (.inr h)))).trans q5 (fun i _ h=>h.elim .inl (fun h=>.inr (.inl h)))
set_option maxHeartbeats 6400000 in
set_option maxRecDepth 100000 in
theorem put_b {w:World} {o:Ow} {B:Bk} (h:BkAt w o B) (key value:ByteArray) (hl:B.l.length ≤ 1000000) :
 Calls Tryz.prog 128 #[.pointer (some ⟨o.b,0,none⟩),.string key,.string value] w (PutEnd B o key value w):=by
 have hvs:StrsAt (w.alloc (.cells #[.string value] 9)) (some ⟨w.heap.size,0,none⟩) [value]:=fun _=>⟨w.heap.size,rfl,fun i hi=>by
  obtain rfl:i=0:=by simpa using hi
  exact (Blk.new w 9 #[.string value]).cell 0⟩
 have hb0:=(Below.refl w.heap.size w).alloc (Nat.le_refl _) (.cells #[.string value] 9)
 have HM:=Lib.hid (may_b (h.below hb0) key [value] (some ⟨w.heap.size,0,none⟩) 1 hvs (by simp))
 have HB0:=Lib.hid hb0
 have HH:=Lib.hid h
 clear hvs hb0 h
 rcases mayN_or key [value] with hm | hm
 · have HE:=Lib.hid (show putB B key value=(2,B) by unfold putB;rw [if_pos hm])
   rw [hm] at HM
   clear hm
   go_enter Tryz.func128,Tryz.ntmps128
   go_wp2_with (go_at_call 172;refine HM.out.mono ?_;rintro e w1 ⟨rfl,hb⟩;have HB:=Lib.hid (HB0.out.trans (hb.mono HB0.out.size));clear hb)
   go_ret
   exact putEnd_no HH.out HB.out HE.out
 · rw [hm] at HM
   have HMZ:=Lib.hid hm
   have hsh:=mayN_short hm
   have HSH:=Lib.hid (show key.size ≤ 16∧value.size ≤ 32 from ⟨hsh.1,hsh.2 value (by simp)⟩)
   clear hm hsh
   have hsz:=sizeL_le HH.out.wf.short
   have hszp:=size_putL (k:=key) (v:=value) HH.out.wf.keys
   have hlp:=len_putL (k:=key) (v:=value) HH.out.wf.keys
   have HZ:=Lib.hid (And.intro hsz (And.intro hszp hlp))
   clear hsz hszp hlp
   cases hg:getL key B.l with
   | none =>
     have HG:=Lib.hid hg
     have hlen:Hid (((B.l.length:Int) + 1)=((putL key value B.l).length:Int)):=Lib.hid (by have:=HZ.out.2.2;rw [hg,if_pos rfl] at this;omega)
     have hu1:IntKind.u64.wrap (B.l.length:Int)=(B.l.length:Int):=by rw [IntKind.wrap_u64];omega
     have hu2:IntKind.u64.wrap ((B.l.length:Int) + 1)=(((putL key value B.l).length:Nat):Int):=by have:=hlen.out;rw [IntKind.wrap_u64];omega
     have hs2:IntKind.u64.wrap ((sizeL B.l:Int) + ((key.size + value.size:Nat):Int))=(sizeL (putL key value B.l):Int):=by
       have h1:=HZ.out.2.1
       have h2:=HZ.out.1
       have h3:=HSH.out
       unfold oldS at h1
       rw [hg] at h1
       simp only [Option.map_none,Option.getD_none] at h1
       rw [IntKind.wrap_u64];omega
     clear hg
     go_enter Tryz.func128,Tryz.ntmps128
     go_wp2_with fail
     refine HM.out.mono ?_
     rintro e w1 ⟨rfl,hb⟩
     have HB:=Lib.hid (HB0.out.trans (hb.mono HB0.out.size))
     clear hb
     have H1:=HH.out.below HB.out
     obtain ⟨A1,c1,b1,k1⟩:=H1.row
     obtain ⟨kvs,n1,n2⟩:=H1.vals
     have d0:w1.cell? ⟨o.b,0,none⟩=some (.slice A1 B.l.length c1):=b1.cell 0
     have d1:w1.cell? ⟨o.b,1,none⟩=some (.map (some o.m)):=b1.cell 1
     have d2:w1.cell? ⟨o.b,2,none⟩=some (.int .u64 B.qk):=b1.cell 2
     have d3:w1.cell? ⟨o.b,3,none⟩=some (.int .u64 B.qb):=b1.cell 3
     have d4:w1.cell? ⟨o.b,4,none⟩=some (.int .u64 (sizeL B.l:Int)):=b1.cell 4
     have N1:=Lib.hid n1
     have N2:=Lib.hid n2
     have BK:=Lib.hid (And.intro b1 k1)
     have H1':=Lib.hid H1
     have k4:=(n2 key).1 HG.out
     have HV:=Lib.hid (show (getS key kvs).getD (.slice none 0 0)=.slice none 0 0 by rw [k4];rfl)
     have HO:=Lib.hid (show (getS key kvs).isSome=false by rw [k4];rfl)
     clear b1 k1 n1 n2 H1 k4
     have HS2:=Lib.hid (size_b key value w1.drew (by have:=HSH.out;omega) (by have:=HSH.out;omega))
     generalize ((key.size + value.size:Nat):Int)=sz2 at hs2 HS2
     go_wp2_with fail
     go_region
     all_goals
       go_wp2_with (first | (at_lookup;refine wpList_lookup_str_ok rfl _ _ 132 rfl 9 135 Tryz.underlying132 Tryz.underlying9 (.slice none 0 0) (Tryz.zeroValue135 _) o.m kvs rfl (N1.out.on rfl) key rfl _ _ HV.out HO.out ?_) | fail)
       refine HS2.out.mono ?_
       rintro e w2 ⟨rfl,rfl⟩
       have HN:Hid (∃ N,((putL key value B.l).length:Int)=N):=Lib.hid ⟨_,rfl⟩
       by_cases ha:B.qk < ((putL key value B.l).length:Int)
       · have HE:=Lib.hid (show putB B key value=(10,B) by unfold putB;rw [if_neg (by rw [HMZ.out];decide),if_pos (.inl ha)])
         go_wp2
         go_ret
         exact putEnd_no HH.out HB.out.drew HE.out
       · by_cases hbq:B.qb < (sizeL (putL key value B.l):Int)
         · have HE:=Lib.hid (show putB B key value=(10,B) by unfold putB;rw [if_neg (by rw [HMZ.out];decide),if_pos (.inr hbq)])
           go_wp2
           go_ret
           exact putEnd_no HH.out HB.out.drew HE.out
         · have HE:=Lib.hid (show putB B key value=(0,{ B with l:=putL key value B.l }) by unfold putB;rw [if_neg (by rw [HMZ.out];decide),if_neg (fun h=>h.elim ha hbq)])
           have HWF:=Lib.hid (putB_wf HH.out.wf HMZ.out ha hbq)
           have HADD:=Lib.hid (add_any BK.out.1.drew (KeysAt.below BK.out.2 ((Below.refl _ _).drew)) HH.out.wf.keys hl key value)
           go_wp2_with fail
           refine HADD.out.mono ?_
           rintro e w3 ⟨rfl,A2,c2,ok2,b2,k2,g2,q2⟩
           have hmb:=H1'.out.mb
           have hkm:=H1'.out.km
           have n3:StrMap w3 o.m kvs:=N1.out.on (q2.block o.m N1.out.lt (.inl (fun hc=>hc.elim hmb hkm)))
           have e1:w3.cell? ⟨o.b,1,none⟩=some (.map (some o.m)):=b2.cell 1
           have hne2:ok2 ≠ some o.b∧ok2 ≠ some o.m:=⟨k2.ne b2 (by decide),fun e=>by
              rcases k2 with ⟨h4,_⟩ | ⟨kb,cs,h4,_,h5,_⟩
              · rw [h4] at e;cases e
              · rw [h4] at e;injection e with e;subst e;exact strMap_ne n3 h5 rfl⟩
           have K3:=Lib.hid (And.intro b2 (And.intro k2 (And.intro g2 (And.intro q2 (And.intro n3 hne2)))))
           obtain ⟨C,z,hcv⟩:=conv_new value w3
           have HMB:=Lib.hid hmb
           clear b2 k2 g2 q2 n3 hne2 hkm ha hbq hmb HADD
           go_wp2_with (first
              | (refine wpList_mapEntry_str rfl _ _ 132 rfl 9 135 Tryz.underlying132 Tryz.underlying9 (.slice none 0 0) (Tryz.zeroValue135 _) o.m kvs rfl ((K3.out.2.2.2.2.1.alloc (.cells (bytesRow value C) 5 z)).on rfl) key rfl ?_
                 intro v0 st w4 s4 g4
                 have S4:=Lib.hid s4
                 have G4:=Lib.hid g4
                 clear s4 g4)
              | (refine wpList_entryStore_str rfl _ _ _ 132 rfl o.m kvs key st rfl S4.out rfl _ rfl ?_
                 intro w5 m5 g5
                 have b5:Blk w5 o.b 134 #[.slice A2 (keysL (putL key value B.l)).length c2,.map (some o.m),.int .u64 B.qk,.int .u64 B.qb,.int .u64 (sizeL B.l:Int)]:=Blk.grown (Blk.grown (K3.out.1.alloc (.cells (bytesRow value C) 5 z)).drew G4.out (fun e=>HMB.out (by injection e with e;exact e.symm))) g5 (fun e=>HMB.out (by injection e with e;exact e.symm))
                 have e4:w5.cell? ⟨o.b,4,none⟩=some (.int .u64 (sizeL B.l:Int)):=b5.cell 4
                 have f4:w5.frozen? ⟨o.b,4,none⟩=false:=b5.frozen 4
                 have M5:=Lib.hid (And.intro m5 (And.intro g5 b5))
                 clear m5 g5 b5))
           go_ret
           obtain ⟨b2,k2,g2,q2,n3,hne2⟩:=K3.out
           obtain ⟨m5,g5,b5⟩:=M5.out
           have q35:KeepC (fun j=>j=o.b ∨ j=o.m) ((w3.alloc (.cells (bytesRow value C) 5 z)).drew) (w5.setCell ⟨o.b,4,none⟩ (.int .u64 (sizeL (putL key value B.l):Int))) :=
              (((KeepC.refl _ _).grown G4.out (fun b hb=>by injection hb with hb;subst hb;exact ⟨fun _=>.inr rfl,(n3.alloc _).notU8⟩)).grown g5 (fun b hb=>by injection hb with hb;subst hb;exact ⟨fun _=>.inr rfl,S4.out.notU8⟩)).setCell b5 (by decide) (fun _=>.inl rfl) _ _
           have b6:=b5.set_ 4 (.int .u64 (sizeL (putL key value B.l):Int))
           rw [List.length_map] at b6
           have hv0:BytesAt ((w3.alloc (.cells (bytesRow value C) 5 z)).drew) (.slice (some ⟨w3.heap.size,0,none⟩) value.size C) value:=u8_at (w:=w3) rfl
           exact putEnd_yes HH.out HB.out.drew HE.out HWF.out (fun k=>⟨(N2.out k).1,fun x hx=>by
              obtain ⟨v,h1,h2⟩:=(N2.out k).2 x hx
              exact ⟨v,h1,h2.keep (C:=fun _=>False) (.of_below ((Below.refl _ _).drew))⟩⟩) k2 hne2 g2 q2
              ((((KeepC.refl _ w3).alloc _).drew).trans q35 (fun i _ h=>h)) b6 (m5.on (Below.heap_setCell _ _ _ _ HMB.out)) (hv0.keep q35)
   | some x =>
     have HG:=Lib.hid hg
     have hlen:Hid ((B.l.length:Int)=((putL key value B.l).length:Int)):=Lib.hid (by have:=HZ.out.2.2;rw [hg,if_neg (by simp)] at this;omega)
     have hx:=HH.out.wf.short _ (getL_mem hg)
     have HX:=Lib.hid hx
     have hsl:Hid (key.size + x.size ≤ sizeL B.l):=Lib.hid (by have:=size_delL hg;omega)
     have hu1:IntKind.u64.wrap (B.l.length:Int)=(((putL key value B.l).length:Nat):Int):=by rw [← hlen.out,IntKind.wrap_u64];omega
     have hs1:IntKind.u64.wrap ((sizeL B.l:Int) - ((key.size + x.size:Nat):Int))=((sizeL B.l - (key.size + x.size):Nat):Int):=by
       have h1:=hsl.out
       have h2:=HZ.out.1
       rw [IntKind.wrap_u64];omega
     have hs2:IntKind.u64.wrap (((sizeL B.l - (key.size + x.size):Nat):Int) + ((key.size + value.size:Nat):Int))=(sizeL (putL key value B.l):Int):=by
       have h1:=HZ.out.2.1
       have h2:=HZ.out.1
       have h3:=HSH.out
       have h4:=hsl.out
       unfold oldS at h1
       rw [hg] at h1
       simp only [Option.map_some,Option.getD_some] at h1
       rw [IntKind.wrap_u64];omega
     clear hx
     clear hg
     go_enter Tryz.func128,Tryz.ntmps128
     go_wp2_with fail
     refine HM.out.mono ?_
     rintro e w1 ⟨rfl,hb⟩
     have HB:=Lib.hid (HB0.out.trans (hb.mono HB0.out.size))
     clear hb
     have H1:=HH.out.below HB.out
     obtain ⟨A1,c1,b1,k1⟩:=H1.row
     obtain ⟨kvs,n1,n2⟩:=H1.vals
     have d0:w1.cell? ⟨o.b,0,none⟩=some (.slice A1 B.l.length c1):=b1.cell 0
     have d1:w1.cell? ⟨o.b,1,none⟩=some (.map (some o.m)):=b1.cell 1
     have d2:w1.cell? ⟨o.b,2,none⟩=some (.int .u64 B.qk):=b1.cell 2
     have d3:w1.cell? ⟨o.b,3,none⟩=some (.int .u64 B.qb):=b1.cell 3
     have d4:w1.cell? ⟨o.b,4,none⟩=some (.int .u64 (sizeL B.l:Int)):=b1.cell 4
     have N1:=Lib.hid n1
     have N2:=Lib.hid n2
     have BK:=Lib.hid (And.intro b1 k1)
     have H1':=Lib.hid H1
     obtain ⟨vx,k4,k5⟩:=(n2 key).2 x HG.out
     have hcx:=fun n=>run_conv_bytes (k5.keep (C:=fun _=>False) (.of_below (below_drewN (Below.refl _ _) n)))
     have hcx1:=run_conv_bytes (k5.keep (C:=fun _=>False) (.of_below ((Below.refl _ _).drew)))
     have HV:=Lib.hid (show (getS key kvs).getD (.slice none 0 0)=vx by rw [k4];rfl)
     have HO:=Lib.hid (show (getS key kvs).isSome=true by rw [k4];rfl)
     clear b1 k1 n1 n2 H1 k4 k5
     have HS2:=Lib.hid (size_b key value w1.drew (by have:=HSH.out;omega) (by have:=HSH.out;omega))
     have HS1:=Lib.hid (size_b key x w1.drew (by have:=HX.out;omega) (by have:=HX.out;omega))
     generalize ((key.size + x.size:Nat):Int)=sz1 at hs1 HS1
     generalize ((sizeL B.l - (key.size + x.size):Nat):Int)=sd at hs1 hs2
     generalize ((key.size + value.size:Nat):Int)=sz2 at hs2 HS2
     go_wp2_with fail
     go_region
     all_goals
       go_wp2_with (first | (at_lookup;refine wpList_lookup_str_ok rfl _ _ 132 rfl 9 135 Tryz.underlying132 Tryz.underlying9 (.slice none 0 0) (Tryz.zeroValue135 _) o.m kvs rfl (N1.out.on rfl) key rfl _ _ HV.out HO.out ?_) | fail)
       refine HS1.out.mono ?_
       rintro e w2 ⟨rfl,rfl⟩
       go_wp2_with fail
       refine HS2.out.mono ?_
       rintro e w2 ⟨rfl,rfl⟩
       have HN:Hid (∃ N,((putL key value B.l).length:Int)=N):=Lib.hid ⟨_,rfl⟩
       by_cases ha:B.qk < ((putL key value B.l).length:Int)
       · have HE:=Lib.hid (show putB B key value=(10,B) by unfold putB;rw [if_neg (by rw [HMZ.out];decide),if_pos (.inl ha)])
         go_wp2
         go_ret
         exact putEnd_no HH.out HB.out.drew HE.out
       · by_cases hbq:B.qb < (sizeL (putL key value B.l):Int)
         · have HE:=Lib.hid (show putB B key value=(10,B) by unfold putB;rw [if_neg (by rw [HMZ.out];decide),if_pos (.inr hbq)])
           go_wp2
           go_ret
           exact putEnd_no HH.out HB.out.drew HE.out
         · have HE:=Lib.hid (show putB B key value=(0,{ B with l:=putL key value B.l }) by unfold putB;rw [if_neg (by rw [HMZ.out];decide),if_neg (fun h=>h.elim ha hbq)])
           have HWF:=Lib.hid (putB_wf HH.out.wf HMZ.out ha hbq)
           have HADD:=Lib.hid (add_any BK.out.1.drew (KeysAt.below BK.out.2 ((Below.refl _ _).drew)) HH.out.wf.keys hl key value)
           go_wp2_with fail
           refine HADD.out.mono ?_
           rintro e w3 ⟨rfl,A2,c2,ok2,b2,k2,g2,q2⟩
           have hmb:=H1'.out.mb
           have hkm:=H1'.out.km
           have n3:StrMap w3 o.m kvs:=N1.out.on (q2.block o.m N1.out.lt (.inl (fun hc=>hc.elim hmb hkm)))
           have e1:w3.cell? ⟨o.b,1,none⟩=some (.map (some o.m)):=b2.cell 1
           have hne2:ok2 ≠ some o.b∧ok2 ≠ some o.m:=⟨k2.ne b2 (by decide),fun e=>by
              rcases k2 with ⟨h4,_⟩ | ⟨kb,cs,h4,_,h5,_⟩
              · rw [h4] at e;cases e
              · rw [h4] at e;injection e with e;subst e;exact strMap_ne n3 h5 rfl⟩
           have K3:=Lib.hid (And.intro b2 (And.intro k2 (And.intro g2 (And.intro q2 (And.intro n3 hne2)))))
           obtain ⟨C,z,hcv⟩:=conv_new value w3
           have HMB:=Lib.hid hmb
           clear b2 k2 g2 q2 n3 hne2 hkm ha hbq hmb HADD
           go_wp2_with (first
              | (refine wpList_mapEntry_str rfl _ _ 132 rfl 9 135 Tryz.underlying132 Tryz.underlying9 (.slice none 0 0) (Tryz.zeroValue135 _) o.m kvs rfl ((K3.out.2.2.2.2.1.alloc (.cells (bytesRow value C) 5 z)).on rfl) key rfl ?_
                 intro v0 st w4 s4 g4
                 have S4:=Lib.hid s4
                 have G4:=Lib.hid g4
                 clear s4 g4)
              | (refine wpList_entryStore_str rfl _ _ _ 132 rfl o.m kvs key st rfl S4.out rfl _ rfl ?_
                 intro w5 m5 g5
                 have b5:Blk w5 o.b 134 #[.slice A2 (keysL (putL key value B.l)).length c2,.map (some o.m),.int .u64 B.qk,.int .u64 B.qb,.int .u64 (sizeL B.l:Int)]:=Blk.grown (Blk.grown (K3.out.1.alloc (.cells (bytesRow value C) 5 z)).drew G4.out (fun e=>HMB.out (by injection e with e;exact e.symm))) g5 (fun e=>HMB.out (by injection e with e;exact e.symm))
                 have e4:w5.cell? ⟨o.b,4,none⟩=some (.int .u64 (sizeL B.l:Int)):=b5.cell 4
                 have f4:w5.frozen? ⟨o.b,4,none⟩=false:=b5.frozen 4
                 have M5:=Lib.hid (And.intro m5 (And.intro g5 b5))
                 clear m5 g5 b5))
           go_ret
           obtain ⟨b2,k2,g2,q2,n3,hne2⟩:=K3.out
           obtain ⟨m5,g5,b5⟩:=M5.out
           have q35:KeepC (fun j=>j=o.b ∨ j=o.m) ((w3.alloc (.cells (bytesRow value C) 5 z)).drew) (w5.setCell ⟨o.b,4,none⟩ (.int .u64 (sizeL (putL key value B.l):Int))) :=
              (((KeepC.refl _ _).grown G4.out (fun b hb=>by injection hb with hb;subst hb;exact ⟨fun _=>.inr rfl,(n3.alloc _).notU8⟩)).grown g5 (fun b hb=>by injection hb with hb;subst hb;exact ⟨fun _=>.inr rfl,S4.out.notU8⟩)).setCell b5 (by decide) (fun _=>.inl rfl) _ _
           have b6:=b5.set_ 4 (.int .u64 (sizeL (putL key value B.l):Int))
           rw [List.length_map] at b6
           have hv0:BytesAt ((w3.alloc (.cells (bytesRow value C) 5 z)).drew) (.slice (some ⟨w3.heap.size,0,none⟩) value.size C) value:=u8_at (w:=w3) rfl
           exact putEnd_yes HH.out HB.out.drew HE.out HWF.out (fun k=>⟨(N2.out k).1,fun x hx=>by
              obtain ⟨v,h1,h2⟩:=(N2.out k).2 x hx
              exact ⟨v,h1,h2.keep (C:=fun _=>False) (.of_below ((Below.refl _ _).drew))⟩⟩) k2 hne2 g2 q2
              ((((KeepC.refl _ w3).alloc _).drew).trans q35 (fun i _ h=>h)) b6 (m5.on (Below.heap_setCell _ _ _ _ HMB.out)) (hv0.keep q35)
def swapB (B:Bk) (key old value:ByteArray):Int × Bk :=
 if (thereN B.l key [old,value]).2=0 then (if (thereN B.l key [old,value]).1=old then putB B key value else (9,B)) else ((thereN B.l key [old,value]).2,B)
theorem bookEnd_same {r:Int} {o:Ow} {B:Bk} {w w':World} (h:BkAt w o B) (hb:Below w.heap.size w w'):BookEnd r o B w (.returned (.int .i64 r)) w' :=
 ⟨rfl,o.k,by rw [ow_self];exact h.below hb,.inl rfl,.of_below hb⟩
theorem bookEnd_from {r:Int} {o:Ow} {B':Bk} {w w1 w':World} {e:Ending} (hb:Below w.heap.size w w1) (h:BookEnd r o B' w1 e w'):BookEnd r o B' w e w':=by
 obtain ⟨h1,ok,h2,h3,h4⟩:=h
 refine ⟨h1,ok,h2,h3.imp id (fun ⟨g,a,b⟩=>⟨g,a,Nat.le_trans hb.size b⟩),((KeepC.refl o.has w).below hb).trans h4 (fun _ _ h=>h)⟩
set_option maxHeartbeats 3200000 in
theorem swap_b {w:World} {o:Ow} {B:Bk} (h:BkAt w o B) (key old value:ByteArray) (hl:B.l.length ≤ 1000000) :
 Calls Tryz.prog 130 #[.pointer (some ⟨o.b,0,none⟩),.string key,.string old,.string value] w (BookEnd (swapB B key old value).1 o (swapB B key old value).2 w):=by
 have hvs:StrsAt (w.alloc (.cells #[.string old,.string value] 9)) (some ⟨w.heap.size,0,none⟩) [old,value]:=fun _=>⟨w.heap.size,rfl,fun i hi=>by
  have hi':i < 2:=by simpa using hi
  obtain rfl | rfl:i=0 ∨ i=1:=by omega
  · exact (Blk.new w 9 #[.string old,.string value]).cell 0
  · exact (Blk.new w 9 #[.string old,.string value]).cell 1⟩
 have hb0:=(Below.refl w.heap.size w).alloc (Nat.le_refl _) (.cells #[.string old,.string value] 9)
 have HT:=Lib.hid (there_b (h.below hb0) key [old,value] (some ⟨w.heap.size,0,none⟩) 2 hvs (by simp))
 have HB0:=Lib.hid hb0
 have HH:=Lib.hid h
 clear hvs hb0 h
 by_cases h0:(thereN B.l key [old,value]).2=0
 · by_cases h1:(thereN B.l key [old,value]).1=old
   · have HE:=Lib.hid (show swapB B key old value=putB B key value by unfold swapB;rw [if_pos h0,if_pos h1])
     rw [show thereN B.l key [old,value]=(old,0) from Prod.ext h1 h0] at HT
     clear h0 h1
     go_enter Tryz.func130,Tryz.ntmps130
     go_wp2_with fail
     refine HT.out.mono ?_
     rintro e w1 ⟨rfl,hb⟩
     have HB:=Lib.hid (HB0.out.trans (hb.mono HB0.out.size))
     clear hb
     have HP:=Lib.hid (put_b (HH.out.below HB.out) key value hl)
     go_wp2_with fail
     refine HP.out.mono ?_
     rintro e w2 he
     have hq:=bookEnd_from HB.out he
     obtain ⟨rfl,hrest⟩:=hq
     have HQ:=Lib.hid hrest
     clear hrest he
     go_wp2
     go_ret
     rw [HE.out]
     exact ⟨rfl,HQ.out⟩
   · have HE:=Lib.hid (show swapB B key old value=(9,B) by unfold swapB;rw [if_pos h0,if_neg h1])
     obtain ⟨x,hx⟩:∃ x,(thereN B.l key [old,value]).1=x:=⟨_,rfl⟩
     rw [show thereN B.l key [old,value]=(x,0) from Prod.ext hx h0] at HT
     rw [hx] at h1
     clear h0 hx
     go_enter Tryz.func130,Tryz.ntmps130
     go_wp2_with fail
     refine HT.out.mono ?_
     rintro e w1 ⟨rfl,hb⟩
     have HB:=Lib.hid (HB0.out.trans (hb.mono HB0.out.size))
     clear hb
     have hxo:(x.toList == old.toList)=false:=(Lib.bytes_beq_false_iff _ _).2 h1
     go_wp2
     go_ret
     rw [HE.out]
     exact bookEnd_same HH.out HB.out
 · have HE:=Lib.hid (show swapB B key old value=((thereN B.l key [old,value]).2,B) by unfold swapB;rw [if_neg h0])
   generalize thereN B.l key [old,value]=r at HT h0 HE
   obtain ⟨s,n⟩:=r
   dsimp only at h0
   go_enter Tryz.func130,Tryz.ntmps130
   go_wp2_with (go_at_call 171;refine HT.out.mono ?_;rintro e w1 ⟨rfl,hb⟩;have HB:=Lib.hid (HB0.out.trans (hb.mono HB0.out.size));clear hb)
   go_ret
   rw [HE.out]
   exact bookEnd_same HH.out HB.out
def CloneEnd (ks:List ByteArray) (w:World) (e:Ending) (w':World):Prop :=
 ∃ A c ok,e=.returned (.slice A ks.length c)∧KeysAt w' ok A c ks∧(∀ g,ok=some g→w.heap.size ≤ g)∧Below w.heap.size w w'
theorem clone_keys {w:World} {ok:Option Nat} {A:Option Addr} {c:Nat} {ks:List ByteArray} (h:KeysAt w ok A c ks) (hl:ks.length ≤ 1000000) :
 Calls Tryz.prog 83 #[.slice A ks.length c] w (CloneEnd ks w):=by
 rcases h with ⟨rfl,rfl,rfl,rfl⟩ | ⟨kb,cs,rfl,rfl,hb,h1,h2,h3,h4⟩
 · refine Calls.mono (Any.slices_Clone_string_nil laysClone 0 0 w) ?_
   rintro e w' ⟨rfl,rfl⟩
   exact ⟨none,0,none,rfl,.inl ⟨rfl,rfl,rfl,rfl⟩,(fun g h=>by cases h),Below.refl _ _⟩
 · refine Calls.mono (Any.slices_Clone_string laysClone kb 0 ks.length c ks w (Nat.le_refl _) (by omega) (fun j hj=>by
    rw [Nat.zero_add,hb.cell,h4 j hj]
    simp [List.getD,hj])) ?_
   rintro e w' ⟨v',rfl,hown,hne,hbel⟩
   rcases hown.2 with ⟨h5,h6⟩ | ⟨g,cap,cs',h5,h6,h7,h8,h9,h10,h11⟩
   · exact absurd h5 hne
   · subst h5
     refine ⟨_,cap,some g,rfl,.inr ⟨g,cs',rfl,rfl,h7,by omega,h8,h9,fun j hj=>?_⟩,(fun g' h=>by injection h with h;omega),hbel⟩
     rw [Nat.mul_one,List.take_length] at h11
     have:=row_cell (cs:=cs') (ks:=ks) h11 j hj
     exact this
theorem mclone_b {w:World} {m:Nat} {kvs:Kvs} (h:StrMap w m kvs) :
 Calls Tryz.prog 84 #[.map (some m)] w fun e w'=>e=.returned (.map (some w.heap.size))∧StrMap w' w.heap.size kvs∧Below w.heap.size w w':=by
 obtain ⟨es,ck,h1,h2⟩:=h
 refine Calls.mono (AnyW.maps_Clone laysMaps m es ck w h1) ?_
 rintro e w' ⟨rfl,rfl⟩
 exact ⟨rfl,⟨es,ck,heap_alloc_new w _,h2⟩,(Below.refl _ _).alloc (Nat.le_refl _) _⟩
def CopyEnd (B:Bk) (w:World) (e:Ending) (w':World):Prop :=
 ∃ o:Ow,e=.returned (.pointer (some ⟨o.b,0,none⟩))∧BkAt w' o B∧(∀ i,o.has i→w.heap.size ≤ i)∧Below w.heap.size w w'
set_option maxHeartbeats 3200000 in
set_option maxRecDepth 100000 in
theorem copy_b {w:World} {o:Ow} {B:Bk} (h:BkAt w o B) (hl:B.l.length ≤ 1000000):Calls Tryz.prog 38 #[.pointer (some ⟨o.b,0,none⟩)] w (CopyEnd B w):=by
 have HN:=Lib.hid (none_b h)
 obtain ⟨A1,c1,b1,k1⟩:=h.row
 obtain ⟨kvs,n1,n2⟩:=h.vals
 have HW:=Lib.hid h.wf
 have B1:=Lib.hid b1
 have K1:=Lib.hid k1
 have N1:=Lib.hid n1
 have N2:=Lib.hid n2
 have e0:w.cell? ⟨o.b,0,none⟩=some (.slice A1 B.l.length c1):=b1.cell 0
 have e1:w.cell? ⟨o.b,1,none⟩=some (.map (some o.m)):=b1.cell 1
 have e2:w.cell? ⟨o.b,2,none⟩=some (.int .u64 B.qk):=b1.cell 2
 have e3:w.cell? ⟨o.b,3,none⟩=some (.int .u64 B.qb):=b1.cell 3
 have e4:w.cell? ⟨o.b,4,none⟩=some (.int .u64 (sizeL B.l:Int)):=b1.cell 4
 have HC:=Lib.hid (And.intro e0 (And.intro e1 (And.intro e2 (And.intro e3 e4))))
 have hlt:=b1.lt
 have hkl:(keysL B.l).length=B.l.length:=by simp
 have HKL:=Lib.hid hkl
 clear h b1 k1 n1 n2 e0 e1 e2 e3 e4 hkl
 go_enter Tryz.func38,Tryz.ntmps38
 go_wp2_with (go_at_call 67;refine HN.out.mono ?_;rintro e w1 ⟨rfl,rfl⟩)
 go_region_held3 (fun V=>Below w1.heap.size w1 V∧V.cell? ⟨o.b,0,none⟩=some (.slice A1 B.l.length c1)∧V.cell? ⟨o.b,1,none⟩=some (.map (some o.m))∧V.cell? ⟨o.b,2,none⟩=some (.int .u64 B.qk)∧V.cell? ⟨o.b,3,none⟩=some (.int .u64 B.qb)∧V.cell? ⟨o.b,4,none⟩=some (.int .u64 (sizeL B.l:Int)))
  (first
    | exact ⟨(Below.refl _ _).drew,HC.out⟩
    | exact hSN
    | exact ⟨hSN.1.alloc hsz _,(World.cell?_alloc_lt _ _ _ hlt2).trans hSN.2.1,(World.cell?_alloc_lt _ _ _ hlt2).trans hSN.2.2.1,(World.cell?_alloc_lt _ _ _ hlt2).trans hSN.2.2.2.1,(World.cell?_alloc_lt _ _ _ hlt2).trans hSN.2.2.2.2.1,(World.cell?_alloc_lt _ _ _ hlt2).trans hSN.2.2.2.2.2⟩)
  (first
    | (go_at_call 83
       have hH:=‹Below w1.heap.size w1 _∧_›
       have hcl:=clone_keys (K1.out.below hH.1) (by rw [HKL.out];exact hl)
       rw [HKL.out] at hcl
       refine hcl.mono ?_
       rintro e wn ⟨A2,c2,ok2,rfl,k2,g2,hb2⟩
       rw [HKL.out] at ⊢
       have hSN:Below w1.heap.size w1 wn∧wn.cell? ⟨o.b,0,none⟩=some (.slice A1 B.l.length c1)∧wn.cell? ⟨o.b,1,none⟩=some (.map (some o.m))∧wn.cell? ⟨o.b,2,none⟩=some (.int .u64 B.qk)∧wn.cell? ⟨o.b,3,none⟩=some (.int .u64 B.qb)∧wn.cell? ⟨o.b,4,none⟩=some (.int .u64 (sizeL B.l:Int)) :=
        ⟨below_trans hH.1 hb2,(hb2.cell (Nat.lt_of_lt_of_le hlt hH.1.size)).trans hH.2.1,(hb2.cell (Nat.lt_of_lt_of_le hlt hH.1.size)).trans hH.2.2.1,(hb2.cell (Nat.lt_of_lt_of_le hlt hH.1.size)).trans hH.2.2.2.1,(hb2.cell (Nat.lt_of_lt_of_le hlt hH.1.size)).trans hH.2.2.2.2.1,(hb2.cell (Nat.lt_of_lt_of_le hlt hH.1.size)).trans hH.2.2.2.2.2⟩
       have K2:=Lib.hid (And.intro k2 (And.intro g2 hH.1.size))
       clear k2 g2 hcl)
    | (go_at_call 84
       have hH:=‹Below w1.heap.size w1 _∧_›
       refine (mclone_b (N1.out.on (hH.1.block o.m N1.out.lt))).mono ?_
       rintro e wm ⟨rfl,n3,hb3⟩
       have hSN:Below w1.heap.size w1 wm∧wm.cell? ⟨o.b,0,none⟩=some (.slice A1 B.l.length c1)∧wm.cell? ⟨o.b,1,none⟩=some (.map (some o.m))∧wm.cell? ⟨o.b,2,none⟩=some (.int .u64 B.qk)∧wm.cell? ⟨o.b,3,none⟩=some (.int .u64 B.qb)∧wm.cell? ⟨o.b,4,none⟩=some (.int .u64 (sizeL B.l:Int)) :=
        ⟨below_trans hH.1 hb3,(hb3.cell (Nat.lt_of_lt_of_le hlt hH.1.size)).trans hH.2.1,(hb3.cell (Nat.lt_of_lt_of_le hlt hH.1.size)).trans hH.2.2.1,(hb3.cell (Nat.lt_of_lt_of_le hlt hH.1.size)).trans hH.2.2.2.1,(hb3.cell (Nat.lt_of_lt_of_le hlt hH.1.size)).trans hH.2.2.2.2.1,(hb3.cell (Nat.lt_of_lt_of_le hlt hH.1.size)).trans hH.2.2.2.2.2⟩
       have hsz:=hSN.1.size
       have hlt2:o.b < wm.heap.size:=by omega
       have N3:=Lib.hid (And.intro n3 hH.1.size)
       have HB3:=Lib.hid hb3
       clear n3))
 go_wp2
 go_ret
 obtain ⟨k2,g2,s2⟩:=K2.out
 obtain ⟨n3,s3⟩:=N3.out
 have hb3:=HB3.out
 have hbw:=hSN.1
 have ha:=(Below.refl wm.heap.size wm).alloc (Nat.le_refl _) (.cells #[.slice A2 B.l.length c2,.map (some wn.heap.size),.int .u64 B.qk,.int .u64 B.qb,.int .u64 (sizeL B.l:Int)] 134)
 refine ⟨⟨wm.heap.size,wn.heap.size,ok2⟩,rfl,⟨HW.out,⟨A2,c2,blk_at rfl,(k2.below hb3).below ha⟩,⟨kvs,n3.alloc _,fun k=>⟨(N2.out k).1,fun x hx=>?_⟩⟩⟩,?_,below_trans hbw ha⟩
 · obtain ⟨v,h1,h2⟩:=(N2.out k).2 x hx
   exact ⟨v,h1,h2.keep (C:=fun _=>False) (.of_below (below_trans hbw ha))⟩
 · rintro i (rfl | rfl | hi)
   · exact hbw.size
   · exact s3
   · exact Nat.le_trans s2 (g2 i hi)
end Go.Proofs.YtkgflepgkhnclaaGreatDoor
namespace Go.Proofs.YtkgflepgkhnclaaGreatDoor
set_option linter.unusedVariables false
set_option linter.unusedSimpArgs false
open Go.RowKit
structure Req where
 deed:Int
 ten:Int
 gen:Int
 rig:Int
 key:ByteArray
 val:ByteArray
 old:ByteArray
 lim:Int
 tenant:Int
 qk:Int
 qb:Int
 rights:Int
def Req.row (r:Req):List Value:=[.int .i64 r.deed,.int .i64 r.ten,.int .u32 r.gen,.int .u8 r.rig,.string r.key,.string r.val,.string r.old,.int .i64 r.lim,.int .i64 r.tenant,.int .u64 r.qk,.int .u64 r.qb,.int .u8 r.rights]
abbrev Req.v (r:Req):Value:=.agg #[.int .i64 r.deed,.int .i64 r.ten,.int .u32 r.gen,.int .u8 r.rig,.string r.key,.string r.val,.string r.old,.int .i64 r.lim,.int .i64 r.tenant,.int .u64 r.qk,.int .u64 r.qb,.int .u8 r.rights]
def reqLeaves:List L0:=[.int .i64,.int .i64,.int .u32,.int .u8,.str,.str,.str,.int .i64,.int .i64,.int .u64,.int .u64,.int .u8]
def I64 (n:Int):Prop:=-9223372036854775808 ≤ n∧n ≤ 9223372036854775807
theorem wf_i64 {n:Int} (h:(Lit.int .i64 n).wf=true):I64 n:=by
 simpa [Lit.wf,IntKind.min,IntKind.max,IntKind.signed,IntKind.bits,I64] using h
theorem wf_u32 {n:Int} (h:(Lit.int .u32 n).wf=true):0 ≤ n∧n ≤ 4294967295:=by
 simpa [Lit.wf,IntKind.min,IntKind.max,IntKind.signed,IntKind.bits] using h
theorem wf_u8 {n:Int} (h:(Lit.int .u8 n).wf=true):0 ≤ n∧n ≤ 255:=by
 simpa [Lit.wf,IntKind.min,IntKind.max,IntKind.signed,IntKind.bits] using h
theorem wf_u64 {n:Int} (h:(Lit.int .u64 n).wf=true):0 ≤ n∧n ≤ 18446744073709551615:=by
 simpa [Lit.wf,IntKind.min,IntKind.max,IntKind.signed,IntKind.bits] using h
structure Req.ok (r:Req):Prop where
 deed:I64 r.deed
 ten:I64 r.ten
 gen:0 ≤ r.gen∧r.gen ≤ 4294967295
 rig:0 ≤ r.rig∧r.rig ≤ 255
 key:r.key.size ≤ 9223372036854775807
 val:r.val.size ≤ 9223372036854775807
 old:r.old.size ≤ 9223372036854775807
 lim:I64 r.lim
 tenant:I64 r.tenant
 qk:0 ≤ r.qk∧r.qk ≤ 18446744073709551615
 qb:0 ≤ r.qb∧r.qb ≤ 18446744073709551615
 rights:0 ≤ r.rights∧r.rights ≤ 255
theorem req_of_flat {cs:List Value} (h:Flat reqLeaves cs):∃ r:Req,r.ok∧cs=r.row:=by
 obtain ⟨v1,c1,rfl,⟨n1,rfl,k1⟩,h1⟩:=Flat.cons_inv h
 obtain ⟨v2,c2,rfl,⟨n2,rfl,k2⟩,h2⟩:=h1.cons_inv
 obtain ⟨v3,c3,rfl,⟨n3,rfl,k3⟩,h3⟩:=h2.cons_inv
 obtain ⟨v4,c4,rfl,⟨n4,rfl,k4⟩,h4⟩:=h3.cons_inv
 obtain ⟨v5,c5,rfl,⟨n5,rfl,k5⟩,h5⟩:=h4.cons_inv
 obtain ⟨v6,c6,rfl,⟨n6,rfl,k6⟩,h6⟩:=h5.cons_inv
 obtain ⟨v7,c7,rfl,⟨n7,rfl,k7⟩,h7⟩:=h6.cons_inv
 obtain ⟨v8,c8,rfl,⟨n8,rfl,k8⟩,h8⟩:=h7.cons_inv
 obtain ⟨v9,c9,rfl,⟨n9,rfl,k9⟩,h9⟩:=h8.cons_inv
 obtain ⟨v10,c10,rfl,⟨n10,rfl,k10⟩,h10⟩:=h9.cons_inv
 obtain ⟨v11,c11,rfl,⟨n11,rfl,k11⟩,h11⟩:=h10.cons_inv
 obtain ⟨v12,c12,rfl,⟨n12,rfl,k12⟩,h12⟩:=h11.cons_inv
 obtain rfl:=h12.nil_inv
 exact ⟨⟨n1,n2,n3,n4,n5,n6,n7,n8,n9,n10,n11,n12⟩,⟨wf_i64 k1,wf_i64 k2,wf_u32 k3,wf_u8 k4,k5,k6,k7,wf_i64 k8,wf_i64 k9,wf_u64 k10,wf_u64 k11,wf_u8 k12⟩,rfl⟩
def enc1 (b:UInt8):List UInt8:=if b=0 then [0,1] else [b]
def encode (l:List UInt8):List UInt8:=l.flatMap enc1 ++ [0,0]
def isB (r:Req):Bool :=
 decide (1 ≤ r.deed) && (decide (r.deed ≤ 5) && (decide (r.key.size ≤ 16) && (decide (r.val.size ≤ 32) && (decide (r.old.size ≤ 32) && (!(r.deed == 5) || (decide (0 ≤ r.lim) && decide (r.lim ≤ 4096)))))))
def addOf (d:Int):Int:=if d=2 then 3 else if d=3 then 6 else if d=4 then 3 else 0
def wayOf (r:Req):Int :=
 if isB r=true then (if r.deed=5 then 139 else 4 * ((encode r.key.data.toList).length:Int) + 3 + addOf r.deed) else 0
def smallB (n:Int):Bool:=decide (0 ≤ n) && decide (n ≤ 1099511627776)
def boundOf (r:Req) (tries:Int):Int :=
 if isB r=true∧smallB tries=true then (if r.deed=5 then (36 * r.lim + tries) * wayOf r + 2 else (tries + 1) * wayOf r + 1) else 0
def fairB (r:Req) (p t k m:Int):Bool :=
 isB r && (smallB p && (smallB t && (smallB k && (smallB m && (decide (t ≤ k + 1) && decide (p ≤ boundOf r t + m))))))
def picksOf (r:Req) (b:Int):Int :=
 if r.deed < 1 ∨ 5 < r.deed ∨ b < 2 ∨ 4096 < b then 0
 else if r.deed=5∧0 ≤ r.lim∧r.lim ≤ 4096 then b * (r.lim + 1) else b
def leastFrom (r:Req) (need:Int):Nat→Int→Int
 | 0,_=>0
 | n + 1,b=>if need < picksOf r b then b else leastFrom r need n (b + 1)
def enoughOf (r:Req) (t m:Int):Int :=
 if isB r=true∧smallB t=true∧smallB m=true then leastFrom r (boundOf r t + m) 4095 2 else 0
theorem req_cells {r:Req} {W:World} {g:Nat} {t:TypeId} (h:Blk W g t r.row.toArray) :
 W.cell? ⟨g,0,none⟩=some (.int .i64 r.deed)∧W.cell? ⟨g,1,none⟩=some (.int .i64 r.ten)∧W.cell? ⟨g,2,none⟩=some (.int .u32 r.gen)∧W.cell? ⟨g,3,none⟩=some (.int .u8 r.rig) ∧
 W.cell? ⟨g,4,none⟩=some (.string r.key)∧W.cell? ⟨g,5,none⟩=some (.string r.val)∧W.cell? ⟨g,6,none⟩=some (.string r.old)∧W.cell? ⟨g,7,none⟩=some (.int .i64 r.lim) ∧
 W.cell? ⟨g,8,none⟩=some (.int .i64 r.tenant)∧W.cell? ⟨g,9,none⟩=some (.int .u64 r.qk)∧W.cell? ⟨g,10,none⟩=some (.int .u64 r.qb)∧W.cell? ⟨g,11,none⟩=some (.int .u8 r.rights) :=
 ⟨h.cell 0,h.cell 1,h.cell 2,h.cell 3,h.cell 4,h.cell 5,h.cell 6,h.cell 7,h.cell 8,h.cell 9,h.cell 10,h.cell 11⟩
theorem below_alloc {W w1:World} (h:Below W.heap.size W w1) (o:Obj):Below W.heap.size W (w1.alloc o):=h.alloc h.size o
theorem below_box (w:World) (o:Obj):Below w.heap.size w (w.alloc o):=(Below.refl _ _).alloc (Nat.le_refl _) _
end Go.Proofs.YtkgflepgkhnclaaGreatDoor
namespace Go.Proofs.YtkgflepgkhnclaaGreatDoor
set_option linter.unusedVariables false
set_option linter.unusedSimpArgs false
def codeTail:Nat→Code→Code
 | 0,c=>c
 | n + 1,.seq _ b=>codeTail n b
 | _ + 1,c=>c
noncomputable def bodyTail (f:Func) (n:Nat):Code:=codeTail n (f.body.getD .skip)
def codeHead:Code→Code
 | .seq a _=>a
 | c=>c
def codeRest:Code→Code
 | .seq _ b=>b
 | c=>c
end Go.Proofs.YtkgflepgkhnclaaGreatDoor
namespace Go.Proofs.YtkgflepgkhnclaaGreatDoor
set_option linter.unusedVariables false
set_option linter.unusedSimpArgs false
open Go.RowKit
theorem flat_drop {α:Type} {f:α→List Value} {m:Nat} (hf:∀ x,(f x).length=m):∀ (l:List α) (k:Nat) (hk:k < l.length),(l.flatMap f).drop (k * m)=f l[k] ++ (l.drop (k + 1)).flatMap f
 | x :: l,0,_=>by simp
 | x :: l,k + 1,hk=>by
   have h:=flat_drop hf l k (by simpa using hk)
   rw [List.flatMap_cons,List.drop_append,List.drop_eq_nil_of_le (by rw [hf,Nat.add_mul];omega),List.nil_append,hf,show (k + 1) * m - m=k * m by rw [Nat.add_mul];omega,h]
   rfl
theorem row_cells {α:Type} {f:α→List Value} {m:Nat} (hf:∀ x,(f x).length=m) {w:World} {B n k:Nat} {A:Option Addr} {l:List α} (h:Reads w B m A n (l.flatMap f)) (hn:n=l.length) (hk:k < l.length) :
 ∃ ad,A=some ad∧ad.block < B∧∀ j u,(f l[k])[j]?=some u→w.cell? ((ad.add (k * m)).add j)=some u:=by
 subst hn
 obtain ⟨ad,rfl,hb,hc⟩:=h.2 (by omega)
 refine ⟨ad,rfl,hb,fun j u hu=>?_⟩
 rw [add_of_add]
 refine hc _ u ?_
 have h1:=flat_drop hf l k hk
 rw [← List.getElem?_drop,h1,List.getElem?_append_left (List.getElem?_eq_some_iff.1 hu).1]
 exact hu
theorem reads_of_blk {w:World} {g n size:Nat} {t:TypeId} {cs:Array Value} {xs:List Value} (h:Blk w g t cs) (hx:cs.toList=xs) (hl:xs.length=n * size):Reads w (g + 1) size (some ⟨g,0,none⟩) n xs:=by
 refine ⟨hl,fun _=>⟨_,rfl,Nat.lt_succ_self g,fun j u hu=>?_⟩⟩
 have e:(Addr.add ⟨g,0,none⟩ j)=⟨g,j,none⟩:=by unfold Addr.add;split <;> simp_all
 rw [e,h.cell j,← hu,← hx,Array.getElem?_toList]
theorem list_split {α:Type} [DecidableEq α] {ss ts:List α} {k:Nat} (hl:ss.length=ts.length) (hk:k < ss.length) (he:ss.take k=ts.take k) :
 (ss[k]=ts[k]'(by omega)→ss.take (k + 1)=ts.take (k + 1))∧(ss[k] ≠ ts[k]'(by omega)→ss ≠ ts):=by
 refine ⟨fun h=>?_,fun h e=>?_⟩
 · rw [List.take_succ_eq_append_getElem hk,List.take_succ_eq_append_getElem (by omega),he,h]
 · subst e;exact h rfl
theorem blk_newAt {w:World} {g:Nat} {t:TypeId} {cs:Array Value} (h:w.heap.size=g):Blk (w.alloc (.cells cs t)) g t cs:=by subst h;exact Blk.new _ _ _
theorem ownsRow_below {W W':World} {B base size n:Nat} {e:TypeId} {v:Value} {xs:List Value} (h:W.ownsRow base e size v n xs) (hb:Below B W W') (hB:W.heap.size ≤ B):W'.ownsRow base e size v n xs :=
 h.kept (row:=none) ⟨hb.os,hb.tape,hb.output,hb.size,fun k hk _=>hb.block k (by omega)⟩ (by cases hv:v.ownBlock <;> simp)
section
variable {P:Program} (w:World)
theorem run_append_of_nil (base:Nat) (t ty e:TypeId) (i:TypeInfo) (size:Nat) (ht:P.underlying t=some (.slice e)) (hi:P.info? e=some i)
 (v:Value) (n:Nat) (xs:List Value) (hown:w.ownsRow base e size v n xs) (c:Nat):(Builtin.append_ #[t,t] ty #[v,.slice none 0 c]).run P w=.ok v w:=by
 rcases hown.2 with ⟨rfl,rfl⟩ | ⟨g,cap,cur,rfl,_,_,hnc,_⟩
 · simp [Builtin.append_,run_underlying ht,sizeOf,typeInfo,hi,Builtin.lenOf,Builtin.firstCells]
 · simp [Builtin.append_,run_underlying ht,sizeOf,typeInfo,hi,Builtin.lenOf,Builtin.firstCells,hnc,storeCells]
theorem run_append_any (base:Nat) (t ty e:TypeId) (i:TypeInfo) (z:Value) (size bytes:Nat) (ht:P.underlying t=some (.slice e)) (hi:P.info? e=some i) (hz:i.zero=some z)
 (hsize:i.size=size) (hby:i.bytes=bytes) (hzs:z.cells.size=size) (hsz:0 < size)
 (v:Value) (n:Nat) (xs:List Value) (hown:w.ownsRow base e size v n xs)
 (B:Nat) (A:Option Addr) (m c:Nat) (news:List Value) (hr:Reads w B size A m news) (h1:∀ u ∈ news,u.oneCell'=true)
 (h63:n + m ≤ maxLen) (hbytes:(n + m) * bytes ≤ 140737488355328) (hbase:base ≤ w.heap.size) :
 ∃ v' w',(Builtin.append_ #[t,t] ty #[v,.slice A m c]).run P w=.ok v' w'∧w'.ownsRow base e size v' (n + m) (xs ++ news)∧w.grownBy w' v.ownBlock ∧
   (v'.ownBlock=v.ownBlock ∨ v'.ownBlock=some w.heap.size):=by
 have hzero:m=0→news=[]:=fun h=>List.eq_nil_of_length_eq_zero (by rw [hr.1,h,Nat.zero_mul])
 cases A with
 | none =>
   have hm:m=0:=by
    rcases Nat.eq_zero_or_pos m with h0 | h0
    · exact h0
    · obtain ⟨ad,h,_⟩:=hr.2 h0
      cases h
   have hn:=hzero hm
   subst hm hn
   exact ⟨v,w,run_append_of_nil w base t ty e i size ht hi v n xs hown c,by simpa using hown,World.grownBy.refl w _,.inl rfl⟩
 | some ad =>
   have hcells:∀ j u,news[j]?=some u→w.cell? (ad.add j)=some u:=by
    intro j u hu
    rcases Nat.eq_zero_or_pos m with h0 | h0
    · rw [hzero h0] at hu;simp at hu
    · obtain ⟨ad',h,_,hc⟩:=hr.2 h0
      injection h with h
      subst h
      exact hc j u hu
   obtain ⟨v',w',hrun,h2,h3,_,h5⟩:=run_append_own_at (P:=P) w base t ty e i z size bytes ht hi hz hsize hby hzs hsz v n xs hown ad m c news hr.1 hcells h1 h63 hbytes hbase
   exact ⟨v',w',hrun,h2,h3,h5⟩
theorem wp_append_any {o:Oper} {a:Act} {K:Act→World→Prop} {Q:Exit→Act→World→Prop} (s x:Operand) (t:TypeId)
 (ho:o.op=.call { callee:=.builtin .append,args:=#[s,x],argTypes:=#[t,t] })
 (base:Nat) (e:TypeId) (i:TypeInfo) (z:Value) (size bytes:Nat) (ht:P.underlying t=some (.slice e)) (hi:P.info? e=some i) (hz:i.zero=some z)
 (hsize:i.size=size) (hby:i.bytes=bytes) (hzs:z.cells.size=size) (hsz:0 < size)
 (v:Value) (n:Nat) (xs:List Value) (hs:a.eval s=v) (hown:w.ownsRow base e size v n xs)
 (B:Nat) (A:Option Addr) (m c:Nat) (news:List Value) (hx:a.eval x=.slice A m c) (hr:Reads w B size A m news) (h1:∀ u ∈ news,u.oneCell'=true)
 (h63:n + m ≤ maxLen) (hbytes:(n + m) * bytes ≤ 140737488355328) (hbase:base ≤ w.heap.size)
 (h:∀ v' w',w'.ownsRow base e size v' (n + m) (xs ++ news)→w.grownBy w' v.ownBlock→(v'.ownBlock=v.ownBlock ∨ v'.ownBlock=some w.heap.size)→K (a.put o.dst v') w'):o.wp P a w K Q:=by
 obtain ⟨v',w',hrun,h2,h3,h4⟩:=run_append_any (P:=P) w base t o.type e i z size bytes ht hi hz hsize hby hzs hsz v n xs hown B A m c news hr h1 h63 hbytes hbase
 unfold Oper.wp execOp
 simp only [ho,resolve,invoke,builtin,Sem.run_bind,Sem.run_pure,Result.andThen_ok,List.map_toArray,List.map_cons,List.map_nil,hs,hx,hrun]
 exact h v' w' h2 h3 h4
theorem wpList_append_any {ops:Array Oper} {rest:List Oper} {o:Oper} {a:Act} {Q:Exit→Act→World→Prop} (hgd:o.guard=none) (s x:Operand) (t:TypeId)
 (ho:o.op=.call { callee:=.builtin .append,args:=#[s,x],argTypes:=#[t,t] })
 (base:Nat) (e:TypeId) (i:TypeInfo) (z:Value) (size bytes:Nat) (ht:P.underlying t=some (.slice e)) (hi:P.info? e=some i) (hz:i.zero=some z)
 (hsize:i.size=size) (hby:i.bytes=bytes) (hzs:z.cells.size=size) (hsz:0 < size)
 (v:Value) (n:Nat) (xs:List Value) (hs:a.eval s=v) (hown:w.ownsRow base e size v n xs)
 (B:Nat) (A:Option Addr) (m c:Nat) (news:List Value) (hx:a.eval x=.slice A m c) (hr:Reads w B size A m news) (h1:∀ u ∈ news,u.oneCell'=true)
 (h63:n + m ≤ maxLen) (hbytes:(n + m) * bytes ≤ 140737488355328) (hbase:base ≤ w.heap.size)
 (h:∀ v' w',w'.ownsRow base e size v' (n + m) (xs ++ news)→w.grownBy w' v.ownBlock→(v'.ownBlock=v.ownBlock ∨ v'.ownBlock=some w.heap.size)→wpList P ops Q rest (a.put o.dst v') w'):wpList P ops Q (o :: rest) a w :=
 wpList_plain hgd fun _ hK=>wp_append_any w s x t ho base e i z size bytes ht hi hz hsize hby hzs hsz v n xs hs hown B A m c news hx hr h1 h63 hbytes hbase fun v' w' h2 h3 h4=>hK _ _ (h v' w' h2 h3 h4)
end
theorem below_app {w w':World} {B base size n:Nat} {e:TypeId} {v:Value} {xs:List Value} {W:World} (hb:Below B W w) (h:w.ownsRow base e size v n xs) (hg:w.grownBy w' v.ownBlock) (hB:B ≤ base) (hs:B ≤ w.heap.size):Below B W w' :=
 hb.grown hg hs (fun k hk=>by have:=(h.lt k hk).1;omega)
def markN (k i:Int):Int:=1000003 * (k + 7) + i
def irow (n:Int):List Value:=[.int .i64 n]
theorem irow_len (n:Int):(irow n).length=1:=rfl
end Go.Proofs.YtkgflepgkhnclaaGreatDoor
namespace Go.Proofs.YtkgflepgkhnclaaGreatDoor
set_option linter.unusedVariables false
set_option linter.unusedSimpArgs false
open Go.RowKit Go.Shelf
def pairR (p:ByteArray × ByteArray):List Value:=[.string p.1,.string p.2]
theorem pairR_len:∀ l:List (ByteArray × ByteArray),(l.flatMap pairR).length=l.length * 2
 | []=>rfl
 | p :: r=>by simp [pairR,pairR_len r];omega
theorem own_base {w:World} {base base' size n:Nat} {e:TypeId} {v:Value} {xs:List Value} (h:w.ownsRow base e size v n xs) (hb:base' ≤ base):w.ownsRow base' e size v n xs:=by
 refine ⟨h.1,h.2.imp id ?_⟩
 rintro ⟨g,cap,cs,h1,h2,h3⟩
 exact ⟨g,cap,cs,h1,Nat.le_trans hb h2,h3⟩
def scanN (l:List (ByteArray × ByteArray)) (key:ByteArray) (limit:Int):List (ByteArray × ByteArray) × Int :=
 if mayN key []=2 then ([],2) else if limit < 0 ∨ 4096 < limit then ([],2) else ((l.drop (posK key (keysL l))).take limit.toNat,0)
def ScanEnd (r:List (ByteArray × ByteArray) × Int) (w:World) (e:Ending) (w':World):Prop :=
 ∃ A c,e=.returned (.tuple #[.slice A r.1.length c,.int .i64 r.2])∧w'.ownsRow w.heap.size 57 2 (.slice A r.1.length c) r.1.length (r.1.flatMap pairR)∧Below w.heap.size w w'
theorem infoPair:(Tryz.prog.info? 57).map (fun i=>(i.zero,i.size,i.bytes))=some (some (.agg #[.string ⟨#[]⟩,.string ⟨#[]⟩]),2,32):=by kernel_rfl
set_option maxHeartbeats 3200000 in
set_option maxRecDepth 100000 in
theorem scan_b {w:World} {o:Ow} {B:Bk} (h:BkAt w o B) (key:ByteArray) (limit:Int) (hl:B.l.length ≤ 1000000) (hlim:-9223372036854775808 ≤ limit∧limit ≤ 9223372036854775807) :
 Calls Tryz.prog 131 #[.pointer (some ⟨o.b,0,none⟩),.string key,.int .i64 limit] w (ScanEnd (scanN B.l key limit) w):=by
 have HM:=Lib.hid (may_b h key [] none 0 .nil (by simp))
 have HH:=Lib.hid h
 clear h
 have nilEnd:∀ (w':World) (n:Int),Below w.heap.size w w'→ScanEnd ([],n) w (.returned (.tuple #[.slice none 0 0,.int .i64 n])) w':=fun w' n hb=>⟨none,0,rfl,⟨by simp,.inl ⟨rfl,rfl⟩⟩,hb⟩
 have NE:=Lib.hid nilEnd
 clear nilEnd
 rcases mayN_or key [] with hm | hm
 · have HE:=Lib.hid (show scanN B.l key limit=([],2) by unfold scanN;rw [if_pos hm])
   rw [hm] at HM
   clear hm
   go_enter Tryz.func131,Tryz.ntmps131
   go_wp2_with (go_at_call 172;refine HM.out.mono ?_;rintro e w1 ⟨rfl,hb⟩;have HB:=Lib.hid hb;clear hb)
   go_ret2
   rw [HE.out]
   exact NE.out _ _ HB.out
 · rw [hm] at HM
   by_cases hlo:limit < 0
   · have HE:=Lib.hid (show scanN B.l key limit=([],2) by unfold scanN;rw [if_neg (by rw [hm];decide),if_pos (.inl hlo)])
     clear hm
     go_enter Tryz.func131,Tryz.ntmps131
     go_wp2_with (go_at_call 172;refine HM.out.mono ?_;rintro e w1 ⟨rfl,hb⟩;have HB:=Lib.hid hb;clear hb)
     go_ret2
     rw [HE.out]
     exact NE.out _ _ HB.out
   · by_cases hhi:4096 < limit
     · have HE:=Lib.hid (show scanN B.l key limit=([],2) by unfold scanN;rw [if_neg (by rw [hm];decide),if_pos (.inr hhi)])
       clear hm
       go_enter Tryz.func131,Tryz.ntmps131
       go_wp2_with (go_at_call 172;refine HM.out.mono ?_;rintro e w1 ⟨rfl,hb⟩;have HB:=Lib.hid hb;clear hb)
       go_ret2
       rw [HE.out]
       exact NE.out _ _ HB.out
     · have HE:=Lib.hid (show scanN B.l key limit=((B.l.drop (posK key (keysL B.l))).take limit.toNat,0) by unfold scanN;rw [if_neg (by rw [hm];decide),if_neg (by omega)])
       clear hm
       obtain ⟨L,rfl⟩:∃ L:Nat,limit=(L:Int):=⟨limit.toNat,by omega⟩
       have hL:L ≤ 4096:=by omega
       have hLi:(L:Int) ≤ 4096:=by omega
       have hL0:(0:Int) ≤ (L:Int):=by omega
       go_enter Tryz.func131,Tryz.ntmps131
       go_wp2_with fail
       refine HM.out.mono ?_
       rintro e w1 ⟨rfl,hb⟩
       have H1:=HH.out.below hb
       obtain ⟨A1,c1,b1,k1⟩:=H1.row
       have hkl:(keysL B.l).length=B.l.length:=by simp
       rw [← hkl] at b1
       obtain ⟨f,hf⟩:∃ f:Bool,f=true ↔ key ∈ keysL B.l:=by
        by_cases hx:key ∈ keysL B.l
        · exact ⟨true,fun _=>hx,fun _=>rfl⟩
        · exact ⟨false,(fun h=>by (cases h)),fun h=>absurd h hx⟩
       have HF:=Lib.hid (find_b b1 k1 H1.wf.keys (by omega) key f hf)
       have HB:=Lib.hid hb
       have B1:=Lib.hid b1
       have K1:=Lib.hid k1
       have HKL:=Lib.hid hkl
       clear b1 k1 hf hkl H1 hb
       go_wp2_with fail
       refine HF.out.mono ?_
       rintro e w2 ⟨rfl,hb2⟩
       have b2:=B1.out.below hb2 B1.out.lt
       have d0:w2.cell? ⟨o.b,0,none⟩=some (.slice A1 (keysL B.l).length c1):=b2.cell 0
       have HB2:=Lib.hid (below_trans HB.out hb2)
       have B2:=Lib.hid b2
       have K2:=Lib.hid (K1.out.below hb2)
       clear b2 hb2
       have hp:posK key (keysL B.l) ≤ (keysL B.l).length:=pos_le
       have HP:=Lib.hid (show posK key (keysL B.l) ≤ (keysL B.l).length from pos_le)
       have hn0:(keysL B.l).length ≤ 1000000:=by rw [HKL.out];exact hl
       obtain ⟨p,hpe⟩:∃ p,posK key (keysL B.l)=p:=⟨_,rfl⟩
       obtain ⟨n,hne⟩:∃ n,(keysL B.l).length=n:=⟨_,rfl⟩
       rw [hpe,hne] at hp
       rw [hne] at hn0
       have hcc:n ≤ c1:=by
        have:=K2.out
        rcases this with ⟨_,_,h3,h4⟩ | ⟨_,_,_,_,_,_,h5,_⟩
        · have h3':keysL B.l=[]:=h3
          rw [← hne,h3'];exact Nat.zero_le _
        · rw [← hne];exact h5
       have hcm:c1 ≤ 9223372036854775807:=by
        have:=K2.out
        rcases this with ⟨_,_,h3,h4⟩ | ⟨_,_,_,_,_,_,_,h5,_⟩
        · omega
        · exact h5
       rw [hne] at d0
       have hw1:IntKind.i64.wrap ((p:Int) + (L:Int))=((p + L:Nat):Int):=by rw [IntWalk.i64_in _ (by omega)];omega
       have HPE:=Lib.hid hpe
       have HNE:=Lib.hid hne
       rw [hpe]
       clear hpe hne hL hLi hL0
       have q1:(0:Int) ≤ (p:Int):=by omega
       have q2:(p:Int) ≤ (n:Int):=by omega
       have q3:(n:Int) ≤ (c1:Int):=by omega
       have q4:(c1:Int) ≤ 9223372036854775807:=by omega
       have hK2:=K2.out
       rcases hK2 with ⟨hz1,hz2,hz3,hz4⟩ | ⟨kb,cs,hz1,hz2,hz3,hz4,hz5,hz6,hz7⟩
       · subst hz2
         have hz3':keysL B.l=[]:=hz3
         have hn00:n=0:=by rw [← HNE.out,hz3'];rfl
         subst hn00 hz4
         obtain rfl:p=0:=by omega
         clear hz1 hz3 hz3'
         go_wp2_with fail
         go_region
         go_wp2_with fail
         go_loopw [6,51] (fun v i wr=>v=.slice none 0 0∧i=.int .i64 0∧wr=w2.drew) (fun _ _ _=>0)
         case atStart=>exact ⟨rfl,rfl,rfl⟩
         case round =>
           obtain ⟨rfl,rfl,rfl⟩:=hrel
           go_wp2
           go_ret2
           rw [HE.out]
           have hz3'':B.l=[]:=List.eq_nil_of_length_eq_zero (by rw [← HKL.out,HNE.out])
           rw [hz3'']
           simp only [List.drop_nil,List.take_nil]
           exact NE.out _ _ HB2.out.drew
       · subst hz2
         have HCS:=Lib.hid (And.intro hz3 (And.intro hz4 (And.intro hz5 hz7)))
         clear hz1 hz3 hz4 hz5 hz6 hz7
         go_wp2_with fail
         go_region
         obtain ⟨Sx,hSx⟩:∃ Sx,(B.l.drop p).take L=Sx:=⟨_,rfl⟩
         have hSl:Sx.length=(min ((p:Int) + (L:Int)) (n:Int)).toNat - p:=by
           rw [← hSx,List.length_take,List.length_drop,← HKL.out,HNE.out]
           omega
         rw [← hSl]
         have hAD:0 < Sx.length→(if c1=p then some (⟨kb,0,none⟩:Addr) else some ⟨kb,p,none⟩)=some ⟨kb,p,none⟩:=fun h=>by
           rw [if_neg]
           have:Sx.length ≤ n - p:=by rw [← hSx,List.length_take,List.length_drop,← HKL.out,HNE.out];omega
           omega
         generalize (if c1=p then some (⟨kb,0,none⟩:Addr) else some ⟨kb,p,none⟩)=AD at hAD ⊢
         have hSle:Sx.length ≤ 1000000:=by rw [← hSx,List.length_take,List.length_drop];omega
         have hkey:∀ (k:Nat) (hk:k < Sx.length),cs[p + k]?=some (.string (Sx[k]).1)∧getL (Sx[k]).1 B.l=some (Sx[k]).2:=fun k hk=>by
           have h0:Sx[k]?=B.l[p + k]?:=by
            rw [← hSx] at hk ⊢
            rw [List.length_take] at hk
            rw [List.getElem?_take_of_lt (by omega),List.getElem?_drop]
           rw [List.getElem?_eq_getElem hk] at h0
           obtain ⟨h1,h2⟩:=List.getElem?_eq_some_iff.1 h0.symm
           refine ⟨?_,?_⟩
           · rw [HCS.out.2.2.2 (p + k) (by simpa using h1)]
             simp [h2]
           · exact mem_getL HH.out.wf.keys (by rw [← h2];exact List.getElem_mem _)
         have HKEY:=Lib.hid hkey
         have HSX:=Lib.hid hSx
         have HAD:=Lib.hid hAD
         clear hSl hSx hAD hkey
         generalize min ((p:Int) + (L:Int)) (n:Int)=zz
         obtain ⟨i0,hi0,iz0,iz1,iz2⟩:=info_parts infoPair
         go_wp2_with fail
         go_loopw [6,51] (fun v i wr=>∃ k:Nat,k ≤ Sx.length∧i=.int .i64 k∧wr.ownsRow w2.heap.size 57 2 v k ((Sx.take k).flatMap pairR)∧Below w2.heap.size w2 wr) (fun _ i _=>Sx.length - (intOf i).toNat)
         case atStart=>exact ⟨0,Nat.zero_le _,rfl,⟨by simp,.inl ⟨rfl,rfl⟩⟩,(Below.refl _ _).drew⟩
         case round =>
           obtain ⟨k,hk,rfl,hown,hbel⟩:=hrel
           by_cases hlt:k < Sx.length
           · obtain ⟨hk1,hk2⟩:=HKEY.out k hlt
             obtain rfl:=HAD.out (by omega)
             have et:Sx.take (k + 1)=Sx.take k ++ [Sx[k]]:=by rw [List.take_add_one,List.getElem?_eq_getElem hlt];rfl
             have ck:wr.cell? ⟨kb,p + k,none⟩=some (.string (Sx[k]).1):=by
               rw [hbel.cell HCS.out.1.lt,HCS.out.1.cell];exact hk1
             have H2:=(HH.out.below (below_trans HB2.out hbel))
             obtain ⟨A5,c5,b5,-⟩:=H2.row
             have d1:wr.cell? ⟨o.b,1,none⟩=some (.map (some o.m)):=b5.cell 1
             obtain ⟨kvs,n1,n2⟩:=H2.vals
             obtain ⟨v5,n3,n4⟩:=(n2 _).2 _ hk2
             have hcv:=run_conv_bytes n4
             have HV:=Lib.hid (show (getS (Sx[k]).1 kvs).getD (.slice none 0 0)=v5 by rw [n3];rfl)
             have N1:=Lib.hid n1
             have ET:=Lib.hid et
             have HOWN:=Lib.hid hown
             have HBEL:=Lib.hid hbel
             obtain ⟨x,hx⟩:∃ x,Sx[k]=x:=⟨_,rfl⟩
             rw [hx] at ck hcv HV ET
             obtain ⟨kx,vx⟩:=x
             dsimp only at ck hcv HV
             rw [HV.out.symm] at hcv
             clear hown hbel et b5 n1 n2 n3 n4 hk1 hk2 hx H2
             go_wp2_with (first
               | (at_lookup;refine wpList_lookup_str rfl _ _ 132 rfl 9 135 Tryz.underlying132 Tryz.underlying9 (.slice none 0 0) (Tryz.zeroValue135 _) o.m kvs rfl N1.out kx rfl ?_)
               | (at_builtin
                  refine wpList_append_any _ rfl (.tmp 55) (.tmp 65) _ rfl w2.heap.size 57 i0 _ 2 32 Tryz.underlying42 hi0 iz0 iz1 iz2 rfl (by omega) u6 k ((Sx.take k).flatMap pairR) rfl
                    (HOWN.out.alloc _) _ (some ⟨wr.heap.size,0,none⟩) 1 1 (pairR (kx,vx)) rfl (reads_of_blk (blk_newAt rfl) rfl rfl) (by simp [pairR,Value.oneCell']) (by unfold maxLen;omega) (by omega) (by have:=HBEL.out.size;simp;omega) ?_
                  intro v2 w3 hown2 hg2 hat2
                  have hbel2:Below w2.heap.size w2 w3:=below_app (HBEL.out.alloc HBEL.out.size _) (HOWN.out.alloc _) hg2 (Nat.le_refl _) (by have:=HBEL.out.size;simp;omega)))
             clear hg2 hat2
             go_roundw
             case rel=>exact ⟨k + 1,by omega,by go_num,by
               rw [ET.out,List.flatMap_append,List.flatMap_singleton]
               exact hown2,hbel2⟩
             case measure=>simp [intOf];omega
           · obtain rfl:k=Sx.length:=by omega
             rw [List.take_length] at hown
             obtain ⟨A9,c9,rfl,-,-,-⟩:=own_form hown
             have HOWN:=Lib.hid hown
             have HBEL:=Lib.hid hbel
             clear hown hbel
             go_wp2
             go_ret2
             have hE:=HE.out
             rw [HPE.out] at hE
             have hE2:scanN B.l key (L:Int)=(Sx,0):=by rw [hE,Int.toNat_natCast,HSX.out]
             rw [hE2]
             exact ⟨A9,c9,rfl,own_base HOWN.out HB2.out.size,below_trans HB2.out HBEL.out⟩
end Go.Proofs.YtkgflepgkhnclaaGreatDoor
namespace Go.Proofs.YtkgflepgkhnclaaGreatDoor
set_option linter.unusedVariables false
set_option linter.unusedSimpArgs false
open Go.RowKit Go.Shelf
attribute [local go_sem] Oper.semAt_some
abbrev Kv:=ByteArray × ByteArray
abbrev encP (x:Kv):Array Value:=#[.string x.1,.string x.2]
def okT:Obj→Prop
 | .cells _ t _=>t ≠ 42∧t ≠ 57
 | .map ..=>True
 | _=>False
structure KeepsT (W W':World):Prop where
 size:W.heap.size ≤ W'.heap.size
 same:∀ (k:Nat) (o:Obj),W.heap[k]?=some o→okT o→W'.heap[k]?=some o
theorem KeepsT.refl (W:World):KeepsT W W:=⟨Nat.le_refl _,fun _ _ h _=>h⟩
theorem KeepsT.trans {W1 W2 W3:World} (h:KeepsT W1 W2) (k:KeepsT W2 W3):KeepsT W1 W3:=⟨Nat.le_trans h.size k.size,fun i o h1 h2=>k.same i o (h.same i o h1 h2) h2⟩
theorem KeepsT.put (W:World) (l:Nat) (o o':Obj) (h:W.heap[l]?=some o) (hc:o.isCells=false) (hw:o.isWalk=false):KeepsT W (W.putObj l o') :=
 ⟨by simp,fun k o2 h2 h3=>by
  by_cases e:k=l
  · subst e
    rw [h] at h2
    injection h2 with h2
    subst h2
    cases o <;> simp [okT,Obj.isCells,Obj.isWalk] at h3 hc hw
  · exact (World.putObj_heap_other e).trans h2⟩
theorem KeepsT.of_below {W W':World} (h:Below W.heap.size W W'):KeepsT W W':=⟨h.size,fun k o h1 _=>(h.block k (Array.getElem?_eq_some_iff.1 h1).1).trans h1⟩
theorem KeepsT.of_grown {W W':World} {row:Option Nat} (h:W.grownBy W' row) (hr:∀ g,row=some g→∃ o,W.heap[g]?=some o∧¬ okT o):KeepsT W W' :=
 ⟨h.size,fun k o h1 h2=>(h.block k (Array.getElem?_eq_some_iff.1 h1).1 (fun e=>by
  obtain ⟨o',h3,h4⟩:=hr k e.symm
  rw [h1] at h3
  injection h3 with h3
  subst h3
  exact h4 h2)).trans h1⟩
section
variable {W W':World}
theorem KeepsT.blk {g:Nat} {t:TypeId} {cs:Array Value} (k:KeepsT W W') (h:Blk W g t cs) (h1:t ≠ 42) (h2:t ≠ 57):Blk W' g t cs:=k.same _ _ h ⟨h1,h2⟩
theorem KeepsT.bytes {v:Value} {x:ByteArray} (k:KeepsT W W') (h:BytesAt W v x):BytesAt W' v x:=by
 obtain ⟨A,c,h1,h2,h3⟩:=h
 refine ⟨A,c,h1,h2,fun hp=>?_⟩
 obtain ⟨vb,off,h4,⟨cs,fz,h5⟩,h6⟩:=h3 hp
 have h7:=k.same _ _ h5 (by constructor <;> decide)
 exact ⟨vb,off,h4,⟨cs,fz,h7⟩,fun j hj=>(World.cell?_of_block (w:=W) (h7.trans h5.symm)).trans (h6 j hj)⟩
theorem KeepsT.book {o:Ow} {B:Bk} (k:KeepsT W W') (h:BkAt W o B):BkAt W' o B:=by
 obtain ⟨A,c,h1,h2⟩:=h.row
 obtain ⟨kvs,⟨es,ck,h3,h4⟩,h5⟩:=h.vals
 refine ⟨h.wf,⟨A,c,k.blk h1 (by decide) (by decide),?_⟩,⟨kvs,⟨es,ck,k.same _ _ h3 trivial,h4⟩,fun x=>⟨(h5 x).1,fun y hy=>?_⟩⟩⟩
 · rcases h2 with h2 | ⟨kb,cs,e1,e2,e3,e4⟩
   · exact .inl h2
   · exact .inr ⟨kb,cs,e1,e2,k.blk e3 (by decide) (by decide),e4⟩
 · obtain ⟨v,h6,h7⟩:=(h5 x).2 y hy
   exact ⟨v,h6,k.bytes h7⟩
end
theorem KeepsT.keys {W W':World} {ok:Option Nat} {A:Option Addr} {c:Nat} {ks:List ByteArray} (k:KeepsT W W') (h:KeysAt W ok A c ks):KeysAt W' ok A c ks:=by
 rcases h with h | ⟨kb,cs,e1,e2,e3,e4⟩
 · exact .inl h
 · exact .inr ⟨kb,cs,e1,e2,k.blk e3 (by decide) (by decide),e4⟩
theorem grownBy_of_below {w w':World} (h:Below w.heap.size w w'):w.grownBy w' none:=⟨h.os,h.tape,h.output,h.size,fun i hi _=>h.block i hi⟩
theorem all_b (p:Option Addr) (w:World):Calls Tryz.prog 30 #[.pointer p] w fun e w'=>e=.returned (.func (.func 66) #[] #[.pointer (some ⟨w.heap.size,0,none⟩)])∧w'=w.alloc (.cells #[.pointer p] 73):=by
 go_enter Tryz.func30,Tryz.ntmps30
 go_wp2
 go_ret
 exact ⟨rfl,rfl⟩
set_option maxHeartbeats 3200000 in
set_option maxRecDepth 100000 in
theorem all_stops (Bs n:Nat) (o:Ow) (B:Bk) (w:World) (hn:2 ≤ n) (hc:w.cell? ⟨Bs,0,none⟩=some (.pointer (some ⟨o.b,0,none⟩))) (hf:BkAt w o B) (hl:B.l.length ≤ 1000000) :
 SeqStopsK Fence.wide n Tryz.prog 66 #[.pointer (some ⟨Bs,0,none⟩)] encP KeepsT (fun ys=>ys=B.l) (fun pre=>pre <+: B.l) B.l.length w:=fun l J Jx W hW hJ hJx hY h0=>by
 have hBs:Bs < w.heap.size:=World.block_lt_of_cell? w _ hc
 have hc1:=(hW.cell (p:=⟨Bs,0,none⟩) hBs).trans hc
 have HF:=Lib.hid (hf.below hW)
 have HN:=Lib.hid (none_b HF.out)
 have HC:=Lib.hid (copy_b HF.out hl)
 have HJ:=Lib.hid (And.intro hJ (And.intro hJx (And.intro hY h0)))
 clear hJ hJx hY h0 hf hc
 refine callsIn_of_wp Tryz.func66 rfl trivial ?_ rfl
 simp only [Tryz.ntmps66,List.size_toArray,List.length_cons,List.length_nil,Nat.reduceAdd,Nat.reduceSub,Array.replicate_succ,Array.replicate_zero,List.push_toArray,List.append_toArray,List.nil_append,List.cons_append]
 refine wpIn_wide.2 ?_
 go_wp2_with fail
 refine HN.out.mono ?_
 rintro e w1 ⟨rfl,rfl⟩
 go_wp2_with fail
 refine HC.out.mono ?_
 rintro e w2 ⟨o2,rfl,hb2,-,hbel⟩
 obtain ⟨A2,c2,r2,k2⟩:=hb2.row
 have d0:w2.cell? ⟨o2.b,0,none⟩=some (.slice A2 B.l.length c2):=r2.cell 0
 have hJ0:=HJ.out.1 _ _ _ none HJ.out.2.2.2 (grownBy_of_below hbel) (fun r e=>by cases e)
 have HB2:=Lib.hid hb2
 have HK2:=Lib.hid k2
 clear hb2 r2 k2
 go_wp2_with fail
 refine (wpIn_wide (n:=n)).1 ?_
 gi_loopw [16] (fun i wr=>∃ k:Nat,k ≤ B.l.length∧i=.int .i64 k∧Hid (J (B.l.take k) wr∧BkAt wr o2 B∧KeysAt wr o2.k A2 c2 (keysL B.l))) (fun i _=>B.l.length - (intOf i).toNat)
 case atStart=>exact ⟨0,Nat.zero_le _,rfl,Lib.hid ⟨hJ0,HB2.out,HK2.out⟩⟩
 case round =>
  obtain ⟨k,hk,rfl,HW⟩:=hrel
  by_cases hlt:k < B.l.length
  · obtain ⟨kb,cs,rfl,hb3,hk4⟩:∃ kb cs,A2=some ⟨kb,0,none⟩∧Blk wr kb 9 cs∧∀ j,(hj:j < (keysL B.l).length)→cs[j]?=some (.string (keysL B.l)[j]):=by
        rcases HW.out.2.2 with ⟨_,_,h3,_⟩ | ⟨kb,cs,_,e2,e3,_,_,_,e4⟩
        · have:B.l.length=0:=by
           have h4:=congrArg List.length h3
           simpa using h4
          omega
        · exact ⟨kb,cs,e2,e3,e4⟩
    obtain ⟨x,hx⟩:∃ x,B.l[k]=x:=⟨_,rfl⟩
    obtain ⟨kx,vx⟩:=x
    have d0:wr.cell? ⟨kb,k,none⟩=some (.string kx):=by
        rw [hb3.cell,hk4 k (by simpa using hlt)]
        simp [hx]
    obtain ⟨A5,c5,r5,-⟩:=HW.out.2.1.row
    have d1:wr.cell? ⟨o2.b,1,none⟩=some (.map (some o2.m)):=r5.cell 1
    obtain ⟨kvs,n1,n2⟩:=HW.out.2.1.vals
    obtain ⟨v5,n3,n4⟩:=(n2 kx).2 vx (mem_getL HW.out.2.1.wf.keys (by rw [← hx];exact List.getElem_mem _))
    have hlk:=run_lookup_str (P:=Tryz.prog) (w:=wr) (t:=132) (k:=9) (e:=135) (z:=.slice none 0 0) (x:=kx) n1 Tryz.underlying132 Tryz.underlying9 (Tryz.zeroValue135 _) false
    rw [n3] at hlk
    simp only [Bool.false_eq_true,if_false,Option.getD_some] at hlk
    have hcv:=run_conv_bytes n4
    have hYd:YieldAt Fence.wide (n - 1) Tryz.prog l (encP (kx,vx)) wr (fun e W'=>∃ b:Bool,e=.returned (.bool b)∧Hid ((b=true→J (B.l.take k ++ [(kx,vx)]) W'∧KeepsT wr W')∧(b=false→Jx (B.l.take k ++ [(kx,vx)]) W'))) :=
        (HJ.out.2.2.1 _ (kx,vx) wr HW.out.1 (by rw [List.length_take];omega)).mono (fun e W' h=>by
          rcases h with ⟨rfl,h1,h2⟩ | ⟨rfl,h1⟩
          · exact ⟨true,rfl,Lib.hid ⟨fun _=>⟨h1,h2⟩,fun e=>by cases e⟩⟩
          · exact ⟨false,rfl,Lib.hid ⟨fun e=>by (cases e),fun _=>h1⟩⟩)
    obtain ⟨fn,tmps,assign,body,hy,hR⟩:=hYd
    dsimp only [encP] at hy
    have HT:Hid (B.l.take (k + 1)=B.l.take k ++ [(kx,vx)]):=Lib.hid (by rw [List.take_add_one,List.getElem?_eq_getElem hlt,hx];rfl)
    have hn1:1 ≤ n:=by omega
    clear hb3 hk4 hx r5 n1 n2 n3 n4
    gi_wp2_with (fail)
    refine hR.mono ?_
    rintro e W3 ⟨b,rfl,hP⟩
    cases b with
    | true =>
      obtain ⟨hJ3,hk3⟩:=hP.out.1 rfl
      have HN3:=Lib.hid (And.intro hJ3 (And.intro (hk3.book HW.out.2.1) (hk3.keys HW.out.2.2)))
      clear hJ3 hk3 hP hR hy
      gi_wp2
      go_roundw
      case rel =>
       refine ⟨k + 1,by omega,by go_num,Lib.hid ⟨?_,HN3.out.2⟩⟩
       rw [HT.out]
       exact HN3.out.1
      case measure=>simp [intOf];omega
    | false =>
      have HX3:=Lib.hid (hP.out.2 rfl)
      clear hP hR hy
      gi_wp2
      refine bodyPost_ret (results_none rfl _ _ _) rfl ?_
      refine ⟨⟨_,rfl⟩,.inr ⟨B.l.take k ++ [(kx,vx)],?_,HX3.out⟩⟩
      rw [← HT.out]
      exact List.take_prefix _ _
  · obtain rfl:k=B.l.length:=by omega
    have hfin:=HW.out.1
    rw [List.take_length] at hfin
    have HFI:=Lib.hid hfin
    clear hfin
    gi_wp2
    go_end0
    exact ⟨⟨_,rfl⟩,.inl ⟨_,rfl,HFI.out⟩⟩
end Go.Proofs.YtkgflepgkhnclaaGreatDoor
namespace Go.Proofs.YtkgflepgkhnclaaGreatDoor
set_option linter.unusedVariables false
set_option linter.unusedSimpArgs false
open Go.RowKit Go.Shelf Go.MapKept
structure Hd where
 t:Int
 g:Int
 r:Int
def Hd.v (h:Hd):Value:=.agg #[.int .i64 h.t,.int .u32 h.g,.int .u8 h.r]
def Hd.cells (h:Hd):Array Value:=#[.int .i64 h.t,.int .u32 h.g,.int .u8 h.r]
def Hd.tN (h:Hd):Bool:=decide (1 ≤ h.t) && decide (h.t ≤ 16)
def Hd.gN (h:Hd):Bool:=decide (1 ≤ h.g)
def Hd.rN (h:Hd):Bool:=decide (1 ≤ h.r) && decide (h.r ≤ 7)
def Hd.right (h:Hd):Bool:=h.tN && h.gN && h.rN
theorem tenant_h (h:Hd) (w:World):Calls Tryz.prog 123 #[h.v] w (BoolB h.tN w):=by
 unfold Hd.v Hd.tN
 by_cases h1:1 ≤ h.t
 · have h1':h.t ≥ 1:=h1
   by_cases h2:h.t ≤ 16 <;>
   · go_enter Tryz.func123,Tryz.ntmps123
     go_wp2
     go_ret
     exact ⟨by simp [h1,h2],(Below.refl _ _).alloc (Nat.le_refl _) _⟩
 · have h1':¬ (h.t ≥ 1):=h1
   go_enter Tryz.func123,Tryz.ntmps123
   go_wp2
   go_ret
   exact ⟨by simp [h1];omega,(Below.refl _ _).alloc (Nat.le_refl _) _⟩
theorem gen_h (h:Hd) (w:World):Calls Tryz.prog 124 #[h.v] w (BoolB h.gN w):=by
 unfold Hd.v Hd.gN
 go_enter Tryz.func124,Tryz.ntmps124
 go_wp2
 go_ret
 exact ⟨rfl,(Below.refl _ _).alloc (Nat.le_refl _) _⟩
theorem rights_h (h:Hd) (w:World):Calls Tryz.prog 125 #[h.v] w (BoolB h.rN w):=by
 unfold Hd.v Hd.rN
 by_cases h1:1 ≤ h.r
 · have h1':h.r ≥ 1:=h1
   by_cases h2:h.r ≤ 7 <;>
   · go_enter Tryz.func125,Tryz.ntmps125
     go_wp2
     go_ret
     exact ⟨by simp [h1,h2],(Below.refl _ _).alloc (Nat.le_refl _) _⟩
 · have h1':¬ (h.r ≥ 1):=h1
   go_enter Tryz.func125,Tryz.ntmps125
   go_wp2
   go_ret
   exact ⟨by simp [h1];omega,(Below.refl _ _).alloc (Nat.le_refl _) _⟩
theorem blk_at3 (w:World) (h:Hd):Blk ((w.alloc (.cells h.cells 137)).alloc (.cells #[.func (.func 123) #[h.v] #[],.func (.func 124) #[h.v] #[],.func (.func 125) #[h.v] #[]] 58)) (w.heap.size + 1) 58 #[.func (.func 123) #[h.v] #[],.func (.func 124) #[h.v] #[],.func (.func 125) #[h.v] #[]]:=by
 have hb:=Blk.new (w.alloc (.cells h.cells 137)) 58 #[.func (.func 123) #[h.v] #[],.func (.func 124) #[h.v] #[],.func (.func 125) #[h.v] #[]]
 rw [World.size_alloc] at hb
 exact hb
set_option maxHeartbeats 1600000 in
theorem right_h (h:Hd) (w:World):Calls Tryz.prog 68 #[h.v] w (BoolB h.right w):=by
 have T:=Lib.hid (fun W=>tenant_h h W)
 have G:=Lib.hid (fun W=>gen_h h W)
 have R:=Lib.hid (fun W=>rights_h h W)
 unfold Hd.v at T G R ⊢
 have hB:=blk_at3 w h
 have hb0:Below w.heap.size w ((w.alloc (.cells h.cells 137)).alloc (.cells #[.func (.func 123) #[h.v] #[],.func (.func 124) #[h.v] #[],.func (.func 125) #[h.v] #[]] 58)):=((Below.refl _ _).alloc (Nat.le_refl _) _).alloc (by simp) _
 unfold Hd.cells Hd.v at hB hb0
 have HB:=Lib.hid (And.intro hB hb0)
 clear hB hb0
 go_enter Tryz.func68,Tryz.ntmps68
 go_wp2
 generalize (w.alloc (.cells #[.int .i64 h.t,.int .u32 h.g,.int .u8 h.r] 137)).alloc _=w2 at HB ⊢
 go_loopw [13] (fun v wr=>∃ k:Nat,k ≤ 3∧v=.int .i64 k∧(1 ≤ k→h.tN=true)∧(2 ≤ k→h.gN=true)∧(3 ≤ k→h.rN=true)∧Below w2.heap.size w2 wr) (fun v _=>3 - (intOf v).toNat)
 case atStart=>exact ⟨0,by omega,rfl,fun h=>by omega,fun h=>by omega,fun h=>by omega,Below.refl _ _⟩
 case round =>
  obtain ⟨k,hk,rfl,k1,k2,k3,hbel⟩:=hrel
  have hB:=HB.out.1.below hbel HB.out.1.lt
  have HBW:=Lib.hid (below_trans HB.out.2 hbel)
  have HBE:=Lib.hid hbel
  have hk':k=0 ∨ k=1 ∨ k=2 ∨ k=3:=by omega
  rcases hk' with rfl | rfl | rfl | rfl
  · have d:=hB.cell 0
    simp at d
    clear hB hbel
    cases hh:h.tN
    · rw [hh] at T
      have HH:=Lib.hid hh
      clear hh
      go_wp2_with (go_at_call 123;refine (T.out _).mono ?_;rintro e w3 ⟨rfl,hb3⟩;have HB3:=Lib.hid hb3;clear hb3)
      go_ret
      exact ⟨by unfold Hd.right;rw [HH.out];rfl,below_trans HBW.out HB3.out⟩
    · rw [hh] at T
      have HH:=Lib.hid hh
      clear hh
      go_wp2_with (go_at_call 123;refine (T.out _).mono ?_;rintro e w3 ⟨rfl,hb3⟩;have HB3:=Lib.hid hb3;clear hb3)
      go_roundw
      case rel=>exact ⟨1,by omega,rfl,fun _=>(by first | exact HH.out | trivial),fun h=>by omega,fun h=>by omega,below_trans HBE.out HB3.out⟩
      case measure=>simp [intOf]
  · have d:=hB.cell 1
    simp at d
    clear hB hbel
    cases hh:h.gN
    · rw [hh] at G
      have HH:=Lib.hid hh
      clear hh
      go_wp2_with (go_at_call 124;refine (G.out _).mono ?_;rintro e w3 ⟨rfl,hb3⟩;have HB3:=Lib.hid hb3;clear hb3)
      go_ret
      exact ⟨by unfold Hd.right;rw [HH.out];simp,below_trans HBW.out HB3.out⟩
    · rw [hh] at G
      have HH:=Lib.hid hh
      clear hh
      go_wp2_with (go_at_call 124;refine (G.out _).mono ?_;rintro e w3 ⟨rfl,hb3⟩;have HB3:=Lib.hid hb3;clear hb3)
      go_roundw
      case rel=>exact ⟨2,by omega,rfl,fun _=>k1 (by omega),fun _=>(by first | exact HH.out | trivial),fun h=>by omega,below_trans HBE.out HB3.out⟩
      case measure=>simp [intOf]
  · have d:=hB.cell 2
    simp at d
    clear hB hbel
    cases hh:h.rN
    · rw [hh] at R
      have HH:=Lib.hid hh
      clear hh
      go_wp2_with (go_at_call 125;refine (R.out _).mono ?_;rintro e w3 ⟨rfl,hb3⟩;have HB3:=Lib.hid hb3;clear hb3)
      go_ret
      exact ⟨by unfold Hd.right;rw [HH.out];simp,below_trans HBW.out HB3.out⟩
    · rw [hh] at R
      have HH:=Lib.hid hh
      clear hh
      go_wp2_with (go_at_call 125;refine (R.out _).mono ?_;rintro e w3 ⟨rfl,hb3⟩;have HB3:=Lib.hid hb3;clear hb3)
      go_roundw
      case rel=>exact ⟨3,by omega,rfl,fun _=>k1 (by omega),fun _=>k2 (by omega),fun _=>(by first | exact HH.out | trivial),below_trans HBE.out HB3.out⟩
      case measure=>simp [intOf]
  · have HK:=Lib.hid (And.intro (k1 (by omega)) (And.intro (k2 (by omega)) (k3 (by omega))))
    clear hB hbel k1 k2 k3
    go_wp2
    go_ret
    exact ⟨by unfold Hd.right;rw [HK.out.1,HK.out.2.1,HK.out.2.2];rfl,HBW.out⟩
theorem Right_h (h:Hd) (w:World):Calls Tryz.prog 31 #[h.v] w (BoolB h.right w):=by
 have hb0:=(Below.refl w.heap.size w).alloc (Nat.le_refl _) (.cells h.cells 37)
 have HR:=Lib.hid (right_h h (w.alloc (.cells h.cells 37)))
 unfold Hd.v Hd.cells at *
 have HB:=Lib.hid hb0
 clear hb0
 generalize h.right=b at HR ⊢
 go_enter Tryz.func31,Tryz.ntmps31
 go_wp2_with (go_at_call 68;refine HR.out.mono ?_;rintro e w3 ⟨rfl,hb3⟩;have HB3:=Lib.hid (HB.out.trans (hb3.mono HB.out.size));clear hb3)
 go_ret
 exact ⟨rfl,HB3.out⟩
def asksN (d:Int):Int × Bool:=if d=1 then (1,true) else if d=6 then (1,true) else if d=2 then (2,true) else if d=3 then (2,true) else if d=4 then (2,true) else if d=5 then (4,true) else (0,false)
def hasN (h:Hd) (r:Int):Bool:=decide (bits .and .u8 h.r r=r)
section
variable {P:Program} {w:World}
theorem wpList_lookup_run {ops:Array Oper} {rest:List Oper} {o:Oper} {a:Act} {Q:Exit→Act→World→Prop} (hg:o.guard=none) (m x:Operand) (t:TypeId) (ok:Bool) (hop:o.op=Op.lookup t m x ok)
 (mv kv v:Value) (hm:a.eval m=mv) (hx:a.eval x=kv) (hrun:(Instr.lookup t mv kv ok).run P w=.ok v w) (hK:wpList P ops Q rest (a.put o.dst v) w):wpList P ops Q (o :: rest) a w:=by
 refine wpList_plain hg fun K' hK'=>?_
 unfold Oper.wp
 simp [execOp,hop,hm,hx,hrun,Result.andThen]
 exact hK' _ _ hK
end
def asksMap:List (Int × Value):=[(1,.int .u8 1),(6,.int .u8 1),(2,.int .u8 2),(3,.int .u8 2),(4,.int .u8 2),(5,.int .u8 4)]
theorem asks_look (d:Int):look (.int .u8 0) d asksMap=.int .u8 (asksN d).1∧hasKey d asksMap=(asksN d).2:=by
 unfold asksMap asksN hasKey
 by_cases h1:d=1
 · subst h1;exact ⟨rfl,rfl⟩
 by_cases h2:d=6
 · subst h2;exact ⟨rfl,rfl⟩
 by_cases h3:d=2
 · subst h3;exact ⟨rfl,rfl⟩
 by_cases h4:d=3
 · subst h4;exact ⟨rfl,rfl⟩
 by_cases h5:d=4
 · subst h5;exact ⟨rfl,rfl⟩
 by_cases h6:d=5
 · subst h6;exact ⟨rfl,rfl⟩
 rw [if_neg h1,if_neg h2,if_neg h3,if_neg h4,if_neg h5,if_neg h6]
 refine ⟨?_,?_⟩
 · simp only [look]
   rw [if_neg (fun e=>h1 e.symm),if_neg (fun e=>h2 e.symm),if_neg (fun e=>h3 e.symm),if_neg (fun e=>h4 e.symm),if_neg (fun e=>h5 e.symm),if_neg (fun e=>h6 e.symm)]
 · simp
   exact ⟨fun e=>h1 e.symm,fun e=>h2 e.symm,fun e=>h3 e.symm,fun e=>h4 e.symm,fun e=>h5 e.symm,fun e=>h6 e.symm⟩
theorem asks_lookup {w:World} {b:Nat} (h:IntMap .i64 w b asksMap) (d:Int):(Instr.lookup 301 (.map (some b)) (.int .i64 d) true).run Tryz.prog w=.ok (.tuple #[.int .u8 (asksN d).1,.bool (asksN d).2]) w:=by
 have:=run_lookup_intmap (P:=Tryz.prog) (n:=d) h Tryz.underlying301 Tryz.underlying33 rfl (Tryz.zeroValue35 w) true
 rw [(asks_look d).1,(asks_look d).2] at this
 simpa using this
set_option maxHeartbeats 800000 in
set_option maxRecDepth 100000 in
theorem Asks_h (d:Int) (w:World):Calls Tryz.prog 208 #[.int .i64 d] w fun e w'=>e=.returned (.tuple #[.int .u8 (asksN d).1,.bool (asksN d).2])∧Below w.heap.size w w':=by
 have hmm:=@run_makeMap Tryz.prog
 have m0:=IntMap.made .i64 w
 have b0:Below w.heap.size w (w.alloc (.map #[] 0)):=(Below.refl _ _).alloc (Nat.le_refl _) _
 go_enter Tryz.func208,Tryz.ntmps208
 go_wp2_with (first
  | (refine wpList_insert_lit w w.heap.size rfl _ _ _ _ rfl 33 35 .i64 .i64 Tryz.underlying301 Tryz.underlying33 rfl _ _ rfl (by assumption) (by assumption) (Nat.le_refl _) _ rfl (by rfl) _ rfl ?_;intro wa ma ba)
  | (refine wpList_lookup_run rfl _ _ 301 true rfl _ _ _ rfl rfl (asks_lookup ma d) ?_))
 go_ret2
 exact ⟨rfl,ba⟩
theorem has_h (h:Hd) (r:Int) (w:World):Calls Tryz.prog 209 #[h.v,.int .u8 r] w (BoolB (hasN h r) w):=by
 unfold Hd.v hasN
 go_enter Tryz.func209,Tryz.ntmps209
 go_wp2
 go_ret
 exact ⟨rfl,(Below.refl _ _).alloc (Nat.le_refl _) _⟩
def allowsN (h:Hd) (d:Int):Bool:=(asksN d).2 && h.right && hasN h (asksN d).1
set_option maxHeartbeats 800000 in
theorem Allows_h (h:Hd) (d:Int) (w:World):Calls Tryz.prog 170 #[h.v,.int .i64 d] w (BoolB (allowsN h d) w):=by
 have hb0:=(Below.refl w.heap.size w).alloc (Nat.le_refl _) (.cells h.cells 37)
 have hB:=Blk.new w 37 h.cells
 have HA:=Lib.hid (Asks_h d (w.alloc (.cells h.cells 37)))
 have HR:=Lib.hid (fun W=>Right_h h W)
 have HS:=Lib.hid (fun r W=>has_h h r W)
 have HB:=Lib.hid (And.intro hb0 hB)
 clear hb0 hB
 obtain ⟨r,hr⟩:∃ r,asksN d=r:=⟨_,rfl⟩
 obtain ⟨rn,rb⟩:=r
 have HE:Hid (allowsN h d=(rb && h.right && hasN h rn)):=Lib.hid (by unfold allowsN;rw [hr])
 rw [hr] at HA
 clear hr
 unfold Hd.v Hd.cells at *
 cases rb with
 | false =>
   go_enter Tryz.func170,Tryz.ntmps170
   go_wp2_with (go_at_call 208;refine HA.out.mono ?_;rintro e w1 ⟨rfl,hb⟩;have HB1:=Lib.hid (HB.out.1.trans (hb.mono HB.out.1.size));clear hb)
   go_ret
   exact ⟨by rw [HE.out];rfl,HB1.out⟩
 | true =>
   have HRI:Hid (∃ b,h.right=b):=Lib.hid ⟨_,rfl⟩
   cases hri:h.right with
   | false =>
     have HE2:Hid (allowsN h d=false):=Lib.hid (by rw [HE.out,hri];rfl)
     rw [hri] at HR
     clear hri
     go_enter Tryz.func170,Tryz.ntmps170
     go_wp2_with (first
        | (go_at_call 208;refine HA.out.mono ?_;rintro e w1 ⟨rfl,hb⟩;have HB1:=Lib.hid (HB.out.1.trans (hb.mono HB.out.1.size));have hq:=HB.out.2.below hb HB.out.2.lt;have c0:=hq.cell 0;have c1:=hq.cell 1;have c2:=hq.cell 2;simp at c0 c1 c2;clear hq hb)
        | (go_at_call 31;refine (HR.out _).mono ?_;rintro e w2 ⟨rfl,hb⟩;have HB2:=Lib.hid (HB1.out.trans (hb.mono HB1.out.size));clear hb))
     go_ret
     exact ⟨by rw [HE2.out];rfl,HB2.out⟩
   | true =>
     have HE2:Hid (allowsN h d=hasN h rn):=Lib.hid (by rw [HE.out,hri];rfl)
     rw [hri] at HR
     clear hri
     go_enter Tryz.func170,Tryz.ntmps170
     go_wp2_with (first
        | (go_at_call 208;refine HA.out.mono ?_;rintro e w1 ⟨rfl,hb⟩;have HB1:=Lib.hid (HB.out.1.trans (hb.mono HB.out.1.size));have hq:=HB.out.2.below hb HB.out.2.lt;have c0:=hq.cell 0;have c1:=hq.cell 1;have c2:=hq.cell 2;simp at c0 c1 c2;have HQ:=Lib.hid hq;clear hq hb)
        | (go_at_call 31;refine (HR.out _).mono ?_;rintro e w2 ⟨rfl,hb⟩;have HB2:=Lib.hid (HB1.out.trans (hb.mono HB1.out.size));have hq:=HQ.out.below hb HQ.out.lt;have d0:=hq.cell 0;have d1:=hq.cell 1;have d2:=hq.cell 2;simp at d0 d1 d2;clear hq hb)
        | (go_at_call 209;refine (HS.out rn _).mono ?_;rintro e w3 ⟨rfl,hb⟩;have HB3:=Lib.hid (HB2.out.trans (hb.mono HB2.out.size));clear hb))
     go_ret
     exact ⟨by rw [HE2.out];rfl,HB3.out⟩
end Go.Proofs.YtkgflepgkhnclaaGreatDoor
