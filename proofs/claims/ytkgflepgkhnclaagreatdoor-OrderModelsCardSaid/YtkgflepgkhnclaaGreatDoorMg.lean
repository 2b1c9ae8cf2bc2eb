/- Layer 27: OrderTenants: limits. Layer 27: OrderTenants: dead handles. Layer 27: OrderTenants: no dead handle is good. Layer 27: OrderTenants: books are compared. Layer 27: OrderTenants: sizes and limits. Layer 27: OrderModels: the reference's book: where a key stands. Layer 27: OrderModels: the reference's book: Has, Get, Keys, Bytes. Layer 27: OrderModels: the reference's book as the book (no program in sight). Layer 27: OrderModels: the reference's book: without. Layer 27: packages load and stat: a deed is recorded (that it returns; the numbers themselves are left open). Layer 27: packages load and stat: Next, more, count, counterOf. -/
import Derived.Test.YtkgflepgkhnclaaGreatDoorMf
import Derived.Test.YtkgflepgkhnclaaGreatDoorMe
import Derived.Test.YtkgflepgkhnclaaGreatDoorMb
import Derived.Test.YtkgflepgkhnclaaGreatDoorMd
import Derived.Test.YtkgflepgkhnclaaGreatDoorMc
import Derived.Shelf.Spec.BitsCarry
namespace Go.Proofs.YtkgflepgkhnclaaGreatDoor
set_option linter.unusedVariables false
set_option linter.unusedSimpArgs false
open Go.RowKit Go.Shelf
theorem sizeL_take {l:List Kv} {k:Nat} (hk:k < l.length):sizeL (l.take (k + 1))=sizeL (l.take k) + (l[k].1.size + l[k].2.size):=by
 rw [List.take_succ_eq_append_getElem hk]
 unfold sizeL
 rw [List.map_append,List.sum_append]
 simp only [List.map_cons,List.map_nil,List.sum_cons,List.sum_nil,sizeP]
 omega
theorem sizeL_take_le:∀ (l:List Kv) (k:Nat),sizeL (l.take k) ≤ sizeL l
 | [],k=>by simp [sizeL]
 | x :: l,0=>by simp [sizeL]
 | x :: l,k + 1=>by
   have:=sizeL_take_le l k
   unfold sizeL at *
   simp only [List.take_succ_cons,List.map_cons,List.sum_cons]
   omega
structure RBk where
 A:Option Addr
 c:Nat
 l:List Kv
 qk:Int
 qb:Int
abbrev RBk.cs (b:RBk):Array Value:=#[.slice b.A b.l.length b.c,.int .u64 b.qk,.int .u64 b.qb]
abbrev RBk.v (b:RBk):Value:=.agg #[.slice b.A b.l.length b.c,.int .u64 b.qk,.int .u64 b.qb]
structure LOk (l:List Kv):Prop where
 keys:(keysL l).Pairwise ltS
 short:∀ p ∈ l,p.1.size ≤ 16∧p.2.size ≤ 32
 len:l.length ≤ 1000
structure RBk.at_ (b:RBk) (W:World):Prop where
 rd:Reads W W.heap.size 2 b.A b.l.length (b.l.flatMap pairR)
 lc:b.l.length ≤ b.c
 cm:b.c ≤ 9223372036854775807
 nl:b.A=none→b.c=0
 ty:∀ ad,0 < b.l.length→b.A=some ad→∃ cs,Blk W ad.block 57 cs
theorem RBk.at_.below {b:RBk} {W W':World} (h:b.at_ W) (hb:Below W.heap.size W W'):b.at_ W' :=
 ⟨⟨h.rd.1,fun h0=>by
   obtain ⟨ad,h1,h2,h3⟩:=h.rd.2 h0
   exact ⟨ad,h1,Nat.lt_of_lt_of_le h2 hb.size,fun j u hu=>(hb.cell (p:=ad.add j) (by rw [block_of_add];exact h2)).trans (h3 j u hu)⟩⟩,h.lc,h.cm,h.nl,fun ad h0 hA=>(h.ty ad h0 hA).imp fun cs hc=>hc.below hb hc.lt⟩
theorem pos_drop {key:ByteArray} {l:List Kv} {k:Nat} (hk:k < l.length) (hl:ltS l[k].1 key) (h:posK key (keysL l)=k + posK key (keysL (l.drop k))):posK key (keysL l)=(k + 1) + posK key (keysL (l.drop (k + 1))):=by
 rw [List.drop_eq_getElem_cons hk] at h
 unfold keysL at h ⊢
 rw [List.map_cons,posK,if_pos hl] at h
 omega
theorem pos_stop {key:ByteArray} {l:List Kv} {k:Nat} (hk:k < l.length) (hl:¬ ltS l[k].1 key) (h:posK key (keysL l)=k + posK key (keysL (l.drop k))):posK key (keysL l)=k:=by
 rw [List.drop_eq_getElem_cons hk] at h
 unfold keysL at h ⊢
 rw [List.map_cons,posK,if_neg hl] at h
 omega
theorem pos_end {key:ByteArray} {l:List Kv} (h:posK key (keysL l)=l.length + posK key (keysL (l.drop l.length))):posK key (keysL l)=l.length:=by
 rw [List.drop_length] at h
 exact h
def NatB (n:Nat) (w:World) (e:Ending) (w':World):Prop:=e=.returned (.int .i64 (n:Nat))∧Below w.heap.size w w'
set_option maxHeartbeats 1600000 in
set_option maxRecDepth 100000 in
theorem at_any (b:RBk) (key:ByteArray) (w:World) (hb:b.at_ w) (hl:LOk b.l) (hk:key.size ≤ 9223372036854775807) :
 Calls Tryz.prog 147 #[b.v,.string key] w (NatB (posK key (keysL b.l)) w):=by
 have HL:=Lib.hid hl
 have hlen:=hl.len
 have hb0:=below_box w (.cells b.cs 62)
 have HX:=Lib.hid (And.intro (hb.below hb0) (And.intro (Blk.new w 62 b.cs) hb0))
 clear hb hl hb0
 go_enter Tryz.func147,Tryz.ntmps147
 go_wp2_with fail
 try simp only [Act.put]
 unfold RBk.cs at HX
 generalize hgb:w.heap.size=gb at HX ⊢
 generalize w.alloc (.cells #[.slice b.A b.l.length b.c,.int .u64 b.qk,.int .u64 b.qb] 62)=w1 at HX ⊢
 have HGB:=Lib.hid hgb
 clear hgb
 go_loopw [5] (fun i wr=>∃ k:Nat,k ≤ b.l.length∧i=.int .i64 (k:Nat)∧Hid (posK key (keysL b.l)=k + posK key (keysL (b.l.drop k)))∧Hid (Below w1.heap.size w1 wr)) (fun i _=>b.l.length - (intOf i).toNat)
 case atStart=>exact ⟨0,Nat.zero_le _,rfl,Lib.hid (by simp),Lib.hid (Below.refl _ _)⟩
 case round =>
  obtain ⟨k,hkl,rfl,hp,hw⟩:=hrel
  have hbk:=HX.out.2.1.below hw.out HX.out.2.1.lt
  have c0:=hbk.cell 0
  rw [show (#[.slice b.A b.l.length b.c,.int .u64 b.qk,.int .u64 b.qb]:Array Value)[0]?=some (.slice b.A b.l.length b.c) from rfl] at c0
  clear hbk
  have i0:(0:Int) ≤ (k:Int):=by omega
  by_cases hlt:k < b.l.length
  · have i1:(k:Int) < (b.l.length:Int):=by omega
    obtain ⟨ad,hA,hab,hc⟩:=row_cells pairR_one (HX.out.1.below hw.out).rd rfl hlt
    have hsz:=(HL.out.short _ (List.getElem_mem hlt)).1
    have hd:=pos_drop (key:=key) hlt
    have hs:=pos_stop (key:=key) hlt
    generalize b.l[k]=x at hc hsz hd hs
    have q0:wr.cell? (ad.add (k * 2))=some (.string x.1):=by have:=hc 0 _ rfl;rwa [add_of_add] at this
    rw [hA] at c0
    have HLE:=Lib.hid (less_any x.1 key wr (by omega) hk)
    have HDS:=Lib.hid (And.intro hd hs)
    clear hc hsz hA hd hs
    go_wp2_with fail
    refine HLE.out.mono ?_
    rintro e w2 ⟨rfl,n,rfl⟩
    have HB2:=Lib.hid (drewB hw.out n)
    cases hcmp:lessB x.1 key with
    | true =>
      have hd:=HDS.out.1 (lessB_iff.1 hcmp) hp.out
      have HD:=Lib.hid hd
      clear hd hcmp
      go_wp2_with fail
      go_roundw
      case rel=>exact ⟨k + 1,by omega,by go_num,HD,HB2⟩
      case measure=>simp [intOf];omega
    | false =>
      have hs:=HDS.out.2 (fun h=>by rw [lessB_iff.2 h] at hcmp;cases hcmp) hp.out
      have HS:=Lib.hid hs
      clear hs hcmp
      go_wp2_with fail
      go_ret
      exact ⟨by rw [HS.out];rfl,below_trans (by rw [HGB.out];exact HX.out.2.2) HB2.out⟩
  · obtain rfl:k=b.l.length:=by omega
    have he:=pos_end hp.out
    have HE:=Lib.hid he
    clear he
    go_wp2_with fail
    go_ret
    exact ⟨by rw [HE.out];rfl,below_trans (by rw [HGB.out];exact HX.out.2.2) hw.out⟩
theorem key_at {key:ByteArray} {l:List Kv} (h:LOk l):(getL key l).isSome=true ↔ (keysL l)[posK key (keysL l)]?=some key:=by
 rw [← pos_mem h.keys]
 constructor
 · intro h1
   refine Classical.byContradiction fun h2=>?_
   rw [getL_none.2 h2] at h1
   cases h1
 · intro h1
   cases hg:getL key l with
   | none=>exact absurd h1 (getL_none.1 hg)
   | some v=>rfl
theorem get_at {key:ByteArray} {l:List Kv} (h:LOk l) {n:Nat} (hn:n < l.length) (hk:l[n].1=key):getL key l=some l[n].2:=by
 refine mem_getL h.keys ?_
 rw [← hk]
 exact List.getElem_mem hn
theorem has_yes {key:ByteArray} {l:List Kv} (h:LOk l) {n:Nat} (hn:n < l.length) (hp:posK key (keysL l)=n):(getL key l).isSome=decide (l[n].1=key):=by
 have h1:=key_at (key:=key) h
 rw [hp,List.getElem?_map,List.getElem?_eq_getElem hn,Option.map_some,Option.some.injEq] at h1
 by_cases h2:l[n].1=key
 · rw [decide_eq_true h2];exact h1.2 h2
 · rw [decide_eq_false h2]
   cases hg:(getL key l).isSome with
   | false=>rfl
   | true=>exact absurd (h1.1 hg) h2
theorem has_no {key:ByteArray} {l:List Kv} (h:LOk l) (hp:posK key (keysL l)=l.length):(getL key l).isSome=false:=by
 have h1:=key_at (key:=key) h
 rw [hp,List.getElem?_eq_none (by simp)] at h1
 cases hg:(getL key l).isSome with
 | false=>rfl
 | true=>exact absurd (h1.1 hg) (by simp)
set_option maxHeartbeats 1600000 in
set_option maxRecDepth 100000 in
theorem has_any (b:RBk) (key:ByteArray) (w:World) (hb:b.at_ w) (hl:LOk b.l) (hk:key.size ≤ 9223372036854775807) :
 Calls Tryz.prog 146 #[b.v,.string key] w (BoolB (getL key b.l).isSome w):=by
 have hlen:=hl.len
 have hle:posK key (keysL b.l) ≤ b.l.length:=by have:=pos_le (x:=key) (ks:=keysL b.l);simpa using this
 have hyes:=fun (n:Nat) (hn:n < b.l.length) (hp:posK key (keysL b.l)=n)=>has_yes hl hn hp
 have hno:=has_no (key:=key) hl
 have hb0:=below_box w (.cells b.cs 62)
 have HAT:=Lib.hid (at_any b key _ (hb.below hb0) hl hk)
 have HX:=Lib.hid (And.intro (hb.below hb0) (And.intro (Blk.new w 62 b.cs) hb0))
 have c0:=(Blk.new w 62 b.cs).cell 0
 have c1:=(Blk.new w 62 b.cs).cell 1
 have c2:=(Blk.new w 62 b.cs).cell 2
 have HY:=Lib.hid (And.intro hyes hno)
 unfold RBk.cs at HX HAT c0 c1 c2
 simp at c0 c1 c2
 clear hb hl hb0 hyes hno
 go_enter Tryz.func146,Tryz.ntmps146
 go_wp2_with fail
 refine HAT.out.mono ?_
 rintro e w2 ⟨rfl,hb2⟩
 have HB2:=Lib.hid (below_trans HX.out.2.2 hb2)
 have hbk:=HX.out.2.1.below hb2 HX.out.2.1.lt
 have c0:=hbk.cell 0
 rw [show (#[.slice b.A b.l.length b.c,.int .u64 b.qk,.int .u64 b.qb]:Array Value)[0]?=some (.slice b.A b.l.length b.c) from rfl] at c0
 have hrd:=(HX.out.1.below hb2).rd
 generalize hpn:posK key (keysL b.l)=n at hle ⊢
 have HPN:=Lib.hid hpn
 clear c1 c2 hpn hbk hb2 HAT
 have i0:(0:Int) ≤ (n:Int):=by omega
 by_cases hlt:n < b.l.length
 · have i1:(n:Int) < (b.l.length:Int):=by omega
   obtain ⟨ad,hA,hab,hc⟩:=row_cells pairR_one hrd rfl hlt
   have hbb:=HY.out.1 n hlt HPN.out
   rw [← beqBytes] at hbb
   generalize b.l[n]=x at hc hbb
   have q0:w2.cell? (ad.add (n * 2))=some (.string x.1):=by have:=hc 0 _ rfl;rwa [add_of_add] at this
   rw [hA] at c0
   have HBB:=Lib.hid hbb
   clear hc hA hbb hrd HX
   generalize hq:(x.1.toList == key.toList)=bb at HBB
   go_wp2_with fail
   go_ret
   exact ⟨by rw [HBB.out];rfl,HB2.out⟩
 · have i1:¬ (n:Int) < (b.l.length:Int):=by omega
   have hbb:=HY.out.2 (by rw [HPN.out];omega)
   have HBB:=Lib.hid hbb
   clear hbb hrd HX
   go_wp2_with fail
   go_ret
   exact ⟨by rw [HBB.out];rfl,HB2.out⟩
set_option maxHeartbeats 3200000 in
set_option maxRecDepth 100000 in
theorem get_any (b:RBk) (key:ByteArray) (w:World) (hb:b.at_ w) (hl:LOk b.l) (hk:key.size ≤ 9223372036854775807) :
 Calls Tryz.prog 86 #[b.v,.string key] w (StrErr (thereN b.l key []) w):=by
 have hlen:=hl.len
 have hle:posK key (keysL b.l) ≤ b.l.length:=by have:=pos_le (x:=key) (ks:=keysL b.l);simpa using this
 have hyes:=fun (n:Nat) (hn:n < b.l.length) (hp:posK key (keysL b.l)=n)=>has_yes hl hn hp
 have hget:=fun (n:Nat) (hn:n < b.l.length)=>get_at (key:=key) hl hn
 have hno:=has_no (key:=key) hl
 have HY:=Lib.hid (And.intro hyes (And.intro hno hget))
 have hb0:=below_box w (.cells b.cs 62)
 have HX:=Lib.hid (And.intro (hb.below hb0) (And.intro (Blk.new w 62 b.cs) hb0))
 have HHAS:=Lib.hid (fun W (h:b.at_ W)=>has_any b key W h hl hk)
 have HATT:=Lib.hid (fun W (h:b.at_ W)=>at_any b key W h hl hk)
 unfold RBk.cs at HX
 clear hb hl hb0 hyes hno hget
 go_enter Tryz.func86,Tryz.ntmps86
 refine wp_seq_k fun K0 hK=>?_
 have HK0:=Lib.hid hK
 clear hK
 go_wp2_with fail
 refine HK0.out _ _ ?_
 clear HK0
 try simp only [Act.put]
 obtain ⟨gb,hgb⟩:∃ n,w.heap.size=n:=⟨_,rfl⟩
 rw [hgb] at HX
 generalize hwa:w.alloc (.cells #[.slice b.A b.l.length b.c,.int .u64 b.qk,.int .u64 b.qb] 62)=w1 at HX ⊢
 have HGB:=Lib.hid hgb
 rw [hgb]
 clear hwa hgb
 by_cases h16:16 < key.size
 · have hi:(16:Int) < (key.size:Int):=by omega
   have ht:thereN b.l key []=(⟨#[]⟩,2):=by unfold thereN mayN;rw [if_pos (by rw [if_pos (.inl h16)])]
   have HTH:=Lib.hid ht
   clear ht
   go_wp2_with fail
   go_ret2
   exact ⟨by rw [HTH.out];rfl,by rw [HGB.out];exact HX.out.2.2⟩
 · have hi:¬ (16:Int) < (key.size:Int):=by omega
   have hm:¬ mayN key []=2:=by unfold mayN;rw [if_neg (by rintro (h | h);exact h16 h;cases h)];decide
   have c0:=HX.out.2.1.cell 0
   have c1:=HX.out.2.1.cell 1
   have c2:=HX.out.2.1.cell 2
   rw [show (#[.slice b.A b.l.length b.c,.int .u64 b.qk,.int .u64 b.qb]:Array Value)[0]?=some (.slice b.A b.l.length b.c) from rfl] at c0
   rw [show (#[.slice b.A b.l.length b.c,.int .u64 b.qk,.int .u64 b.qb]:Array Value)[1]?=some (.int .u64 b.qk) from rfl] at c1
   rw [show (#[.slice b.A b.l.length b.c,.int .u64 b.qk,.int .u64 b.qb]:Array Value)[2]?=some (.int .u64 b.qb) from rfl] at c2
   refine wp_seq_k fun K0 hK=>?_
   have HK0:=Lib.hid hK
   clear hK
   go_wp2_with fail
   refine HK0.out _ _ ?_
   clear HK0
   try simp only [Act.put]
   refine wp_seq_k fun K0 hK=>?_
   have HK0:=Lib.hid hK
   clear hK
   go_wp2_with fail
   refine (HHAS.out _ HX.out.1).mono ?_
   rintro e w2 ⟨rfl,hb2⟩
   have HB2:=Lib.hid (show Below w.heap.size w w2 from below_trans (by rw [HGB.out];exact HX.out.2.2) hb2)
   have HQ2:=Lib.hid (And.intro (HX.out.1.below hb2) (HX.out.2.1.below hb2 HX.out.2.1.lt))
   clear hb2 HX c0 c1 c2 HHAS
   cases hg:getL key b.l with
   | none =>
     have ht:thereN b.l key []=(⟨#[]⟩,5):=by unfold thereN;rw [if_neg hm,hg]
     have HTH:=Lib.hid ht
     clear hm hg ht
     go_wp2_with fail
     go_ret2
     exact ⟨by rw [HTH.out];rfl,HB2.out⟩
   | some v =>
     have ht:thereN b.l key []=(v,0):=by unfold thereN;rw [if_neg hm,hg]
     have HTH:=Lib.hid ht
     have hlt:posK key (keysL b.l) < b.l.length:=by
        rcases Nat.lt_or_ge (posK key (keysL b.l)) b.l.length with h | h
        · exact h
        · have:=HY.out.2.1 (by omega)
          rw [hg] at this
          cases this
     obtain ⟨ad,hA,hab,hc⟩:=row_cells pairR_one HQ2.out.1.rd rfl hlt
     have hbb:=HY.out.1 _ hlt rfl
     rw [hg,Option.isSome_some] at hbb
     have hxv:=HY.out.2.2 _ hlt (of_decide_eq_true hbb.symm)
     rw [hg] at hxv
     injection hxv with hxv
     have hat:=HATT.out _ (HQ2.out.1.below ((Below.refl _ w2).drew))
     unfold RBk.v at hat
     rw [hA] at hat
     have HAT:=Lib.hid hat
     clear hat
     generalize b.l[posK key (keysL b.l)]=x at hc hxv
     generalize hpn:posK key (keysL b.l)=n at hle hlt hc HAT
     subst hxv
     have HC:Hid (∀ V:World,Below w2.drew.heap.size w2.drew V→V.cell? ⟨gb,0,none⟩=some (.slice (some ad) b.l.length b.c)∧V.cell? ⟨gb,1,none⟩=some (.int .u64 b.qk)∧V.cell? ⟨gb,2,none⟩=some (.int .u64 b.qb)∧V.cell? ⟨(ad.add (n * 2)).block,(ad.add (n * 2)).off + 1,none⟩=some (.string x.2)):=Lib.hid (fun V hV=>by
        have hb3:Below w2.heap.size w2 V:=⟨hV.os,hV.tape,hV.output,hV.size,hV.block⟩
        have hk3:=HQ2.out.2.below hb3 HQ2.out.2.lt
        refine ⟨?_,hk3.cell 1,hk3.cell 2,(hb3.cell (p:=⟨(ad.add (n * 2)).block,(ad.add (n * 2)).off + 1,none⟩) (by rw [block_of_add];exact hab)).trans (hc 1 _ rfl)⟩
        rw [← hA];exact hk3.cell 0)
     have H0:=HC.out _ (Below.refl _ _)
     have i0:(0:Int) ≤ (n:Int):=by omega
     have i1:(n:Int) < (b.l.length:Int):=by omega
     have HPN:=Lib.hid hpn
     clear hc hm hg ht hbb hA hab hpn
     go_wp2_with fail
     refine HK0.out _ _ ?_
     clear HK0
     try simp only [Act.put]
     refine wp_seq_k fun K0 hK=>?_
     have HK0:=Lib.hid hK
     clear hK
     refine wp_region_noPanic ?_
     refine wp_region_held_drew (S:=(fun V:World=>V.cell? ⟨gb,0,none⟩=some (.slice (some ad) b.l.length b.c)∧V.cell? ⟨gb,1,none⟩=some (.int .u64 b.qk)∧V.cell? ⟨gb,2,none⟩=some (.int .u64 b.qb)∧V.cell? ⟨(ad.add (n * 2)).block,(ad.add (n * 2)).off + 1,none⟩=some (.string x.2))) (by kernel_rfl) ?_ (fun hHeld0=>?_)
     · exact H0
     refine tk (i:=0) (v:=?_) rfl (Or.inl ⟨by rfl,?_⟩) hHeld0 ?_
     rotate_left
     · (intro w hSw;(try dsimp only at hSw);go_simp <;> with_reducible rfl)
     try simp only [Act.put,zD,zE,zF]
     refine tk (i:=1) (v:=?_) rfl (Or.inl ⟨by rfl,?_⟩) hHeld0 ?_
     rotate_left
     · (intro w hSw;(try dsimp only at hSw);go_simp <;> with_reducible rfl)
     try simp only [Act.put,zD,zE,zF]
     refine tk (i:=2) (v:=?_) rfl (Or.inl ⟨by rfl,?_⟩) hHeld0 ?_
     rotate_left
     · (intro w hSw;(try dsimp only at hSw);go_simp <;> with_reducible rfl)
     try simp only [Act.put,zD,zE,zF]
     refine tk (i:=3) (v:=?_) rfl (Or.inl ⟨by rfl,?_⟩) hHeld0 ?_
     rotate_left
     · (intro w hSw;(try dsimp only at hSw);go_simp <;> with_reducible rfl)
     try simp only [Act.put,zA,zB,zC,zD,zE,zF]
     refine wpAnyH_ready (rs:=[4]) (by kernel_rfl) (by simp) ?_
     refine AllReadyH.cons rfl (fun K hK=>?_) AllReadyH.nil
     go_simp
     with_reducible refine HAT.out.mono ?_
     rintro e w9 ⟨rfl,hb9⟩
     refine hK.out _ _ ?_ (fun hHeld1=>?_)
     · exact HC.out _ hb9
     clear hK K hHeld0
     try simp only [Act.put,zA,zB,zC,zD,zE,zF]
     refine tk (i:=5) (v:=?_) rfl (Or.inl ⟨by rfl,?_⟩) hHeld1 ?_
     rotate_left
     · (intro w hSw;(try dsimp only at hSw);go_simp <;> with_reducible rfl)
     try simp only [Act.put,zD,zE,zF]
     refine tk (i:=6) (v:=?_) rfl (Or.inl ⟨by rfl,?_⟩) hHeld1 ?_
     rotate_left
     · (intro w hSw;(try dsimp only at hSw);go_simp <;> with_reducible rfl)
     try simp only [Act.put,zD,zE,zF]
     refine tk (i:=7) (v:=?_) rfl (Or.inl ⟨by rfl,?_⟩) hHeld1 ?_
     rotate_left
     · (intro w hSw;(try dsimp only at hSw);go_simp <;> with_reducible rfl)
     try simp only [Act.put,zD,zE,zF]
     refine tk (i:=8) (v:=?_) rfl (Or.inl ⟨by rfl,?_⟩) hHeld1 ?_
     rotate_left
     · (intro w hSw;(try dsimp only at hSw);go_simp <;> with_reducible rfl)
     try simp only [Act.put,zD,zE,zF]
     refine tk (i:=9) (v:=?_) rfl (Or.inl ⟨by rfl,?_⟩) hHeld1 ?_
     rotate_left
     · (intro w hSw;(try dsimp only at hSw);go_simp <;> with_reducible rfl)
     try simp only [Act.put,zA,zB,zC,zD,zE,zF]
     refine wpAnyH_done (by kernel_rfl) ?_ _
     refine NoPanic.normal (HK0.out _ _ ?_)
     clear HK0
     have HB9:=Lib.hid (show Below w.heap.size w w9 from below_trans HB2.out ⟨hb9.os,hb9.tape,hb9.output,hb9.size,hb9.block⟩)
     go_wp2_with fail
     go_ret2
     exact ⟨by rw [HTH.out];rfl,HB9.out⟩
set_option maxRecDepth 100000 in
theorem keys_any (b:RBk) (w:World) (hl:LOk b.l):Calls Tryz.prog 42 #[b.v] w (fun e w'=>e=.returned (.int .u64 (b.l.length:Nat))∧Below w.heap.size w w'):=by
 have hlen:=hl.len
 have hw:IntKind.u64.wrap (b.l.length:Int)=(b.l.length:Int):=IntWalk.u64_in _ (by omega)
 clear hl
 go_enter Tryz.func42,Tryz.ntmps42
 go_wp2_with fail
 go_ret
 exact ⟨rfl,below_box _ _⟩
theorem sizeL_short {l:List Kv} (h:LOk l):∀ k,sizeL (l.take k) ≤ 48 * l.length:=by
 intro k
 refine Nat.le_trans (sizeL_take_le l k) ?_
 have:∀ l:List Kv,(∀ p ∈ l,p.1.size ≤ 16∧p.2.size ≤ 32)→sizeL l ≤ 48 * l.length:=by
  intro l
  induction l with
  | nil=>intro _;simp [sizeL]
  | cons x r ih =>
    intro h
    have h1:=h x (by simp)
    have h2:=ih (fun p hp=>h p (by simp [hp]))
    unfold sizeL at *
    simp only [List.map_cons,List.sum_cons,List.length_cons,sizeP]
    omega
 exact this l h.short
set_option maxHeartbeats 1600000 in
set_option maxRecDepth 100000 in
theorem bytes_any (b:RBk) (w:World) (hb:b.at_ w) (hl:LOk b.l):Calls Tryz.prog 43 #[b.v] w (fun e w'=>e=.returned (.int .u64 (sizeL b.l:Nat))∧Below w.heap.size w w'):=by
 have hlen:=hl.len
 have hb0:=below_box w (.cells b.cs 62)
 have HX:=Lib.hid (And.intro (hb.below hb0) (And.intro (Blk.new w 62 b.cs) hb0))
 have HSZ:=Lib.hid (sizeL_short hl)
 have HSH:=Lib.hid hl.short
 unfold RBk.cs at HX
 clear hb hl hb0
 go_enter Tryz.func43,Tryz.ntmps43
 go_wp2_with fail
 try simp only [Act.put]
 obtain ⟨gb,hgb⟩:∃ n,w.heap.size=n:=⟨_,rfl⟩
 rw [hgb] at HX
 generalize hwa:w.alloc (.cells #[.slice b.A b.l.length b.c,.int .u64 b.qk,.int .u64 b.qb] 62)=w1 at HX ⊢
 have HGB:=Lib.hid hgb
 rw [hgb]
 clear hwa hgb
 go_loopw [3,4] (fun s i wr=>∃ k:Nat,k ≤ b.l.length∧i=.int .i64 (k:Nat)∧s=.int .u64 (sizeL (b.l.take k):Nat)∧Hid (Below w1.heap.size w1 wr)) (fun _ i _=>b.l.length - (intOf i).toNat)
 case atStart=>exact ⟨0,Nat.zero_le _,rfl,by simp [sizeL],Lib.hid (Below.refl _ _)⟩
 case round =>
  obtain ⟨k,hkl,rfl,rfl,hw⟩:=hrel
  have hbk:=HX.out.2.1.below hw.out HX.out.2.1.lt
  have c0:=hbk.cell 0
  rw [show (#[.slice b.A b.l.length b.c,.int .u64 b.qk,.int .u64 b.qb]:Array Value)[0]?=some (.slice b.A b.l.length b.c) from rfl] at c0
  clear hbk
  have i0:(0:Int) ≤ (k:Int):=by omega
  by_cases hlt:k < b.l.length
  · have i1:(k:Int) < (b.l.length:Int):=by omega
    obtain ⟨ad,hA,hab,hc⟩:=row_cells pairR_one (HX.out.1.below hw.out).rd rfl hlt
    have hsz:=HSH.out _ (List.getElem_mem hlt)
    have hst:=sizeL_take hlt
    have hsl:=HSZ.out (k + 1)
    generalize b.l[k]=x at hc hsz hst
    have q0:wr.cell? (ad.add (k * 2))=some (.string x.1):=by have:=hc 0 _ rfl;rwa [add_of_add] at this
    have q1:wr.cell? ⟨(ad.add (k * 2)).block,(ad.add (k * 2)).off + 1,none⟩=some (.string x.2):=hc 1 _ rfl
    rw [hA] at c0
    have hw1:IntKind.i64.wrap ((x.1.size:Int) + (x.2.size:Int))=(x.1.size:Int) + (x.2.size:Int):=IntWalk.i64_in _ (by omega)
    have hw2:IntKind.u64.wrap ((x.1.size:Int) + (x.2.size:Int))=(x.1.size:Int) + (x.2.size:Int):=IntWalk.u64_in _ (by omega)
    have hw3:IntKind.u64.wrap ((sizeL (b.l.take k):Int) + ((x.1.size:Int) + (x.2.size:Int)))=(sizeL (b.l.take k):Int) + ((x.1.size:Int) + (x.2.size:Int)):=IntWalk.u64_in _ (by omega)
    have HST:=Lib.hid hst
    clear hc hA hst hsl hsz
    go_wp2_with fail
    go_quiet (fail)
    go_wp2_with fail
    go_roundw
    case rel=>exact ⟨k + 1,by omega,by go_num,by rw [HST.out];go_num,Lib.hid (drewB hw.out _)⟩
    case measure=>simp [intOf];omega
  · obtain rfl:k=b.l.length:=by omega
    rw [List.take_length]
    go_wp2_with fail
    go_ret
    exact ⟨rfl,below_trans (by rw [HGB.out];exact HX.out.2.2) hw.out⟩
end Go.Proofs.YtkgflepgkhnclaaGreatDoor
namespace Go.Proofs.YtkgflepgkhnclaaGreatDoor
set_option linter.unusedVariables false
set_option linter.unusedSimpArgs false
def dropK (key:ByteArray) (l:List Kv):List Kv:=if (getL key l).isSome then delL key l else l
theorem get_gt {key:ByteArray}:∀ {l:List Kv},(∀ p ∈ l,ltS key p.1)→getL key l=none
 | [],_=>rfl
 | p :: r,h=>by
   rw [getL,if_neg (fun e=>lt_irrefl key (by have:=h p (by simp);rwa [e] at this))]
   exact get_gt (fun q hq=>h q (by simp [hq]))
theorem sorted_tail {p:Kv} {r:List Kv} (h:(keysL (p :: r)).Pairwise ltS):(∀ q ∈ r,ltS p.1 q.1)∧(keysL r).Pairwise ltS:=by
 unfold keysL at h ⊢
 rw [List.map_cons,List.pairwise_cons] at h
 exact ⟨fun q hq=>h.1 q.1 (List.mem_map_of_mem (f:=(·.1)) hq),h.2⟩
theorem pos_cons {key:ByteArray} {p:Kv} {r:List Kv}:posK key (keysL (p :: r))=if ltS p.1 key then posK key (keysL r) + 1 else 0:=rfl
theorem get_ge {key:ByteArray} {p:Kv} {r:List Kv} (h:(keysL (p :: r)).Pairwise ltS) (h1:¬ ltS p.1 key) (h2:p.1 ≠ key):getL key (p :: r)=none:=by
 have h3:ltS key p.1:=(lt_total h2).elim (fun h=>absurd h h1) id
 refine get_gt fun q hq=>?_
 rcases List.mem_cons.1 hq with rfl | hq
 · exact h3
 · exact lt_trans h3 ((sorted_tail h).1 q hq)
theorem drop_cut {key:ByteArray}:∀ {l:List Kv},(keysL l).Pairwise ltS→l.take (posK key (keysL l)) ++ l.drop (posK key (keysL l) + (if (getL key l).isSome then 1 else 0))=dropK key l
 | [],_=>by simp [dropK,getL]
 | p :: r,h=>by
   have ih:=drop_cut (key:=key) (sorted_tail h).2
   rw [pos_cons]
   by_cases h1:ltS p.1 key
   · have hg:getL key (p :: r)=getL key r:=by rw [getL,if_neg (lt_ne h1)]
     rw [if_pos h1,hg,List.take_succ_cons,show posK key (keysL r) + 1 + (if (getL key r).isSome then 1 else 0)=(posK key (keysL r) + (if (getL key r).isSome then 1 else 0)) + 1 by omega,List.drop_succ_cons,List.cons_append,ih]
     unfold dropK
     rw [hg]
     split
     · rw [delL,if_neg (lt_ne h1)]
     · rfl
   · rw [if_neg h1]
     by_cases h2:p.1=key
     · have hg:getL key (p :: r)=some p.2:=by rw [getL,if_pos h2]
       unfold dropK
       rw [hg,delL,if_pos h2]
       simp
     · have hg:=get_ge h h1 h2
       unfold dropK
       rw [hg]
       simp
theorem put_cut {key v:ByteArray}:∀ {l:List Kv},(keysL l).Pairwise ltS→(dropK key l).take (posK key (keysL (dropK key l))) ++ (key,v) :: (dropK key l).drop (posK key (keysL (dropK key l)))=putL key v l
 | [],_=>by simp [dropK,getL,putL,posK]
 | p :: r,h=>by
   have ih:=put_cut (key:=key) (v:=v) (sorted_tail h).2
   by_cases h1:ltS p.1 key
   · have hg:getL key (p :: r)=getL key r:=by rw [getL,if_neg (lt_ne h1)]
     have hd:dropK key (p :: r)=p :: dropK key r:=by
        unfold dropK
        rw [hg]
        split
        · rw [delL,if_neg (lt_ne h1)]
        · rfl
     rw [hd,pos_cons,if_pos h1,putL,if_pos h1,List.take_succ_cons,List.drop_succ_cons,List.cons_append,ih]
   · by_cases h2:p.1=key
     · have hd:dropK key (p :: r)=r:=by
        unfold dropK
        rw [getL,if_pos h2,delL,if_pos h2]
        rfl
       have hz:posK key (keysL r)=0:=by
        cases r with
        | nil=>rfl
        | cons q s =>
          rw [pos_cons,if_neg]
          exact fun hq=>lt_asymm hq (h2 ▸ (sorted_tail h).1 q (by simp))
       rw [hd,hz,putL,if_neg h1,if_pos h2]
       rfl
     · have hd:dropK key (p :: r)=p :: r:=by
        unfold dropK
        rw [get_ge h h1 h2]
        rfl
       rw [hd,pos_cons,if_neg h1,putL,if_neg h1,if_neg h2]
       rfl
theorem dropK_sub {key:ByteArray} {l:List Kv} (h:(keysL l).Pairwise ltS):List.Sublist (dropK key l) l:=by
 unfold dropK
 split
 · have:∀ l:List Kv,List.Sublist (delL key l) l:=by
    intro l
    induction l with
    | nil=>exact List.Sublist.slnil
    | cons p r ih =>
      rw [delL]
      split
      · exact List.sublist_cons_self _ _
      · exact ih.cons_cons _
   exact this l
 · exact List.Sublist.refl _
theorem LOk.drop {key:ByteArray} {l:List Kv} (h:LOk l):LOk (dropK key l):=by
 have hs:=dropK_sub (key:=key) h.keys
 exact ⟨List.Pairwise.sublist (hs.map _) h.keys,fun p hp=>h.short p (hs.subset hp),Nat.le_trans hs.length_le h.len⟩
end Go.Proofs.YtkgflepgkhnclaaGreatDoor
namespace Go.Proofs.YtkgflepgkhnclaaGreatDoor
set_option linter.unusedVariables false
set_option linter.unusedSimpArgs false
open Go.RowKit Go.Shelf
variable {Xa Xb Xc Xd Xe Xf Xg Xh Xi Xj Xk Xl Xm Xn Xo Xp Xq Xr Xs Xt Xu Xv Xw Xx Xy Xz Ya Yb Yc Yd Ye Yf Yg Yh Yi Yj Yk Yl Ym Yn Yo Yp Yq Yr Ys Yt Yu Yv Yw Yx Yy Yz Za Zb Zc Zd Ze Zf Zg Zh Zi Zj Zk Zl Zm Zn Zo Zp Zq Zr Zs Zt Zu Zv Zw Zx Zy Zz Ja Jb Jc Jd Je Jf Jg Jh Ji Jj Jk Jl Jm Jn Jo Jp Jq Jr Js Jt Ju Jv Jw Jy Jz Va Vb Vc Vd Ve Vf Vg Vh Vi Vj Vk Vl Vm Vn Vo Vp Vq Vr Vs Vt Vu Vv Vw Vx Vy Vz Oa Ob Oc Od Oe Og Oh Oi Oj Ok Ol Om On Oo Oq Ot Ou Ov Ox Oy Oz Ha Hb Hc He Hf Hg Hh Hi Hj Hk Hl Hm Hn Ho Hp Hq Hr Hs Ht Hu Hv Hw Hx Hy Hz Ia Ib Ic Id Ie If Ig Ih Ii Ij Ik Il Im In Io Ip Iq Ir It Iu Iv Iw Ix Iy Iz Ua Ub Uc Ud Ue Uf Ug Uh Ui Uj Uk Ul:Value}
theorem reads_cut {w:World} {B lo hi c:Nat} {A:Option Addr} {l:List Kv} (h:Reads w B 2 A l.length (l.flatMap pairR)) (h1:lo ≤ hi) (h2:hi ≤ l.length) (hc:l.length ≤ c) :
 Reads w B 2 (if c=lo then A else A.map (·.add (lo * 2))) (hi - lo) (((l.drop lo).take (hi - lo)).flatMap pairR):=by
 refine ⟨by rw [pairR_len];simp;omega,fun h0=>?_⟩
 obtain ⟨ad,rfl,hb,hr⟩:=h.2 (by omega)
 refine ⟨ad.add (lo * 2),by rw [if_neg (by omega)];rfl,by rw [block_of_add];exact hb,fun j u hu=>?_⟩
 rw [add_of_add]
 refine hr _ u ?_
 have e1:=flat_drop (f:=pairR) (m:=2) pairR_one l lo (by omega)
 rw [← List.getElem?_drop,show (l.flatMap pairR).drop (lo * 2)=(l.drop lo).flatMap pairR from ?_]
 · have hj:j < (((l.drop lo).take (hi - lo)).flatMap pairR).length:=(List.getElem?_eq_some_iff.1 hu).1
   have e2:(l.drop lo).flatMap pairR=((l.drop lo).take (hi - lo)).flatMap pairR ++ ((l.drop lo).drop (hi - lo)).flatMap pairR:=by rw [← List.flatMap_append,List.take_append_drop]
   rw [e2,List.getElem?_append_left hj]
   exact hu
 · have:∀ (l:List Kv) (k:Nat),(l.flatMap pairR).drop (k * 2)=(l.drop k).flatMap pairR:=by
    intro l
    induction l with
    | nil=>intro k;simp
    | cons x r ih =>
      intro k
      cases k with
      | zero=>simp
      | succ k =>
        rw [show (k + 1) * 2=k * 2 + 2 by omega]
        show (Value.string x.1 :: Value.string x.2 :: r.flatMap pairR).drop (k * 2 + 2)=_
        rw [List.drop_succ_cons,List.drop_succ_cons]
        exact ih k
   exact this l lo
theorem reads_take {w:World} {B k:Nat} {A:Option Addr} {l:List Kv} (h:Reads w B 2 A l.length (l.flatMap pairR)) (hk:k ≤ l.length):Reads w B 2 A k ((l.take k).flatMap pairR):=by
 refine ⟨by rw [pairR_len];simp;omega,fun h0=>?_⟩
 obtain ⟨ad,rfl,hb,hr⟩:=h.2 (by omega)
 refine ⟨ad,rfl,hb,fun j u hu=>hr j u ?_⟩
 have e2:l.flatMap pairR=(l.take k).flatMap pairR ++ (l.drop k).flatMap pairR:=by rw [← List.flatMap_append,List.take_append_drop]
 rw [e2,List.getElem?_append_left (List.getElem?_eq_some_iff.1 hu).1]
 exact hu
theorem pairs_one (l:List Kv):∀ u ∈ l.flatMap pairR,u.oneCell'=true:=by
 intro u hu
 obtain ⟨x,_,hx⟩:=List.mem_flatMap.1 hu
 simp only [pairR,List.mem_cons,List.mem_nil_iff,or_false] at hx
 rcases hx with rfl | rfl <;> rfl
theorem own_empty (w:World) {B:Nat} (hB:B ≤ w.heap.size):(w.alloc (.cells #[] 57)).ownsRow B 57 2 (.slice (some ⟨w.heap.size,0,none⟩) 0 0) 0 [] :=
 (Blk.new w 57 #[]).own hB (Nat.le_refl _) (Nat.zero_le _) rfl rfl
theorem own_ty {W:World} {A:Option Addr} {B n c:Nat} {xs:List Value} (hown:W.ownsRow B 57 2 (.slice A n c) n xs):∀ ad,0 < n→A=some ad→∃ cs,Blk W ad.block 57 cs:=fun ad h0 hA=>by
 rcases hown.2 with ⟨_,hn⟩ | ⟨g,cap,cur,he,_,hg,_⟩
 · omega
 · injection he with e1 e2 e3
   rw [hA] at e1
   injection e1 with e1
   subst e1
   exact ⟨cur,hg⟩
def RBkEnd (l:List Kv) (b:RBk) (w:World) (e:Ending) (w':World):Prop :=
 ∃ A c,e=.returned (RBk.v ⟨A,c,l,b.qk,b.qb⟩)∧RBk.at_ ⟨A,c,l,b.qk,b.qb⟩ w'∧Below w.heap.size w w'
theorem infoBk:(Tryz.prog.info? 62).map (·.size)=some 3:=by kernel_rfl
set_option maxHeartbeats 3200000 in
set_option maxRecDepth 100000 in
theorem wo_tail {b:RBk} {w w4:World} {gb n m:Nat} {v3:Value} (hb:b.at_ w4) (q1:Blk w4 gb 62 #[.slice b.A b.l.length b.c,.int .u64 b.qk,.int .u64 b.qb]) (q2:Blk w4 (gb + 1) 62 #[.slice none 0 0,.int .u64 0,.int .u64 0]) (hbel:Below w.heap.size w w4) (hg:w.heap.size ≤ gb)
 (hown:w4.ownsRow w.heap.size 57 2 v3 n ((b.l.take n).flatMap pairR)) (hn:n ≤ b.l.length) (hm:m ≤ b.l.length) (hlen:b.l.length ≤ 1000) :
 Code.wp Tryz.prog (part Tryz.f148 [1,1,1,1]) (bodyPost Tryz.prog Tryz.f148 (RBkEnd (b.l.take n ++ b.l.drop m) b w)) ⟨#[Xa,Xb,.pointer (some ⟨gb,0,none⟩),Xd,.pointer (some ⟨gb + 1,0,none⟩),.int .i64 (m:Nat),v3,Xh,Xi,Xj,Xk,Xl,Xm,Xn,Xo,Xp,Xq,Xr,Xs,Xt,Xu,Xv,Xw,Xx,Xy,Xz,Ya,Yb,Yc],[]⟩ w4:=by
 conv=>arg 2;whnf
 obtain ⟨i3,hi3,iz0,iz1,iz2⟩:=info_parts infoPair
 have c0:=q1.cell 0
 have c1:=q1.cell 1
 have c2:=q1.cell 2
 rw [show (#[.slice b.A b.l.length b.c,.int .u64 b.qk,.int .u64 b.qb]:Array Value)[0]?=some (.slice b.A b.l.length b.c) from rfl] at c0
 rw [show (#[.slice b.A b.l.length b.c,.int .u64 b.qk,.int .u64 b.qb]:Array Value)[1]?=some (.int .u64 b.qk) from rfl] at c1
 rw [show (#[.slice b.A b.l.length b.c,.int .u64 b.qk,.int .u64 b.qb]:Array Value)[2]?=some (.int .u64 b.qb) from rfl] at c2
 have hlc:=hb.lc
 have hcm:=hb.cm
 have i0:(0:Int) ≤ (m:Int):=by omega
 have i1:(m:Int) ≤ (b.l.length:Int):=by omega
 have hrc:=reads_cut hb.rd hm (Nat.le_refl _) hlc
 rw [List.take_of_length_le (by simp)] at hrc
 have HX:=Lib.hid (And.intro hb (And.intro q1 (And.intro q2 (And.intro hbel (And.intro hg (And.intro hown hrc))))))
 clear hb q1 q2 hbel hg hown hrc
 refine wp_seq_k fun K0 hK=>?_
 have HK0:=Lib.hid hK
 clear hK
 go_wp2_with (first
  | (at_builtin
     refine wpList_append_any _ rfl (.tmp 21) (.tmp 25) _ rfl w.heap.size 57 i3 _ 2 32 Tryz.underlying42 hi3 iz0 iz1 iz2 rfl (by omega) v3 n ((b.l.take n).flatMap pairR) rfl
      HX.out.2.2.2.2.2.1 _ _ (b.l.length - m) _ ((b.l.drop m).flatMap pairR) rfl HX.out.2.2.2.2.2.2 (pairs_one _) (by unfold maxLen;omega) (by omega) HX.out.2.2.2.1.size ?_
     intro v5 w5 hown5 hg5 hat5
     obtain ⟨A5,k5,rfl,hn5,hk5,hm5⟩:=own_form hown5
     have q5:=HX.out.2.1.grown hg5 (fun e=>own_blk_ne HX.out.2.2.2.2.2.1 HX.out.2.1 (by decide) e.symm)
     have c5:w5.cell? ⟨gb,0,none⟩=some (.slice b.A b.l.length b.c):=q5.cell 0
     have f5:=q5.frozen 0))
 all_goals
  have hb5:Below w.heap.size w (w5.setCell ⟨gb,0,none⟩ (.slice A5 (n + (b.l.length - m)) k5)):=(below_app HX.out.2.2.2.1 HX.out.2.2.2.2.2.1 hg5 (Nat.le_refl _) HX.out.2.2.2.1.size).setCell (p:=⟨gb,0,none⟩) HX.out.2.2.2.2.1 _
  have q6:=q5.set_ 0 (.slice A5 (n + (b.l.length - m)) k5)
  rw [show (#[.slice b.A b.l.length b.c,.int .u64 b.qk,.int .u64 b.qb]:Array Value).setIfInBounds 0 (.slice A5 (n + (b.l.length - m)) k5)=#[.slice A5 (n + (b.l.length - m)) k5,.int .u64 b.qk,.int .u64 b.qb] from rfl] at q6
  have q7:Blk (w5.setCell ⟨gb,0,none⟩ (.slice A5 (n + (b.l.length - m)) k5)) (gb + 1) 62 #[.slice none 0 0,.int .u64 0,.int .u64 0]:=(Below.heap_setCell _ _ _ (gb + 1) (by simp)).trans (HX.out.2.2.1.grown hg5 (fun e=>own_blk_ne HX.out.2.2.2.2.2.1 HX.out.2.2.1 (by decide) e.symm))
  have hown6:(w5.setCell ⟨gb,0,none⟩ (.slice A5 (n + (b.l.length - m)) k5)).ownsRow w.heap.size 57 2 (.slice A5 (n + (b.l.length - m)) k5) (n + (b.l.length - m)) ((b.l.take n ++ b.l.drop m).flatMap pairR):=by
   rw [List.flatMap_append]
   exact own_same hown5 (fun g e=>Below.heap_setCell _ _ _ g (fun e2=>own_blk_ne hown5 q5 (by decide) (by rw [e,show g=gb from e2])))
  refine HK0.out _ _ ?_
  clear HK0 hown5 hg5 hat5 q5
  try simp only [Act.put]
  generalize w5.setCell ⟨gb,0,none⟩ (.slice A5 (n + (b.l.length - m)) k5)=w6 at hb5 q6 q7 hown6 ⊢
  have c0:=q6.cell 0
  have c1:=q6.cell 1
  have c2:=q6.cell 2
  rw [show (#[.slice A5 (n + (b.l.length - m)) k5,.int .u64 b.qk,.int .u64 b.qb]:Array Value)[0]?=some (.slice A5 (n + (b.l.length - m)) k5) from rfl] at c0
  rw [show (#[.slice A5 (n + (b.l.length - m)) k5,.int .u64 b.qk,.int .u64 b.qb]:Array Value)[1]?=some (.int .u64 b.qk) from rfl] at c1
  rw [show (#[.slice A5 (n + (b.l.length - m)) k5,.int .u64 b.qk,.int .u64 b.qb]:Array Value)[2]?=some (.int .u64 b.qb) from rfl] at c2
  have d0:=q7.cell 0
  have d1:=q7.cell 1
  have d2:=q7.cell 2
  have e0:=q7.frozen 0
  have e1:=q7.frozen 1
  have e2:=q7.frozen 2
  simp at d0 d1 d2
  have HH:=Lib.hid (And.intro hb5 (And.intro hown6 q7))
  clear hb5 hown6 q6 q7
  go_wp2_with fail
  have q8:=((HH.out.2.2.set_ 0 (.slice A5 (n + (b.l.length - m)) k5)).set_ 1 (.int .u64 b.qk)).set_ 2 (.int .u64 b.qb)
  have hl:n + (b.l.length - m)=(b.l.take n ++ b.l.drop m).length:=by simp;omega
  have hb8:=((HH.out.1.setCell (p:=⟨gb + 1,0,none⟩) (Nat.le_succ_of_le HX.out.2.2.2.2.1) (.slice A5 (n + (b.l.length - m)) k5)).setCell (p:=⟨gb + 1,1,none⟩) (Nat.le_succ_of_le HX.out.2.2.2.2.1) (.int .u64 b.qk)).setCell (p:=⟨gb + 1,2,none⟩) (Nat.le_succ_of_le HX.out.2.2.2.2.1) (.int .u64 b.qb)
  have hs8:∀ g,g ≠ gb + 1→(((w6.setCell ⟨gb + 1,0,none⟩ (.slice A5 (n + (b.l.length - m)) k5)).setCell ⟨gb + 1,1,none⟩ (.int .u64 b.qk)).setCell ⟨gb + 1,2,none⟩ (.int .u64 b.qb)).heap[g]?=w6.heap[g]?:=fun g hg=>(Below.heap_setCell _ _ _ g hg).trans ((Below.heap_setCell _ _ _ g hg).trans (Below.heap_setCell _ _ _ g hg))
  have hown8:=own_same HH.out.2.1 (fun g e=>hs8 g (fun e2=>own_blk_ne HH.out.2.1 HH.out.2.2 (by decide) (e2 ▸ e)))
  clear hs8
  generalize (((w6.setCell ⟨gb + 1,0,none⟩ (.slice A5 (n + (b.l.length - m)) k5)).setCell ⟨gb + 1,1,none⟩ (.int .u64 b.qk)).setCell ⟨gb + 1,2,none⟩ (.int .u64 b.qb))=w8 at q8 hb8 hown8 ⊢
  rw [hl] at q8
  have hat8:RBk.at_ ⟨A5,k5,b.l.take n ++ b.l.drop m,b.qk,b.qb⟩ w8:=by
   refine ⟨?_,?_,?_,fun h=>(hn5 h).2,fun ad h0 hA=>own_ty hown8 ad (by rw [hl];exact h0) hA⟩
   · show Reads _ _ 2 A5 (b.l.take n ++ b.l.drop m).length _
     rw [← hl];exact Reads.of_own hown8
   · show (b.l.take n ++ b.l.drop m).length ≤ k5
     rw [← hl];exact hk5
   · have:=hm5;unfold maxLen at this;show k5 ≤ _;omega
  refine bodyPost_ret (v:=RBk.v ⟨A5,k5,b.l.take n ++ b.l.drop m,b.qk,b.qb⟩) ?_ rfl ?_
  · exact results_cell Tryz.results148 rfl q8 Tryz.underlying62 rfl infoBk
  · exact ⟨A5,k5,rfl,hat8,hb8⟩
set_option maxHeartbeats 3200000 in
set_option maxRecDepth 100000 in
theorem without_any (b:RBk) (key:ByteArray) (w:World) (hb:b.at_ w) (hl:LOk b.l) (hk:key.size ≤ 9223372036854775807) :
 Calls Tryz.prog 148 #[b.v,.string key] w (RBkEnd (dropK key b.l) b w):=by
 have hlen:=hl.len
 have hle:posK key (keysL b.l) ≤ b.l.length:=by have:=pos_le (x:=key) (ks:=keysL b.l);simpa using this
 have hdc:=drop_cut (key:=key) hl.keys
 have hb0:=below_alloc (below_box w (.cells b.cs 62)) (.cells #[.slice none 0 0,.int .u64 0,.int .u64 0] 62)
 have HHAS:=Lib.hid (fun W (h:b.at_ W)=>has_any b key W h hl hk)
 have HATT:=Lib.hid (fun W (h:b.at_ W)=>at_any b key W h hl hk)
 have HDC:=Lib.hid hdc
 have HNO0:=Lib.hid (has_no (key:=key) hl)
 have q1:Blk ((w.alloc (.cells b.cs 62)).alloc (.cells #[.slice none 0 0,.int .u64 0,.int .u64 0] 62)) w.heap.size 62 b.cs:=(Blk.new w _ _).alloc _
 have q2:Blk ((w.alloc (.cells b.cs 62)).alloc (.cells #[.slice none 0 0,.int .u64 0,.int .u64 0] 62)) (w.heap.size + 1) 62 #[.slice none 0 0,.int .u64 0,.int .u64 0]:=blk_at (by simp)
 have HX:=Lib.hid (And.intro (hb.below hb0) (And.intro q1 (And.intro q2 hb0)))
 have hlc:=hb.lc
 have hcm:=hb.cm
 clear hb hl hb0 hdc q1 q2
 obtain ⟨i3,hi3,iz0,iz1,iz2⟩:=info_parts infoPair
 unfold RBk.cs at HX
 go_enter Tryz.func148,Tryz.ntmps148
 refine wp_seq_k fun K0 hK=>?_
 have HK0:=Lib.hid hK
 clear hK
 go_wp2_with fail
 refine HK0.out _ _ ?_
 clear HK0
 try simp only [Act.put]
 obtain ⟨gb,hgb⟩:∃ n,w.heap.size=n:=⟨_,rfl⟩
 rw [hgb] at HX
 generalize hwa:(w.alloc (.cells #[.slice b.A b.l.length b.c,.int .u64 b.qk,.int .u64 b.qb] 62)).alloc (.cells #[.slice none 0 0,.int .u64 0,.int .u64 0] 62)=w1 at HX ⊢
 have HGB:=Lib.hid hgb
 rw [hgb]
 clear hwa hgb
 have c0:=HX.out.2.1.cell 0
 have c1:=HX.out.2.1.cell 1
 have c2:=HX.out.2.1.cell 2
 rw [show (#[.slice b.A b.l.length b.c,.int .u64 b.qk,.int .u64 b.qb]:Array Value)[0]?=some (.slice b.A b.l.length b.c) from rfl] at c0
 rw [show (#[.slice b.A b.l.length b.c,.int .u64 b.qk,.int .u64 b.qb]:Array Value)[1]?=some (.int .u64 b.qk) from rfl] at c1
 rw [show (#[.slice b.A b.l.length b.c,.int .u64 b.qk,.int .u64 b.qb]:Array Value)[2]?=some (.int .u64 b.qb) from rfl] at c2
 refine wp_seq_k fun K0 hK=>?_
 have HK0:=Lib.hid hK
 clear hK
 go_wp2_with fail
 refine (HATT.out _ HX.out.1).mono ?_
 rintro e w2 ⟨rfl,hb2⟩
 have HQ2:=Lib.hid (And.intro (HX.out.1.below hb2) (And.intro (HX.out.2.1.below hb2 HX.out.2.1.lt) (And.intro (HX.out.2.2.1.below hb2 HX.out.2.2.1.lt) (show Below w.heap.size w w2 from below_trans (by rw [HGB.out];exact HX.out.2.2.2) hb2))))
 clear hb2 HX c0 c1 c2 HATT
 generalize hpn:posK key (keysL b.l)=n at hle HDC ⊢
 have HNO:Hid (n=b.l.length→(getL key b.l).isSome=false):=Lib.hid (fun h=>HNO0.out (hpn.trans h))
 clear hpn HNO0
 go_wp2_with fail
 refine HK0.out _ _ ?_
 clear HK0
 try simp only [Act.put]
 have c0:=HQ2.out.2.1.cell 0
 have c1:=HQ2.out.2.1.cell 1
 have c2:=HQ2.out.2.1.cell 2
 rw [show (#[.slice b.A b.l.length b.c,.int .u64 b.qk,.int .u64 b.qb]:Array Value)[0]?=some (.slice b.A b.l.length b.c) from rfl] at c0
 rw [show (#[.slice b.A b.l.length b.c,.int .u64 b.qk,.int .u64 b.qb]:Array Value)[1]?=some (.int .u64 b.qk) from rfl] at c1
 rw [show (#[.slice b.A b.l.length b.c,.int .u64 b.qk,.int .u64 b.qb]:Array Value)[2]?=some (.int .u64 b.qb) from rfl] at c2
 have i0:(0:Int) ≤ (n:Int):=by omega
 have i1:(n:Int) ≤ (b.l.length:Int):=by omega
 have i2:(n:Int) ≤ (b.c:Int):=by omega
 have l2:gb < w2.heap.size:=HQ2.out.2.1.lt
 refine wp_seq_k fun K0 hK=>?_
 have HK0:=Lib.hid hK
 clear hK
 go_wp2_with (first
  | (at_builtin
     refine wpList_append_any _ rfl (.tmp 10) (.tmp 14) _ rfl w.heap.size 57 i3 _ 2 32 Tryz.underlying42 hi3 iz0 iz1 iz2 rfl (by omega) (.slice (some ⟨w2.heap.size,0,none⟩) 0 0) 0 [] rfl
      (own_empty w2 HQ2.out.2.2.2.size) _ b.A n b.c ((b.l.take n).flatMap pairR) rfl (reads_take (HQ2.out.1.below (below_box w2 (.cells #[] 57))).rd hle) (pairs_one _) (by unfold maxLen;omega) (by omega) (by have:=HQ2.out.2.2.2.size;simp;omega) ?_
     intro v3 w3 hown3 hg3 hat3
     have hb3:Below w2.heap.size w2 w3:=below_app (below_box w2 (.cells #[] 57)) (own_base (own_empty w2 (Nat.le_refl _)) (Nat.le_refl _)) hg3 (Nat.le_refl _) (by simp)))
 rw [Nat.zero_add,List.nil_append] at hown3
 have HQ3:=Lib.hid (And.intro (HQ2.out.1.below hb3) (And.intro (HQ2.out.2.1.below hb3 HQ2.out.2.1.lt) (And.intro (HQ2.out.2.2.1.below hb3 HQ2.out.2.2.1.lt) (And.intro (below_trans HQ2.out.2.2.2 hb3) hown3))))
 clear hb3 hown3 hg3 hat3 HQ2 c0 c1 c2 l2
 refine HK0.out _ _ ?_
 clear HK0
 try simp only [Act.put]
 have c0:=HQ3.out.2.1.cell 0
 have c1:=HQ3.out.2.1.cell 1
 have c2:=HQ3.out.2.1.cell 2
 rw [show (#[.slice b.A b.l.length b.c,.int .u64 b.qk,.int .u64 b.qb]:Array Value)[0]?=some (.slice b.A b.l.length b.c) from rfl] at c0
 rw [show (#[.slice b.A b.l.length b.c,.int .u64 b.qk,.int .u64 b.qb]:Array Value)[1]?=some (.int .u64 b.qk) from rfl] at c1
 rw [show (#[.slice b.A b.l.length b.c,.int .u64 b.qk,.int .u64 b.qb]:Array Value)[2]?=some (.int .u64 b.qb) from rfl] at c2
 refine wp_seq_k fun K0 hK=>?_
 have HK0:=Lib.hid hK
 clear hK
 refine wp_seq_k fun K1 hK=>?_
 have HK1:=Lib.hid hK
 clear hK
 go_wp2_with fail
 refine (HHAS.out _ HQ3.out.1).mono ?_
 rintro e w4 ⟨rfl,hb4⟩
 go_wp2_with fail
 refine HK1.out _ _ ?_
 clear HK1
 cases hg:(getL key b.l).isSome with
 | false =>
   have hd:=HDC.out
   rw [hg,if_neg (by decide),Nat.add_zero] at hd
   have HD:=Lib.hid hd
   have HQ4:=Lib.hid (And.intro (HQ3.out.1.below hb4) (And.intro (HQ3.out.2.1.below hb4 HQ3.out.2.1.lt) (And.intro (HQ3.out.2.2.1.below hb4 HQ3.out.2.2.1.lt) (And.intro (below_trans HQ3.out.2.2.2.1 hb4) (own_same HQ3.out.2.2.2.2 fun g e=>hb4.block g (own_at HQ3.out.2.2.2.2 e).2.1)))))
   clear hd hg hb4 HQ3 c0 c1 c2 HDC
   go_wp2_with fail
   refine HK0.out _ _ ?_
   clear HK0
   try simp only [Act.put]
   rw [← HD.out]
   exact wo_tail HQ4.out.1 HQ4.out.2.1 HQ4.out.2.2.1 HQ4.out.2.2.2.1 (by rw [HGB.out];exact Nat.le_refl _) HQ4.out.2.2.2.2 hle hle hlen
 | true =>
   have hd:=HDC.out
   rw [hg,if_pos rfl] at hd
   have hlt:n < b.l.length:=by
    rcases Nat.lt_or_ge n b.l.length with h | h
    · exact h
    · have:=HNO.out (by omega)
      rw [hg] at this
      cases this
   have HD:=Lib.hid hd
   have HQ4:=Lib.hid (And.intro (HQ3.out.1.below hb4) (And.intro (HQ3.out.2.1.below hb4 HQ3.out.2.1.lt) (And.intro (HQ3.out.2.2.1.below hb4 HQ3.out.2.2.1.lt) (And.intro (below_trans HQ3.out.2.2.2.1 hb4) (own_same HQ3.out.2.2.2.2 fun g e=>hb4.block g (own_at HQ3.out.2.2.2.2 e).2.1)))))
   have hwr:IntKind.i64.wrap ((n:Int) + 1)=((n + 1:Nat):Int):=by rw [IntWalk.i64_in _ (by omega)];omega
   clear hd hg hb4 HQ3 c0 c1 c2 HDC
   go_wp2_with fail
   refine HK0.out _ _ ?_
   clear HK0
   try simp only [Act.put]
   rw [← HD.out]
   exact wo_tail HQ4.out.1 HQ4.out.2.1 HQ4.out.2.2.1 HQ4.out.2.2.2.1 (by rw [HGB.out];exact Nat.le_refl _) HQ4.out.2.2.2.2 hle hlt hlen
end Go.Proofs.YtkgflepgkhnclaaGreatDoor
namespace Go.Proofs.YtkgflepgkhnclaaGreatDoor
set_option linter.unusedVariables false
set_option linter.unusedSimpArgs false
open Go.RowKit Go.Shelf
attribute [local go_sem] run_store_complex
theorem run_floatArith {P:Program} (op:BinOp) (h:op=.add ∨ op=.quo) (k:FloatKind) (a b:Nat) (w:World):∃ r n,(Op.floatArith op k a b).run P w=.ok (.float k r) (w.drewN n):=by
 rcases h with rfl | rfl
 · cases hq:k.format.add a b with
   | some r=>exact ⟨r,0,by simp [Op.floatArith,hq,Result.andThen];rfl⟩
   | none =>
     by_cases hf:(Question.nanBits k a b).forced=true
     · exact ⟨0,0,by simp [Op.floatArith,hq,hf,Result.andThen];rfl⟩
     · exact ⟨(Question.nanBits k a b).cut (w.tape w.drawn (.nanBits k a b)),1,by simp [Op.floatArith,hq,hf,Result.andThen];rfl⟩
 · cases hq:k.format.div a b with
   | some r=>exact ⟨r,0,by simp [Op.floatArith,hq,Result.andThen];rfl⟩
   | none =>
     by_cases hf:(Question.nanBits k a b).forced=true
     · exact ⟨0,0,by simp [Op.floatArith,hq,hf,Result.andThen];rfl⟩
     · exact ⟨(Question.nanBits k a b).cut (w.tape w.drawn (.nanBits k a b)),1,by simp [Op.floatArith,hq,hf,Result.andThen];rfl⟩
theorem run_complexAdd {P:Program} (t:TypeId) (a b c d:Nat) (w:World):∃ x y n,(binOp .add t (.complex .f64 a b) (.complex .f64 c d)).run P w=.ok (.complex .f64 x y) (w.drewN n):=by
 obtain ⟨x,n,h1⟩:=run_floatArith (P:=P) .add (.inl rfl) .f64 a c w
 obtain ⟨y,m,h2⟩:=run_floatArith (P:=P) .add (.inl rfl) .f64 b d (w.drewN n)
 refine ⟨x,y,n + m,?_⟩
 simp [binOp,Op.complexOp,Op.Complex.arith,Result.andThen,h1,h2]
theorem run_floatQuo {P:Program} (t:TypeId) (a b:Nat) (w:World):∃ x n,(binOp .quo t (.float .f64 a) (.float .f64 b)).run P w=.ok (.float .f64 x) (w.drewN n):=by
 obtain ⟨x,n,h1⟩:=run_floatArith (P:=P) .quo (.inr rfl) .f64 a b w
 exact ⟨x,n,by simp [binOp,h1]⟩
section
variable {P:Program} {w:World}
theorem wpList_run {ops:Array Oper} {rest:List Oper} {o:Oper} {a:Act} {Q:Exit→Act→World→Prop} (hg:o.guard=none) (op:BinOp) (x y:Operand) (t u:TypeId) (hop:o.op=Op.binOp op t x y u) (hf:op=.quo ∨ op=.add) (va vb:Value) (hx:a.eval x=va) (hy:a.eval y=vb)
 {v:Value} {w':World} (hr:(binOp op t va vb).run P w=.ok v w') (hK:wpList P ops Q rest (a.put o.dst v) w'):wpList P ops Q (o :: rest) a w:=by
 refine wpList_plain hg fun K' hK'=>?_
 unfold Oper.wp
 rcases hf with rfl | rfl <;>
 · simp [execOp,hop,hx,hy,eqGuard,Result.andThen]
   rw [hr]
   exact hK' _ _ hK
end
def SomeB (w:World) (e:Ending) (w':World):Prop:=∃ b,e=.returned (.bool b)∧Below w.heap.size w w'
def SomeC (w:World) (e:Ending) (w':World):Prop:=∃ a b,e=.returned (.complex .f64 a b)∧Below w.heap.size w w'
theorem is1_l (x:Nat) (w:World):Calls Tryz.prog 221 #[.float .f64 x] w (fun e w'=>(∃ b,e=.returned (.bool b))∧w'=w):=by
 go_enter Tryz.func221,Tryz.ntmps221
 go_wp2
 all_goals go_ret
 all_goals exact ⟨⟨_,rfl⟩,rfl⟩
theorem parts_l (a b:Nat) (w:World):Calls Tryz.prog 222 #[.complex .f64 a b] w (fun e w'=>e=.returned (.tuple #[.float .f64 a,.float .f64 b])∧w'=w):=by
 go_enter Tryz.func222,Tryz.ntmps222
 go_wp2
 go_ret2
 exact ⟨rfl,rfl⟩
theorem half_l (a b:Nat) (w:World):Calls Tryz.prog 223 #[.complex .f64 a b] w (fun e w'=>(∃ a b,e=.returned (.complex .f64 a b))∧∃ n,w'=w.drewN n):=by
 go_enter Tryz.func223,Tryz.ntmps223
 go_wp2_with (first
  | (go_at_call 222;refine (parts_l _ _ _).mono ?_;rintro e w' ⟨rfl,rfl⟩)
  | (obtain ⟨x,n,hr⟩:=run_floatQuo (P:=Tryz.prog) 158 a 4611686018427387904 w'
     refine wpList_run rfl .quo (.tmp 10) (.const (.float .f64 4611686018427387904)) 158 158 rfl (.inl rfl) _ _ rfl rfl hr ?_)
  | (obtain ⟨y,m,hs⟩:=run_floatQuo (P:=Tryz.prog) 158 b 4611686018427387904 (w'.drewN n)
     refine wpList_run rfl .quo (.tmp 12) (.const (.float .f64 4611686018427387904)) 158 158 rfl (.inl rfl) _ _ rfl rfl hs ?_))
 go_ret
 exact ⟨⟨_,_,rfl⟩,n + m,rfl⟩
theorem is_l (a b:Nat) (w:World):Calls Tryz.prog 189 #[.complex .f64 a b] w (fun e w'=>(∃ b,e=.returned (.bool b))∧w'=w):=by
 go_enter Tryz.func189,Tryz.ntmps189
 go_wp2_with (first
  | (go_at_call 222;refine (parts_l _ _ _).mono ?_;rintro e w' ⟨rfl,rfl⟩)
  | (go_at_call 221;refine (is1_l _ _).mono ?_;rintro e w' ⟨⟨q,rfl⟩,rfl⟩;cases q))
 all_goals go_ret
 all_goals exact ⟨⟨_,rfl⟩,rfl⟩
theorem Is_l (a b:Nat) (w:World):Calls Tryz.prog 188 #[.complex .f64 a b] w (fun e w'=>(∃ b,e=.returned (.bool b))∧w'=w):=by
 go_enter Tryz.func188,Tryz.ntmps188
 go_wp2_with (go_at_call 189;refine (is_l _ _ _).mono ?_;rintro e w' ⟨⟨q,rfl⟩,rfl⟩)
 go_ret
 exact ⟨⟨_,rfl⟩,rfl⟩
def addsMap:List (Int × Value):=[(1,.complex .f64 4607182418800017408 0),(5,.complex .f64 4607182418800017408 0),(6,.complex .f64 4607182418800017408 0),(2,.complex .f64 0 4607182418800017408),(3,.complex .f64 0 4607182418800017408),(4,.complex .f64 0 4607182418800017408)]
theorem look_adds (d:Int):∃ a b,look (.complex .f64 0 0) d addsMap=.complex .f64 a b:=by
 unfold addsMap
 simp only [look]
 repeat (split;exact ⟨_,_,rfl⟩)
 exact ⟨_,_,rfl⟩
set_option maxHeartbeats 1600000 in
set_option maxRecDepth 100000 in
theorem adds_l (d:Int) (w:World):Calls Tryz.prog 224 #[.int .i64 d] w (SomeC w):=by
 have hmm:=@run_makeMap Tryz.prog
 have m0:=IntMap.made .i64 w
 have b0:Below w.heap.size w (w.alloc (.map #[] 0)):=(Below.refl _ _).alloc (Nat.le_refl _) _
 obtain ⟨x,y,hl⟩:=look_adds d
 have HL:=Lib.hid hl
 clear hl
 go_enter Tryz.func224,Tryz.ntmps224
 go_wp2_with (first
  | (refine wpList_insert_lit w w.heap.size rfl _ _ _ _ rfl 33 48 .i64 .i64 Tryz.underlying314 Tryz.underlying33 rfl _ _ rfl (by assumption) (by assumption) (Nat.le_refl _) _ rfl (by rfl) _ rfl ?_;intro wa ma ba)
  | (refine wpList_lookup_run rfl _ _ 314 false rfl _ _ _ rfl rfl (run_lookup_intmap ma Tryz.underlying314 Tryz.underlying33 rfl (Tryz.zeroValue48 _) false) ?_))
 go_ret
 refine ⟨x,y,?_,ba⟩
 rw [show look (Value.complex .f64 0 0) d [(1,.complex .f64 4607182418800017408 0),(5,.complex .f64 4607182418800017408 0),(6,.complex .f64 4607182418800017408 0),(2,.complex .f64 0 4607182418800017408),(3,.complex .f64 0 4607182418800017408),(4,.complex .f64 0 4607182418800017408)]=.complex .f64 x y from HL.out]
 rfl
theorem with_l (a b:Nat) (d:Int) (w:World):Calls Tryz.prog 190 #[.agg #[.complex .f64 a b],.int .i64 d] w (SomeC w):=by
 have hb:=below_box w (.cells #[.complex .f64 a b] 256)
 go_enter Tryz.func190,Tryz.ntmps190
 go_wp2_with fail
 refine (half_l a b _).mono ?_
 rintro e w1 ⟨⟨x,y,rfl⟩,n,rfl⟩
 go_wp2_with fail
 refine (adds_l d _).mono ?_
 rintro e w2 ⟨x2,y2,rfl,hb2⟩
 obtain ⟨x3,y3,m,hr⟩:=run_complexAdd (P:=Tryz.prog) 48 x y x2 y2 w2
 go_wp2_with (refine wpList_run rfl .add (.tmp 7) (.tmp 9) 48 48 rfl (.inr rfl) _ _ rfl rfl hr ?_)
 go_ret
 exact ⟨x3,y3,rfl,drewB (below_trans (drewB hb n) hb2) m⟩
theorem Next_l (a b:Nat) (d:Int) (w:World):Calls Tryz.prog 152 #[.complex .f64 a b,.int .i64 d] w (fun e w'=>∃ x y q,e=.returned (.tuple #[.complex .f64 x y,.bool q])∧Below w.heap.size w w'):=by
 have hb:=below_box w (.cells #[.complex .f64 a b] 256)
 go_enter Tryz.func152,Tryz.ntmps152
 go_wp2_with fail
 refine (is_l a b _).mono ?_
 rintro e w1 ⟨⟨q,rfl⟩,rfl⟩
 cases q
 · go_wp2_with fail
   go_ret2
   exact ⟨_,_,_,rfl,hb⟩
 · go_wp2_with fail
   refine (with_l a b d _).mono ?_
   rintro e w1 ⟨x,y,rfl,hb2⟩
   go_wp2_with fail
   go_ret2
   exact ⟨_,_,_,rfl,below_trans hb hb2⟩
def lays25_ren:Go.Shelf.Ren:=⟨fun | 25=>191 | n=>n,fun | 22=>27 | n=>n,fun | n=>n⟩
theorem lays25:Go.Proofs.Lays7.n25 Tryz.prog lays25_ren:={
 mixed:=by kernel_rfl
 f25:=Tryz.func191.trans (congrArg some (by kernel_rfl))
 t22:=Tryz.underlying27
 a22:=Tryz.isAgg27
 z22:=Tryz.sizeOf27
 v22:=Tryz.zeroValue27
 i22:=by kernel_rfl }
def OkU (r:Int):Prop:=0 ≤ r∧r ≤ 18446744073709551615
theorem add64_0 (x y:Int) (hx:OkU x) (hy:OkU y) (w:World):(callFunc 191 #[.int .u64 x,.int .u64 y,.int .u64 0]).run Tryz.prog w =
 .ok (.value (.tuple #[.int .u64 ((x + y) % 18446744073709551616),.int .u64 ((x + y) / 18446744073709551616)])) w:=by
 obtain ⟨a,rfl⟩:=Int.eq_ofNat_of_zero_le hx.1
 obtain ⟨b,rfl⟩:=Int.eq_ofNat_of_zero_le hy.1
 have h:(callFunc 191 #[.int .u64 (a:Int),.int .u64 (b:Int),.int .u64 ((0:Nat):Int)]).run Tryz.prog w=_:=Any7.bits_Add64 lays25 a b 0 (by omega) w
 simpa using h
theorem more_s (x y:Int) (hx:OkU x) (hy:OkU y) (w:World):Calls Tryz.prog 154 #[.int .u64 x,.int .u64 y] w (fun e w'=>∃ r,e=.returned (.int .u64 r)∧OkU r∧w'=w):=by
 have h1:=hx.1;have h2:=hx.2;have h3:=hy.1;have h4:=hy.2
 have HX:=Lib.hid hx
 have HY:=Lib.hid hy
 have H:OkU ((x + y) % 18446744073709551616):=by unfold OkU;omega
 have HH:=Lib.hid H
 clear hx hy H
 go_enter Tryz.func154,Tryz.ntmps154
 go_wp2_with (simp only [add64_0 x y HX.out HY.out])
 · go_ret
   exact ⟨_,rfl,HH.out,rfl⟩
 · go_ret
   exact ⟨_,rfl,⟨by decide,by decide⟩,rfl⟩
theorem count_s (g k:Nat) (x n:Int) (cs:Array Value) (w:World) (hb:Blk w g 50 cs) (hk:cs[k]?=some (.int .u64 x)) (hx:OkU x) (hn:0 ≤ n∧n ≤ 9223372036854775807) :
 Calls Tryz.prog 153 #[.pointer (some ⟨g,k,none⟩),.int .i64 n] w (fun e w'=>e=.returned (.tuple #[])∧∃ r,OkU r∧w'=w.setCell ⟨g,k,none⟩ (.int .u64 r)):=by
 have c:=hb.cell k
 rw [hk] at c
 have f:=hb.frozen k
 have hw:IntKind.u64.wrap n=n:=by rw [IntKind.wrap_u64];omega
 have hn2:OkU n:=⟨hn.1,by omega⟩
 have HM:=Lib.hid (fun W=>more_s x n hx hn2 W)
 clear hx hn2 hb hk
 go_enter Tryz.func153,Tryz.ntmps153
 go_wp2_with fail
 refine (HM.out _).mono ?_
 rintro e w1 ⟨r,rfl,hr,rfl⟩
 have HR:=Lib.hid hr
 clear hr
 go_wp2_with fail
 go_end0
 exact ⟨rfl,r,HR.out,rfl⟩
def ctrMap:List (Int × Value):=[(1,.func (.func 183) #[] #[]),(2,.func (.func 184) #[] #[]),(3,.func (.func 185) #[] #[]),(4,.func (.func 186) #[] #[]),(5,.func (.func 187) #[] #[])]
set_option maxHeartbeats 1600000 in
theorem counterOf_s (w:World):Calls Tryz.prog 150 #[] w fun e w'=>∃ b,e=.returned (.map (some b))∧IntMap .i64 w' b ctrMap∧Below w.heap.size w w':=by
 have hmm:=@run_makeMap Tryz.prog
 have m0:=IntMap.made .i64 w
 have b0:Below w.heap.size w (w.alloc (.map #[] 0)):=(Below.refl _ _).alloc (Nat.le_refl _) _
 go_enter Tryz.func150,Tryz.ntmps150
 go_wp2_with (refine wpList_insert_lit w w.heap.size rfl _ _ _ _ rfl 33 225 .i64 .i64 Tryz.underlying222 Tryz.underlying33 rfl _ _ rfl (by assumption) (by assumption) (Nat.le_refl _) _ rfl (by rfl) _ rfl ?_;intro wa ma ba)
 go_ret
 exact ⟨_,rfl,ma,ba⟩
theorem ctr1_s (g:Nat) (w:World):Calls Tryz.prog 183 #[.pointer (some ⟨g,0,none⟩)] w (fun e w'=>e=.returned (.pointer (some ⟨g,2,none⟩))∧w'=w):=by
 go_enter Tryz.func183,Tryz.ntmps183
 go_wp2
 go_ret
 exact ⟨rfl,rfl⟩
theorem ctr2_s (g:Nat) (w:World):Calls Tryz.prog 184 #[.pointer (some ⟨g,0,none⟩)] w (fun e w'=>e=.returned (.pointer (some ⟨g,3,none⟩))∧w'=w):=by
 go_enter Tryz.func184,Tryz.ntmps184
 go_wp2
 go_ret
 exact ⟨rfl,rfl⟩
theorem ctr3_s (g:Nat) (w:World):Calls Tryz.prog 185 #[.pointer (some ⟨g,0,none⟩)] w (fun e w'=>e=.returned (.pointer (some ⟨g,4,none⟩))∧w'=w):=by
 go_enter Tryz.func185,Tryz.ntmps185
 go_wp2
 go_ret
 exact ⟨rfl,rfl⟩
theorem ctr4_s (g:Nat) (w:World):Calls Tryz.prog 186 #[.pointer (some ⟨g,0,none⟩)] w (fun e w'=>e=.returned (.pointer (some ⟨g,5,none⟩))∧w'=w):=by
 go_enter Tryz.func186,Tryz.ntmps186
 go_wp2
 go_ret
 exact ⟨rfl,rfl⟩
theorem ctr5_s (g:Nat) (w:World):Calls Tryz.prog 187 #[.pointer (some ⟨g,0,none⟩)] w (fun e w'=>e=.returned (.pointer (some ⟨g,6,none⟩))∧w'=w):=by
 go_enter Tryz.func187,Tryz.ntmps187
 go_wp2
 go_ret
 exact ⟨rfl,rfl⟩
end Go.Proofs.YtkgflepgkhnclaaGreatDoor
