/- Layer 27: order: text. Layer 27: OrderModels: Pick; the tenants of a model. Layer 27: OrderModels: alike. Layer 27: OrderModels: what stays as it was. Layer 27: OrderModels: objects that are no models. Layer 27: OrderModels: what the loop keeps. -/
import Derived.Test.YtkgflepgkhnclaaGreatDoorMo2
import Derived.Test.YtkgflepgkhnclaaGreatDoorMh
import Derived.Test.YtkgflepgkhnclaaGreatDoorMl
import Derived.Test.YtkgflepgkhnclaaGreatDoorMn
import Derived.Test.YtkgflepgkhnclaaGreatDoorMk4
import Derived.Test.YtkgflepgkhnclaaGreatDoorMe
import Derived.Test.YtkgflepgkhnclaaGreatDoorMd
namespace Go.Proofs.YtkgflepgkhnclaaGreatDoor
set_option linter.unusedVariables false
set_option linter.unusedSimpArgs false
open Go.RowKit Go.Shelf
attribute [local go_sem] run_store_complex
theorem tenX_none {T:Lib.PrintTabs} {M:Mdl} {k:Nat} (h:(M k).bk=none):(List.range (k + 1)).flatMap (tenX T M)=(List.range k).flatMap (tenX T M) ++ (Lib.decDigits (M k).gen.toNat ++ [59]):=by
 rw [List.range_succ,List.flatMap_append,List.flatMap_singleton]
 congr 1
 unfold tenX
 rw [h]
 simp
theorem tenX_some {T:Lib.PrintTabs} {M:Mdl} {k:Nat} {B:Bk} (h:(M k).bk=some B):(List.range (k + 1)).flatMap (tenX T M)=(List.range k).flatMap (tenX T M) ++ (Lib.decDigits (M k).gen.toNat ++ [59]) ++ (quoX M k) ++ ((pairsN M k).take (pairsN M k).length).flatMap (pairX T):=by
 rw [List.range_succ,List.flatMap_append,List.flatMap_singleton,List.take_length]
 simp only [List.append_assoc]
 congr 1
 unfold tenX
 rw [h]
 simp
theorem take_flat {α β:Type} {f:α→List β} {l:List α} {k:Nat} (hk:k < l.length):(l.take (k + 1)).flatMap f=(l.take k).flatMap f ++ f l[k]:=by
 rw [List.take_succ_eq_append_getElem hk,List.flatMap_append,List.flatMap_singleton]
set_option maxHeartbeats 12800000 in
set_option maxRecDepth 100000 in
theorem text_m {w:World} {p:Nat} {M:Mdl} {O:Ows} {T:Lib.PrintTabs} (hm:ModelAt w p M O) (hs:TxSmall M) (ht:Tabs T w):Calls Tryz.prog 81 #[.pointer (some ⟨p,0,none⟩)] w (TextEnd T M w):=by
 have HM:=Lib.hid hm
 have HS:=Lib.hid hs
 have HTB:=Lib.hid ht
 have hokk:=hm.ok
 have HOK:=Lib.hid hokk
 have HR:Hid (∀ W:World,Below w.heap.size w W→W.rangeAt p 1 (mrow M O)):=Lib.hid (fun W hb j v hj=>by
  rw [(hm.below hb).blk.cell,List.getElem?_toArray,show 1 + j=j + 1 by omega]
  unfold mcells
  rw [List.getElem?_cons_succ]
  exact hj)
 clear hm hs ht
 go_enter Tryz.func81,Tryz.ntmps81
 refine wp_seq_k fun K0 hK=>?_
 have HK0:=Lib.hid hK
 clear hK
 go_wp2_with fail
 refine HK0.out _ _ ?_
 clear HK0
 refine wp_seq_k fun K0 hK=>?_
 have HK0:=Lib.hid hK
 clear hK
 go_wp2_with fail
 refine HK0.out _ _ ?_
 clear HK0
 have H1:=Lib.hid (tx_new w)
 try simp only [Act.put]
 try dsimp only at H1 ⊢
 generalize w.alloc (.cells #[.pointer none,.slice none 0 0] 209)=w1 at H1 ⊢
 refine wp_seq_k fun K0 hK=>?_
 have HK0:=Lib.hid hK
 clear hK
 refine wp_seq_k fun K1 hK=>?_
 have HK1:=Lib.hid hK
 clear hK
 go_wp2_with (refine wpList_load_mid rfl 76 (.tmp 10) rfl p 1 rfl _ _ (HR.out _ H1.out.1) Tryz.underlying76 rfl (by rw [mrow_len HOK.out];exact infoAll) ?_)
 refine HK1.out _ _ ?_
 clear HK1
 go_wp2_with fail
 go_loopw [12] (fun i wr=>∃ (k:Nat),k ≤ 17∧i=.int .i64 (k:Nat)∧Hid (TxAt w ((List.range k).flatMap (tenX T M)) wr)) (fun i _=>17 - (intOf i).toNat)
 case atStart=>exact ⟨0,by omega,rfl,H1⟩
 case round =>
  obtain ⟨k,hk,rfl,hw⟩:=hrel
  by_cases hlt:k < 17
  · have i1:(0:Int) ≤ (k:Int):=by omega
    have i2:(k:Int) < 17:=by omega
    refine wp_seq_k fun K2 hK=>?_
    have HK2:=Lib.hid hK
    clear hK
    go_wp2_with fail
    refine HK2.out _ _ ?_
    clear HK2
    refine wp_seq_k fun K2 hK=>?_
    have HK2:=Lib.hid hK
    clear hK
    go_wp2_with fail
    refine HK2.out _ _ ?_
    clear HK2
    refine wp_seq_k fun K2 hK=>?_
    have HK2:=Lib.hid hK
    clear hK
    refine wp_block ?_
    refine wp_seq_k fun K3 hK=>?_
    have HK3:=Lib.hid hK
    clear hK
    go_wp2_with (first
        | (refine wpList_index_agg rfl 76 (.tmp 11) (.tmp 12) rfl 75 17 (mrow M O).toArray k 15 rfl rfl Tryz.underlying76 hlt Tryz.isAgg75 Tryz.sizeOf75 ?_;rw [mrow_at hokk hlt])
        | (refine wpList_store_mid rfl 75 (.tmp 5) (.tmp 15) rfl wr.heap.size 0 ((M k).cells (O k)).toArray rfl rfl (there_blk (Blk.new wr 75 _) (by rw [List.size_toArray,Ten.cells_len (hokk k)];exact Nat.le_refl 15)) (by rw [List.size_toArray,Ten.cells_len (hokk k)];exact infoTen) (by rw [List.all_toArray,List.all_eq_true];exact Ten.cells_one (hokk k)) ?_))
    have hst:=stored_new (w:=wr) (t:=75) (lit:=#[.int .u32 0,.int .u64 0,.int .u64 0,.pointer none,.int .u64 0,.int .u64 0,.int .u64 0,.int .u64 0,.int .u64 0,.int .u64 0,.int .u64 0,.int .u64 0,.int .u64 0,.int .u64 0,.complex .f64 0 0]) (cells:=((M k).cells (O k)).toArray) (by rw [show ((M k).cells (O k)).toArray.size=15 by simp [Ten.cells_len (hokk k)]];rfl)
    have hw2:=hw.out.below hst.2
    have hbe:=hst.1
    have hne:wr.heap.size ≠ w.heap.size:=by have:=hw.out.lt;omega
    clear hst
    try dsimp only at hbe hw2 ⊢
    refine HK3.out _ _ ?_
    clear HK3
    try simp only [Act.put]
    generalize (wr.alloc (.cells #[.int .u32 0,.int .u64 0,.int .u64 0,.pointer none,.int .u64 0,.int .u64 0,.int .u64 0,.int .u64 0,.int .u64 0,.int .u64 0,.int .u64 0,.int .u64 0,.int .u64 0,.int .u64 0,.complex .f64 0 0] 75)).setCells wr.heap.size 0 ((M k).cells (O k))=W2 at hw2 hbe ⊢
    generalize wr.heap.size=g5 at hbe hne ⊢
    have HW2:=Lib.hid hw2
    have HB:=Lib.hid hbe
    have HNE:=Lib.hid hne
    obtain ⟨gn,hgn⟩:∃ gn:Nat,(M k).gen=(gn:Int):=⟨(M k).gen.toNat,by have:=HS.out.gen k;omega⟩
    have hgl:gn < 100:=by have:=HS.out.gen k;omega
    have htn:(M k).gen.toNat=gn:=by omega
    have c5:=hbe.cell 0
    rw [List.getElem?_toArray,show ((M k).cells (O k))[0]?=some (.int .u32 (M k).gen) from rfl,hgn] at c5
    have hwr:IntKind.i64.wrap (gn:Int)=(gn:Int):=IntWalk.i64_in _ (by omega)
    have HGL:=Lib.hid (And.intro hgl htn)
    have hcat:¬ 9223372036854775807 < (Lib.decDigits gn).length + 1:=by have:=digits_le gn hgl;omega
    clear hw2 hbe hne hgn hgl htn
    refine wp_seq_k fun K3 hK=>?_
    have HK3:=Lib.hid hK
    clear hK
    go_wp2_with fail
    refine (lib_Itoa_small gn HGL.out.1 _).mono ?_
    rintro e w4 ⟨rfl,rfl⟩
    go_wp2_with fail
    refine (tx_write HW2.out _ ?_).mono ?_
    · have d1:=digits_le gn HGL.out.1
      have d2:=texts_len (T:=T) HS.out k hk
      have e1:(⟨(Lib.decDigits gn).toArray⟩:ByteArray).size=(Lib.decDigits gn).length:=rfl
      have e3:(⟨#[59]⟩:ByteArray).size=1:=rfl
      rw [ByteArray.size_append]
      omega
    rintro e w5 ⟨rfl,h5,k5⟩
    have e4:(⟨(Lib.decDigits gn).toArray⟩ ++ ⟨#[59]⟩:ByteArray).data.toList=Lib.decDigits (M k).gen.toNat ++ [59]:=by rw [HGL.out.2,bytes_app]
    rw [e4] at h5
    go_wp2_with fail
    refine HK3.out _ _ ?_
    clear HK3 c5 hwr e4
    try simp only [Act.put]
    have hb5:=k5.blk HB.out HNE.out (by decide)
    have c5:=hb5.cell 3
    rw [List.getElem?_toArray,show ((M k).cells (O k))[3]?=some ((M k).ptr (O k)) from rfl] at c5
    unfold Ten.ptr at c5
    have H5:=Lib.hid h5
    have HB5:=Lib.hid hb5
    clear h5 k5 hb5 HW2 HB HGL
    cases hB:(M k).bk with
    | none =>
      rw [hB] at c5
      simp only [Option.map_none] at c5
      have hx:=tenX_none (T:=T) hB
      have HX:=Lib.hid hx
      clear hx
      go_wp2_with fail
      refine HK2.out _ _ ?_
      clear HK2
      go_wp2_with fail
      go_roundw
      case rel=>exact ⟨k + 1,by omega,by go_num,Lib.hid (by rw [HX.out];exact H5.out)⟩
      case measure=>simp [intOf];omega
    | some B =>
      rw [hB] at c5
      simp only [Option.map_some] at c5
      have hx:=tenX_some (T:=T) hB
      have HX:=Lib.hid hx
      clear hx
      refine wp_seq_k fun K3 hK=>?_
      have HK3:=Lib.hid hK
      clear hK
      go_wp2_with fail
      refine HK3.out _ _ ?_
      clear HK3 c5
      refine wp_seq_k fun K3 hK=>?_
      have HK3:=Lib.hid hK
      clear hK
      have d2:=texts_len (T:=T) HS.out k hk
      have hql:=quoX_len HS.out k
      have hgq:=digits_le (M k).gen.toNat (by have:=HS.out.gen k;omega)
      refine tx_quota (kq:=(M k).qk.toNat) (bq:=(M k).qb.toNat) H5.out (by have:=HS.out.qk k;omega) (by have:=HS.out.qb k;omega) (by simp only [List.length_append,List.length_cons,List.length_nil];omega) HB5.out HNE.out ?_ ?_ ?_
      · rw [List.getElem?_toArray,show ((M k).cells (O k))[1]?=some (.int .u64 (M k).qk) from rfl,Int.toNat_of_nonneg (HS.out.qk k).1]
      · rw [List.getElem?_toArray,show ((M k).cells (O k))[2]?=some (.int .u64 (M k).qb) from rfl,Int.toNat_of_nonneg (HS.out.qb k).1]
      intro s25 s26 s27 s28 s29 s30 s31 s32 s33 s34 s35 s36 w6 h6 k6
      have H6:Hid (TxAt w ((List.range k).flatMap (tenX T M) ++ (Lib.decDigits (M k).gen.toNat ++ [59]) ++ quoX M k) w6):=Lib.hid h6
      clear h6 k6 H5 HB5
      try dsimp only [Exit.inBlock,Exit.then]
      refine HK3.out _ _ ?_
      clear HK3
      refine wp_seq_k fun K3 hK=>?_
      have HK3:=Lib.hid hK
      clear hK
      go_wp2_with fail
      refine (Pairs_m (HM.out.below H6.out.1) (k:Int) HS.out.small).mono ?_
      rintro e w7 ⟨A,c,rfl,hown,hb7⟩
      have H7:=Lib.hid (And.intro (H6.out.below hb7) hown)
      have hL:=(HS.out.pairs k).1
      have hln:((List.range k).flatMap (tenX T M) ++ (Lib.decDigits (M k).gen.toNat ++ [59]) ++ quoX M k).length ≤ 500000:=by
       simp only [List.length_append,List.length_cons,List.length_nil];omega
      clear hown hb7 H6
      go_wp2_with fail
      refine HK3.out _ _ ?_
      clear HK3
      generalize w6.heap.size=bs at H7
      have HLN:=Lib.hid hln
      clear hln d2 hql hgq
      go_wp2_with fail
      go_loopw [41] (fun i wx=>∃ (j:Nat),j ≤ (pairsN M k).length∧i=.int .i64 (j:Nat)∧Hid (TxAt w ((List.range k).flatMap (tenX T M) ++ (Lib.decDigits (M k).gen.toNat ++ [59]) ++ quoX M k ++ ((pairsN M k).take j).flatMap (pairX T)) wx∧wx.ownsRow bs 57 2 (.slice A (pairsN M k).length c) (pairsN M k).length ((pairsN M k).flatMap pairR))) (fun i _=>(pairsN M k).length - (intOf i).toNat)
      case atStart=>exact ⟨0,by omega,rfl,Lib.hid ⟨by simpa using H7.out.1,H7.out.2⟩⟩
      case round =>
       obtain ⟨j,hj,rfl,hwx⟩:=hrel
       by_cases hjl:j < (pairsN M k).length
       · obtain ⟨ad,rfl,hab,hc⟩:=row_cells pairR_one (Reads.of_own hwx.out.2) rfl hjl
         have htk:=take_flat (f:=pairX T) hjl
         have hsz:=(HS.out.pairs k).2 _ (List.getElem_mem hjl)
         generalize (pairsN M k)[j]=x at hc htk hsz
         have q0:wr.cell? (ad.add (j * 2))=some (.string x.1):=by have:=hc 0 _ rfl;rwa [add_of_add] at this
         have q1:wr.cell? ⟨(ad.add (j * 2)).block,(ad.add (j * 2)).off + 1,none⟩=some (.string x.2):=hc 1 _ rfl
         have j1:(0:Int) ≤ (j:Int):=by omega
         have j2:(j:Int) < ((pairsN M k).length:Int):=by omega
         have hlj:=pairs_take_len (T:=T) HS.out k j
         have HTK:=Lib.hid htk
         have HSZ:=Lib.hid (And.intro hsz hlj)
         have hne7:wr.heap.size ≠ w.heap.size:=by have:=hwx.out.1.lt;omega
         have HN7:=Lib.hid hne7
         clear hc htk hsz hlj hne7
         refine wp_seq_k fun K4 hK=>?_
         have HK4:=Lib.hid hK
         clear hK
         go_wp2_with fail
         refine HK4.out _ _ ?_
         clear HK4
         refine wp_seq_k fun K4 hK=>?_
         have HK4:=Lib.hid hK
         clear hK
         go_wp2_with fail
         refine HK4.out _ _ ?_
         clear HK4
         refine wp_seq_k fun K4 hK=>?_
         have HK4:=Lib.hid hK
         clear hK
         refine wp_block ?_
         refine wp_seq_k fun K5 hK=>?_
         have HK5:=Lib.hid hK
         clear hK
         go_wp2_with fail
         refine HK5.out _ _ ?_
         clear HK5
         try simp only [Act.put]
         have hb8:=below_box wr (.cells #[.string x.1,.string x.2] 57)
         obtain ⟨pp,vv,hbb⟩:=builder_blk (hwx.out.1.below hb8).2
         refine tx_pair (p:=x) (T:=T) (hwx.out.1.below hb8) (HTB.out.below (hwx.out.1.below hb8).1) HSZ.out.1 (by rw [List.length_append];have:=HLN.out;have:=HSZ.out.2;omega) (Blk.new wr _ _) HN7.out ?_
         intro s45 s46 s47 s48 s49 s50 s51 s52 w9 h9 k9
         have h10:=k9.own (own_same hwx.out.2 (fun g hg=>hb8.block g (own_at hwx.out.2 hg).2.1)) hbb (by decide) (by decide)
         rw [List.append_assoc,← HTK.out] at h9
         have H9:=Lib.hid (And.intro h9 h10)
         clear h9 k9 h10 hb8 hbb
         try dsimp only [Exit.inBlock,Exit.then]
         refine HK4.out _ _ ?_
         clear HK4
         go_wp2_with fail
         go_roundw
         case rel=>exact ⟨j + 1,by omega,by go_num,H9⟩
         case measure=>simp [intOf];omega
       · obtain rfl:j=(pairsN M k).length:=by omega
         have H8:=Lib.hid hwx.out.1
         clear hwx
         go_wp2_with fail
         refine HK2.out _ _ ?_
         clear HK2
         go_wp2_with fail
         go_roundw
         case rel=>exact ⟨k + 1,by omega,by go_num,Lib.hid (by rw [HX.out];exact H8.out)⟩
         case measure=>simp [intOf];omega
  · obtain rfl:k=17:=by omega
    have hw0:TxAt w (textN T M) wr:=hw.out
    have HW:=Lib.hid hw0
    clear hw hw0
    obtain ⟨tx,htx⟩:∃ tx,textN T M=tx:=⟨_,rfl⟩
    rw [htx] at HW
    have HTX:=Lib.hid htx
    clear htx
    go_wp2_with fail
    refine HK0.out _ _ ?_
    go_wp2_with fail
    refine (lib_String _ _ _ _ HW.out.2 HW.out.1.size).mono ?_
    rintro e w3 ⟨rfl,hb3⟩
    have H3:=Lib.hid (show Below w.heap.size w w3 from ⟨hb3.os.trans HW.out.1.os,hb3.tape.trans HW.out.1.tape,hb3.output.trans HW.out.1.output,Nat.le_trans HW.out.1.size hb3.size,fun i hi=>by rw [hb3.block i hi,HW.out.1.block i hi]⟩)
    clear hb3
    go_wp2_with fail
    go_ret
    refine ⟨?_,H3.out⟩
    rw [HTX.out]
    rfl
def bringM (p:Int) (n:Nat):Int:=(p.tmod n + n).tmod n
theorem pickM_bring (x:Int) (n:Nat) (h:0 < n):(if x.tmod n < 0 then x.tmod n + n else x.tmod n)=bringM x n:=by
 unfold bringM
 have h1:=Int.tmod_lt_of_pos x (show (0:Int) < n by omega)
 have h2:-(n:Int) < x.tmod n:=by
  have:=Int.lt_tmod_of_pos x (show (0:Int) < n by omega)
  omega
 generalize x.tmod n=q at *
 split
 · rw [Int.tmod_eq_emod_of_nonneg (by omega),Int.emod_eq_of_lt (by omega) (by omega)]
 · rw [Int.tmod_eq_emod_of_nonneg (by omega),Int.add_emod_right,Int.emod_eq_of_lt (by omega) (by omega)]
set_option maxHeartbeats 800000 in
theorem pickM_any (x:Int) (n:Nat) (w:World) (hx:I64 x) (hn:0 < n∧n ≤ 1000000):Calls Tryz.prog 16 #[.int .i64 x,.int .i64 n] w fun e w'=>e=.returned (.int .i64 (bringM x n))∧w=w':=by
 obtain ⟨x1,x2⟩:=hx
 obtain ⟨n1,n2⟩:=hn
 have hb:=pickM_bring x n n1
 have h1:=Int.tmod_lt_of_pos x (show (0:Int) < n by omega)
 have h2:-(n:Int) < x.tmod n:=by
  have:=Int.lt_tmod_of_pos x (show (0:Int) < n by omega)
  omega
 have hn0:¬ (n:Int) < 1:=by omega
 have hz:((n:Int) == 0)=false:=by simp;omega
 have HB:=Lib.hid hb
 clear hb
 by_cases hq:x.tmod n < 0
 · go_enter Tryz.func16,Tryz.ntmps16
   go_wp2
   go_ret
   exact ⟨ret_int (by rw [← HB.out,if_pos hq]),rfl⟩
 · go_enter Tryz.func16,Tryz.ntmps16
   go_wp2
   go_ret
   exact ⟨ret_int (by rw [← HB.out,if_neg (by omega)]),rfl⟩
def tenL (M:Mdl) (k:Nat):List Int:=((List.range k).filter (fun t=>(M t).bk.isSome)).map (fun t:Nat=>(t:Int))
theorem tenL_some {M:Mdl} {k:Nat} {B:Bk} (h:(M k).bk=some B):tenL M (k + 1)=tenL M k ++ [(k:Int)]:=by
 unfold tenL
 rw [List.range_succ,List.filter_append,List.map_append]
 simp [h]
theorem tenL_none {M:Mdl} {k:Nat} (h:(M k).bk=none):tenL M (k + 1)=tenL M k:=by
 unfold tenL
 rw [List.range_succ,List.filter_append,List.map_append]
 simp [h]
theorem tenL_len (M:Mdl) (k:Nat):(tenL M k).length ≤ k:=by
 unfold tenL
 rw [List.length_map]
 exact Nat.le_trans (List.length_filter_le _ _) (by simp)
def IntsEnd (l:List Int) (w:World) (e:Ending) (w':World):Prop :=
 ∃ A c,e=.returned (.slice A l.length c)∧w'.ownsRow w.heap.size 3 1 (.slice A l.length c) l.length (l.flatMap irow)∧Below w.heap.size w w'
theorem infoInt:(Tryz.prog.info? 3).map (fun i=>(i.zero,i.size,i.bytes))=some (some (.int .i64 0),1,8):=by kernel_rfl
set_option maxHeartbeats 6400000 in
set_option maxRecDepth 100000 in
theorem Tenants_m {w:World} {p:Nat} {M:Mdl} {O:Ows} (hm:ModelAt w p M O):Calls Tryz.prog 23 #[.pointer (some ⟨p,0,none⟩)] w (IntsEnd (tenL M 17) w):=by
 have HN:=Lib.hid (none_m hm)
 have hokk:=hm.ok
 have HOK:=Lib.hid hokk
 have HR:Hid (w.rangeAt p 1 (mrow M O)):=Lib.hid (fun j v hj=>by
  rw [hm.blk.cell,List.getElem?_toArray,show 1 + j=j + 1 by omega]
  unfold mcells
  rw [List.getElem?_cons_succ]
  exact hj)
 obtain ⟨i0,hi0,iz0,iz1,iz2⟩:=info_parts infoInt
 clear hm
 go_enter Tryz.func23,Tryz.ntmps23
 refine wp_seq_k fun K0 hK=>?_
 have HK0:=Lib.hid hK
 clear hK
 go_wp2_with fail
 refine HK0.out _ _ ?_
 clear HK0
 try simp only [Act.put]
 refine wp_seq_k fun K0 hK=>?_
 have HK0:=Lib.hid hK
 clear hK
 go_wp2_with fail
 refine HK0.out _ _ ?_
 clear HK0
 try simp only [Act.put]
 refine wp_seq_k fun K0 hK=>?_
 have HK0:=Lib.hid hK
 clear hK
 go_wp2_with fail
 refine HN.out.mono ?_
 rintro e w1 ⟨rfl,rfl⟩
 go_wp2_with fail
 refine HK0.out _ _ ?_
 clear HK0
 try simp only [Act.put]
 refine wp_seq_k fun K0 hK=>?_
 have HK0:=Lib.hid hK
 clear hK
 refine wp_seq_k fun K1 hK=>?_
 have HK1:=Lib.hid hK
 clear hK
 go_wp2_with (refine wpList_load_mid rfl 76 (.tmp 11) rfl p 1 rfl _ _ HR.out Tryz.underlying76 rfl (by rw [mrow_len HOK.out];exact infoAll) ?_)
 refine HK1.out _ _ ?_
 clear HK1
 try simp only [Act.put]
 go_wp2_with fail
 go_loopw [3,13] (fun v i wr=>∃ (k:Nat),k ≤ 17∧i=.int .i64 (k:Nat)∧Hid (wr.ownsRow w1.heap.size 3 1 v (tenL M k).length ((tenL M k).flatMap irow)∧Below w1.heap.size w1 wr)) (fun _ i _=>17 - (intOf i).toNat)
 case atStart=>exact ⟨0,by omega,rfl,Lib.hid ⟨⟨rfl,.inl ⟨rfl,rfl⟩⟩,Below.refl _ _⟩⟩
 case round =>
  obtain ⟨k,hk,rfl,HW⟩:=hrel
  by_cases hlt:k < 17
  · have i1:(0:Int) ≤ (k:Int):=by omega
    have i2:(k:Int) < 17:=by omega
    have hst:=stored_new (w:=wr) (t:=75) (lit:=#[.int .u32 0,.int .u64 0,.int .u64 0,.pointer none,.int .u64 0,.int .u64 0,.int .u64 0,.int .u64 0,.int .u64 0,.int .u64 0,.int .u64 0,.int .u64 0,.int .u64 0,.int .u64 0,.complex .f64 0 0]) (cells:=((M k).cells (O k)).toArray) (by rw [show ((M k).cells (O k)).toArray.size=15 by simp [Ten.cells_len (hokk k)]];rfl)
    rw [show ((M k).cells (O k)).toArray.toList=(M k).cells (O k) from rfl] at hst
    have c5:=hst.1.cell 3
    rw [List.getElem?_toArray,show ((M k).cells (O k))[3]?=some ((M k).ptr (O k)) from rfl] at c5
    unfold Ten.ptr at c5
    have HX:=Lib.hid (And.intro (ownsRow_below HW.out.1 hst.2 (Nat.le_refl _)) (below_trans HW.out.2 hst.2))
    clear hst
    have htl:=tenL_len M k
    refine wp_seq_k fun K2 hK=>?_
    have HK2:=Lib.hid hK
    clear hK
    go_wp2_with fail
    refine HK2.out _ _ ?_
    clear HK2
    refine wp_seq_k fun K2 hK=>?_
    have HK2:=Lib.hid hK
    clear hK
    go_wp2_with fail
    refine HK2.out _ _ ?_
    clear HK2
    refine wp_seq_k fun K2 hK=>?_
    have HK2:=Lib.hid hK
    clear hK
    refine wp_block ?_
    refine wp_seq_k fun K3 hK=>?_
    have HK3:=Lib.hid hK
    clear hK
    go_wp2_with (first
        | (refine wpList_index_agg rfl 76 (.tmp 12) (.tmp 13) rfl 75 17 (mrow M O).toArray k 15 rfl rfl Tryz.underlying76 hlt Tryz.isAgg75 Tryz.sizeOf75 ?_;rw [mrow_at hokk hlt])
        | (refine wpList_store_mid rfl 75 (.tmp 5) (.tmp 16) rfl wr.heap.size 0 ((M k).cells (O k)).toArray rfl rfl (there_blk (Blk.new wr 75 _) (by rw [List.size_toArray,Ten.cells_len (hokk k)];exact Nat.le_refl 15)) (by rw [List.size_toArray,Ten.cells_len (hokk k)];exact infoTen) (by rw [List.all_toArray,List.all_eq_true];exact Ten.cells_one (hokk k)) ?_))
    refine HK3.out _ _ ?_
    clear HK3
    try simp only [Act.put]
    try dsimp only
    generalize (wr.alloc (.cells #[.int .u32 0,.int .u64 0,.int .u64 0,.pointer none,.int .u64 0,.int .u64 0,.int .u64 0,.int .u64 0,.int .u64 0,.int .u64 0,.int .u64 0,.int .u64 0,.int .u64 0,.int .u64 0,.complex .f64 0 0] 75)).setCells wr.heap.size 0 ((M k).cells (O k))=W0 at HX c5 ⊢
    generalize wr.heap.size=g5 at c5 ⊢
    cases hB:(M k).bk with
    | none =>
      rw [hB] at c5
      simp only [Option.map_none] at c5
      have HT:=Lib.hid (tenL_none hB)
      clear hB
      go_wp2_with fail
      refine HK2.out _ _ ?_
      clear HK2
      go_wp2_with fail
      go_roundw
      case rel=>exact ⟨k + 1,by omega,by go_num,Lib.hid (by rw [HT.out];exact HX.out)⟩
      case measure=>simp [intOf];omega
    | some B =>
      rw [hB] at c5
      simp only [Option.map_some] at c5
      have HT:=Lib.hid (tenL_some hB)
      clear hB
      go_wp2_with (first
       | (at_builtin
          refine wpList_append_any _ rfl (.tmp 20) (.tmp 22) _ rfl w1.heap.size 3 i0 _ 1 8 Tryz.underlying82 hi0 iz0 iz1 iz2 rfl (by omega) u3 (tenL M k).length ((tenL M k).flatMap irow) rfl
             (HX.out.1.alloc _) _ (some ⟨W0.heap.size,0,none⟩) 1 1 [.int .i64 (k:Nat)] rfl (reads_of_blk (Blk.new W0 _ _) rfl rfl) (by simp [Value.oneCell']) (by unfold maxLen;omega) (by omega) (by have:=HX.out.2.size;simp;omega) ?_
          intro v2 w2 hown2 hg2 hat2
          have hbel2:Below w1.heap.size w1 w2:=below_app (below_alloc HX.out.2 _) (HX.out.1.alloc _) hg2 (Nat.le_refl _) (by have:=HX.out.2.size;simp;omega)))
      refine HK2.out _ _ ?_
      clear HK2
      go_wp2_with fail
      go_roundw
      case rel =>
       refine ⟨k + 1,by omega,by go_num,Lib.hid ⟨?_,hbel2⟩⟩
       rw [HT.out,List.flatMap_append,List.length_append]
       exact hown2
      case measure=>simp [intOf];omega
  · obtain rfl:k=17:=by omega
    obtain ⟨A,c,rfl,-,-,-⟩:=own_form HW.out.1
    go_wp2_with fail
    refine HK0.out _ _ ?_
    go_wp2_with fail
    go_ret
    exact ⟨A,c,rfl,HW.out.1,HW.out.2⟩
def AlkI (w1:World) (M:Mdl) (j:Int) (v:Value) (wr:World):Prop :=
 wr.ownsRow w1.heap.size 3 1 v (tenL M (min j.toNat 17)).length ((tenL M (min j.toNat 17)).flatMap irow)∧Below w1.heap.size w1 wr
theorem alk_out {M:Mdl} {j:Int} (h0:(M 0).bk=none) (hj:¬ (1 ≤ j∧j ≤ 16)):tenL M (min (j + 1).toNat 17)=tenL M (min j.toNat 17):=by
 by_cases h1:j < 0
 · rw [show (j + 1).toNat=0 by omega,show j.toNat=0 by omega]
 · by_cases h2:j=0
   · subst h2
     rw [show min (0 + 1:Int).toNat 17=0 + 1 from rfl,show min (0:Int).toNat 17=0 from rfl,tenL_none h0]
   · rw [show min (j + 1).toNat 17=17 by omega,show min j.toNat 17=17 by omega]
theorem alk_in {M:Mdl} {t:Nat} (ht:t ≤ 16):min ((t:Int) + 1).toNat 17=t + 1∧min (t:Int).toNat 17=t:=by
 constructor <;> omega
set_option maxHeartbeats 6400000 in
set_option maxRecDepth 100000 in
theorem alike_any {w:World} {p n:Nat} {M:Mdl} {O:Ows} {R:RMd} (hm:ModelAt w p M O) (hr:RMAt w n M R) (hn:n ≤ 1000) (h0:(M 0).bk=none):Calls Tryz.prog 20 #[.pointer (some ⟨p,0,none⟩),.agg (rcells R).toArray] w (BoolB true w):=by
 have hb0:=below_box w (.cells (rcells R).toArray 66)
 have q0:=Blk.new w 66 (rcells R).toArray
 have hsm:Small M:=fun t B hB=>by
  have h1:=hr.len t
  rw [(hr.bk t B hB).1] at h1
  omega
 have HPR:Hid (∀ (W:World) (t:Int),Below (w.alloc (.cells (rcells R).toArray 66)).heap.size (w.alloc (.cells (rcells R).toArray 66)) W→Calls Tryz.prog 8 #[.pointer (some ⟨p,0,none⟩),.int .i64 t] W (PairsEnd (pairsN M t) W)):=Lib.hid (fun W t hb=>Pairs_m ((hm.below hb0).below hb) t hsm)
 have HTN:Hid (∀ (W:World),Below (w.alloc (.cells (rcells R).toArray 66)).heap.size (w.alloc (.cells (rcells R).toArray 66)) W→Calls Tryz.prog 23 #[.pointer (some ⟨p,0,none⟩)] W (IntsEnd (tenL M 17) W)):=Lib.hid (fun W hb=>Tenants_m ((hm.below hb0).below hb))
 have HRW:Hid (∀ (W:World),Below (w.alloc (.cells (rcells R).toArray 66)).heap.size (w.alloc (.cells (rcells R).toArray 66)) W→RMAt W n M R∧Blk W w.heap.size 66 (rcells R).toArray):=Lib.hid (fun W hb=>⟨(hr.below hb0).below hb,q0.below hb q0.lt⟩)
 have HB0:=Lib.hid hb0
 have HM0:=Lib.hid (And.intro h0 hn)
 obtain ⟨i0,hi0,iz0,iz1,iz2⟩:=info_parts infoInt
 clear hm hr hn h0 hb0 q0 hsm
 generalize hrc:(rcells R).toArray=rc at HPR HTN HRW HB0 ⊢
 have HRC:=Lib.hid hrc
 clear hrc
 go_enter Tryz.func20,Tryz.ntmps20
 refine wp_seq_k fun K0 hK=>?_
 have HK0:=Lib.hid hK
 clear hK
 go_wp2_with fail
 refine HK0.out _ _ ?_
 clear HK0
 try simp only [Act.put]
 generalize hwa:w.alloc (.cells rc 66)=w1 at HPR HTN HRW HB0 ⊢
 clear hwa
 obtain ⟨g3,hg3⟩:∃ g,w.heap.size=g:=⟨_,rfl⟩
 rw [hg3] at HRW ⊢
 have HG3:=Lib.hid hg3
 clear hg3
 refine wp_seq_k fun K0 hK=>?_
 have HK0:=Lib.hid hK
 clear hK
 go_wp2_with fail
 refine HK0.out _ _ ?_
 clear HK0
 try simp only [Act.put]
 refine wp_seq_k fun K0 hK=>?_
 have HK0:=Lib.hid hK
 clear hK
 refine wp_seq_k fun K1 hK=>?_
 have HK1:=Lib.hid hK
 clear hK
 go_wp2_with fail
 refine HK1.out _ _ ?_
 clear HK1
 try simp only [Act.put]
 go_wp2_with fail
 go_loopw [5,6] (fun v i wr=>∃ (j:Int),(-1 ≤ j∧j ≤ 19)∧i=.int .i64 j∧Hid (AlkI w1 M j v wr)) (fun _ i _=>(20 - intOf i).toNat)
 case atStart=>exact ⟨-1,by omega,rfl,Lib.hid ⟨⟨rfl,.inl ⟨rfl,rfl⟩⟩,Below.refl _ _⟩⟩
 case round =>
  obtain ⟨j,hj,rfl,HW⟩:=hrel
  obtain ⟨j1,j2⟩:=hj
  by_cases hlt:j ≤ 18
  · have htl:=tenL_len M (min j.toNat 17)
    have htl2:(tenL M (min j.toNat 17)).length ≤ 17:=by omega
    clear htl
    by_cases hin:1 ≤ j∧j ≤ 16
    · obtain ⟨t,rfl⟩:∃ t:Nat,j=t:=⟨j.toNat,by omega⟩
      have ht17:t < 17:=by omega
      have ht1:1 ≤ t:=by omega
      have hthr:=(HRW.out wr HW.out.2).1.there t
      have c0:wr.cell? ⟨g3,t * 16,none⟩=some (.bool (R t).there):=by
       have h:=(HRW.out wr HW.out.2).2
       rw [← HRC.out] at h
       exact rblk (j:=0) h (HRW.out wr HW.out.2).1.ok ht17 rfl
      have HC2:Hid (∀ W,Below w1.heap.size w1 W→W.cell? ⟨g3,t * 16 + 2,none⟩=some (.slice (R t).bk.A (R t).bk.l.length (R t).bk.c)):=Lib.hid (fun W hb=>by
       have h:=(HRW.out W hb).2
       rw [← HRC.out] at h
       exact rblk (j:=2) h (HRW.out W hb).1.ok ht17 rfl)
      obtain ⟨hi1,hi2⟩:=hin
      have i3:(0:Int) ≤ (t:Int):=by omega
      have i4:(t:Int) < 17:=by omega
      cases hB:(M t).bk with
      | none =>
        rw [hB] at hthr
        simp only [Option.isSome_none] at hthr
        rw [hthr] at c0
        have HL:=Lib.hid (show tenL M (min ((t:Int) + 1).toNat 17)=tenL M (min (t:Int).toNat 17) from by rw [(alk_in (M:=M) (by omega)).1,(alk_in (M:=M) (by omega)).2,tenL_none hB])
        have hpn:pairsN M t=[]:=by unfold pairsN;rw [if_pos ⟨hi1,hi2⟩,Int.toNat_natCast,hB]
        have HP:=Lib.hid (HPR.out wr t HW.out.2)
        rw [hpn] at HP
        clear hB hthr hpn HC2
        go_wp2_with fail
        refine HP.out.mono ?_
        rintro e w3 ⟨Ap,cp,rfl,hown3,hb3⟩
        have HZ:=Lib.hid (And.intro (ownsRow_below HW.out.1 hb3 (Nat.le_refl _)) (And.intro (below_trans HW.out.2 hb3) (Reads.of_own hown3)))
        clear hown3 hb3
        go_wp2_with fail
        refine (same_prs Ap none cp 0 [] _ 0 w3 (by simp) HZ.out.2.2 ⟨rfl,fun h=>absurd h (Nat.lt_irrefl 0)⟩).mono ?_
        rintro e w4 ⟨rfl,m,rfl⟩
        go_wp2_with fail
        go_roundw
        case rel=>exact ⟨(t:Int) + 1,by omega,by go_num,Lib.hid (by
         refine ⟨?_,drewB HZ.out.2.1 m⟩
         rw [HL.out]
         exact HZ.out.1)⟩
        case measure=>simp [intOf];omega
      | some B =>
        rw [hB] at hthr
        simp only [Option.isSome_some] at hthr
        rw [hthr] at c0
        have HL:=Lib.hid (show tenL M (min ((t:Int) + 1).toNat 17)=tenL M (min (t:Int).toNat 17) ++ [(t:Int)] from by rw [(alk_in (M:=M) (by omega)).1,(alk_in (M:=M) (by omega)).2,tenL_some hB])
        have hbl:=((HRW.out wr HW.out.2).1.bk t B hB).1
        have hpn:pairsN M t=(R t).bk.l:=by unfold pairsN;rw [if_pos ⟨hi1,hi2⟩,Int.toNat_natCast,hB];exact hbl.symm
        have HP:=Lib.hid (fun W hb=>HPR.out W t hb)
        rw [hpn] at HP
        have hlen:=(HRW.out wr HW.out.2).1.len t
        have hbn:(R t).bk.l.length ≤ 1000000:=by have:=HM0.out.2;omega
        have HAT:=Lib.hid (fun W hb=>(HRW.out W hb).1.at_ t)
        clear hB hthr hpn hbl hlen
        generalize (R t).bk=b at HC2 HP hbn HAT
        go_wp2_with (first
         | (at_builtin
            refine wpList_append_any _ rfl (.tmp 24) (.tmp 26) _ rfl w1.heap.size 3 i0 _ 1 8 Tryz.underlying82 hi0 iz0 iz1 iz2 rfl (by omega) u5 (tenL M (min (t:Int).toNat 17)).length ((tenL M (min (t:Int).toNat 17)).flatMap irow) rfl
               (HW.out.1.alloc _) _ (some ⟨wr.heap.size,0,none⟩) 1 1 [.int .i64 (t:Nat)] rfl (reads_of_blk (Blk.new wr _ _) rfl rfl) (by simp [Value.oneCell']) (by unfold maxLen;omega) (by omega) (by have:=HW.out.2.size;simp;omega) ?_
            intro v2 w2 hown2 hg2 hat2
            have hbel2:Below w1.heap.size w1 w2:=below_app (below_alloc HW.out.2 _) (HW.out.1.alloc _) hg2 (Nat.le_refl _) (by have:=HW.out.2.size;simp;omega)
            have c2:=HC2.out w2 hbel2))
        have HY:=Lib.hid (And.intro hown2 hbel2)
        clear hown2 hg2 hat2 hbel2
        refine (HP.out w2 HY.out.2).mono ?_
        rintro e w3 ⟨Ap,cp,rfl,hown3,hb3⟩
        have HZ:=Lib.hid (And.intro (ownsRow_below HY.out.1 hb3 (Nat.le_refl _)) (And.intro (below_trans HY.out.2 hb3) (Reads.of_own hown3)))
        clear hown3 hb3 c2
        go_wp2_with fail
        refine (same_prs Ap b.A cp b.c b.l _ w3.heap.size w3 hbn HZ.out.2.2 (HAT.out w3 HZ.out.2.1).rd).mono ?_
        rintro e w4 ⟨rfl,m,rfl⟩
        go_wp2_with fail
        go_roundw
        case rel=>exact ⟨(t:Int) + 1,by omega,by go_num,Lib.hid (by
         refine ⟨?_,drewB HZ.out.2.1 m⟩
         rw [HL.out,List.flatMap_append,List.length_append]
         exact HZ.out.1)⟩
        case measure=>simp [intOf];omega
    · have HL:=Lib.hid (alk_out (M:=M) HM0.out.1 hin)
      have hpn:pairsN M j=[]:=by unfold pairsN;rw [if_neg hin]
      have HP:=Lib.hid (HPR.out wr j HW.out.2)
      rw [hpn] at HP
      clear hpn
      by_cases hj1:1 ≤ j
      · have hj16:¬ j ≤ 16:=by omega
        clear hin
        go_wp2_with fail
        refine HP.out.mono ?_
        rintro e w3 ⟨Ap,cp,rfl,hown3,hb3⟩
        have HZ:=Lib.hid (And.intro (ownsRow_below HW.out.1 hb3 (Nat.le_refl _)) (And.intro (below_trans HW.out.2 hb3) (Reads.of_own hown3)))
        clear hown3 hb3
        go_wp2_with fail
        refine (same_prs Ap none cp 0 [] _ 0 w3 (by simp) HZ.out.2.2 ⟨rfl,fun h=>absurd h (Nat.lt_irrefl 0)⟩).mono ?_
        rintro e w4 ⟨rfl,m,rfl⟩
        go_wp2_with fail
        go_roundw
        case rel=>exact ⟨j + 1,by omega,by go_num,Lib.hid (by
         refine ⟨?_,drewB HZ.out.2.1 m⟩
         rw [HL.out]
         exact HZ.out.1)⟩
        case measure=>simp [intOf];omega
      · clear hin
        go_wp2_with fail
        refine HP.out.mono ?_
        rintro e w3 ⟨Ap,cp,rfl,hown3,hb3⟩
        have HZ:=Lib.hid (And.intro (ownsRow_below HW.out.1 hb3 (Nat.le_refl _)) (And.intro (below_trans HW.out.2 hb3) (Reads.of_own hown3)))
        clear hown3 hb3
        go_wp2_with fail
        refine (same_prs Ap none cp 0 [] _ 0 w3 (by simp) HZ.out.2.2 ⟨rfl,fun h=>absurd h (Nat.lt_irrefl 0)⟩).mono ?_
        rintro e w4 ⟨rfl,m,rfl⟩
        go_wp2_with fail
        go_roundw
        case rel=>exact ⟨j + 1,by omega,by go_num,Lib.hid (by
         refine ⟨?_,drewB HZ.out.2.1 m⟩
         rw [HL.out]
         exact HZ.out.1)⟩
        case measure=>simp [intOf];omega
  · obtain rfl:j=19:=by omega
    clear j1 j2
    have hw:=HW.out
    unfold AlkI at hw
    rw [show min (19:Int).toNat 17=17 from rfl] at hw
    obtain ⟨how,hbw⟩:=hw
    have hl17:=tenL_len M 17
    clear HW HPR HRW HM0 HRC
    have HTN2:=Lib.hid (HTN.out wr hbw)
    clear HTN
    generalize tenL M 17=lt at how hl17 HTN2
    obtain ⟨A5,c5,rfl,-,-,-⟩:=own_form how
    have HOW:=Lib.hid (And.intro how (And.intro (below_trans HB0.out hbw) (And.intro (Nat.le_refl w1.heap.size) hbw)))
    clear how hbw
    go_wp2_with fail
    refine HK0.out _ _ ?_
    clear HK0
    try simp only [Act.put]
    go_wp2_with fail
    refine HTN2.out.mono ?_
    rintro e w3 ⟨Ap,cp,rfl,hown3,hb3⟩
    have HZ:=Lib.hid (And.intro (Reads.of_own (ownsRow_below HOW.out.1 hb3 (Nat.le_refl _))) (And.intro (below_trans HOW.out.2.1 hb3) (Reads.of_own hown3)))
    clear hown3 hb3
    go_wp2_with fail
    refine (same_ints1 Ap A5 cp c5 lt _ _ w3 (by omega) HZ.out.2.2 HZ.out.1).mono ?_
    rintro e w4 ⟨rfl,m,rfl⟩
    go_wp2_with fail
    go_ret
    exact ⟨rfl,drewB HZ.out.2.1 m⟩
end Go.Proofs.YtkgflepgkhnclaaGreatDoor
namespace Go.Proofs.YtkgflepgkhnclaaGreatDoor
set_option linter.unusedVariables false
set_option linter.unusedSimpArgs false
open Go.RowKit Go.Shelf
structure Pl (M:Mdl):Prop where
 z:(M 0).bk=none
 st:∀ t,(M t).st=st0
theorem pl0:Pl mdl0:=⟨rfl,fun _=>rfl⟩
theorem pl_upd {M:Mdl} (h:Pl M) {n:Nat} (hn:1 ≤ n) {t:Ten} (ht:t.st=st0):Pl (updM M n t):=by
 refine ⟨?_,fun i=>?_⟩
 · rw [updM_ne (by omega)];exact h.z
 · by_cases e:i=n
   · subst e;rw [updM_self];exact ht
   · rw [updM_ne e];exact h.st i
theorem pl_do {M:Mdl} (h:Pl M) (r:Req):Pl (doN M r).1:=by
 rcases doN_fx M r with ⟨e,_⟩ | ⟨n,h1,h2,_,_,_,_,e⟩ | ⟨n,h1,h2,_,_,_,e⟩ | ⟨n,h1,h2,_,_,_,e⟩ | ⟨n,B,B',_,_,h1,h2,hb,hq,_,_,e⟩
 · rw [e];exact h
 · rw [e];exact pl_upd h h1 rfl
 · rw [e];exact pl_upd h h1 rfl
 · rw [e];exact pl_upd h h1 (h.st n)
 · rw [e];exact pl_upd h h1 (h.st n)
def stKB (k b:Int):List Value:=[.int .u64 k,.int .u64 b,.int .u64 0,.int .u64 0,.int .u64 0,.int .u64 0,.int .u64 0,.int .u64 0,.int .u64 0,.int .u64 0,.complex .f64 0 0]
theorem pl_st {M:Mdl} (h:Pl M) (r:Req):∃ k b,(doN M r).2.st=stKB k b:=by
 by_cases hd:r.deed=6
 · unfold doN
   rw [if_neg (by omega),if_pos hd]
   unfold tellN
   split
   · split
     · exact ⟨_,_,by dsimp only;rw [h.st];rfl⟩
     · exact ⟨0,0,rfl⟩
   · exact ⟨0,0,rfl⟩
 · exact ⟨0,0,do_st0 M r hd⟩
theorem RMAt.small {W:World} {n:Nat} {M:Mdl} {R:RMd} (h:RMAt W n M R) (hn:n ≤ 1000):Small M:=fun t B hB=>by
 have h1:=h.len t
 rw [(h.bk t B hB).1] at h1
 omega
theorem RBk.at_.keepC {C:Nat→Prop} {b:RBk} {W W':World} (h:b.at_ W) (k:KeepC C W W') (hC:∀ i cs,Blk W i 57 cs→¬ C i):b.at_ W' :=
 h.keep k.size (fun ad h0 hA=>by
  obtain ⟨cs,hq⟩:=h.ty ad h0 hA
  exact k.block _ hq.lt (.inl (hC _ cs hq)))
theorem RMAt.keepC {C:Nat→Prop} {W W':World} {n:Nat} {M:Mdl} {R:RMd} (h:RMAt W n M R) (k:KeepC C W W') (hC:∀ i cs,Blk W i 57 cs→¬ C i):RMAt W' n M R :=
 ⟨h.there,h.gen,h.bk,h.st,h.ok,fun t=>(h.at_ t).keepC k hC,h.lok,h.len⟩
theorem mown_pair {w:World} {p:Nat} {M:Mdl} {T:Ows} (h:ModelAt w p M T):∀ i cs,Blk w i 57 cs→¬ mown p M T i:=fun i cs hb hi=>h.other hi hb (by decide) (by decide) (by decide)
theorem mown_rm {w:World} {p:Nat} {M:Mdl} {T:Ows} (h:ModelAt w p M T) {i:Nat} {cs:Array Value} (hb:Blk w i 66 cs):¬ mown p M T i:=fun hi=>h.other hi hb (by decide) (by decide) (by decide)
theorem own_at0 {W:World} {A:Option Addr} {B c:Nat} {l:List Kv} (h:W.ownsRow B 57 2 (.slice A l.length c) l.length (l.flatMap pairR)):RBk.at_ ⟨A,c,l,0,0⟩ W:=row_at' (b:=⟨none,0,[],0,0⟩) h rfl
def rmd0:RMd:=fun _=>⟨false,0,⟨none,0,[],0,0⟩,st0⟩
theorem rmd0_cells:Tryz.zeroCells66=(rcells rmd0).toArray:=by kernel_rfl
theorem rmd0_at (W:World) (n:Nat):RMAt W n mdl0 rmd0 :=
 ⟨fun _=>rfl,fun _=>rfl,fun t B h=>(by cases h),fun _=>rfl,fun _=>st0_ok,fun _=>nil_at,fun _=>lok_nil,fun _=>Nat.zero_le _⟩
end Go.Proofs.YtkgflepgkhnclaaGreatDoor
namespace Go.Proofs.YtkgflepgkhnclaaGreatDoor
set_option linter.unusedVariables false
set_option linter.unusedSimpArgs false
open Go.RowKit Go.Shelf
attribute [local go_sem] run_store_complex
theorem wpList_store_abs1 {P:Program} {ops:Array Oper} {rest:List Oper} {op:Oper} {a:Act} {w:World} {Q:Exit→Act→World→Prop} (hgd:op.guard=none) (ty:TypeId) (x y:Operand) (ho:op.op=.store ty x y) (b:Nat) (cs cells:Array Value) (hx:a.eval x=.pointer (some ⟨b,0,none⟩)) (hy:a.eval y=.agg cells)
 (hb:Blk w b ty cs) (hs:cs.size=cells.size) (hi:(P.info? ty).map (·.size)=some cells.size) (h1:cells.all (·.oneCell')=true)
 (h:∀ V,Blk V b ty cells→(∀ i,i ≠ b→V.heap[i]?=w.heap[i]?)→(∀ B W,B ≤ b→Below B W w→Below B W V)→wpList P ops Q rest (a.put op.dst undef) V):wpList P ops Q (op :: rest) a w :=
 wpList_plain hgd fun _ hK=>wp_store_abs ty x y ho b cs cells hx hy hb hs hi h1 (fun V a b c=>hK _ _ (h V a b c))
def EndU (w:World) (e:Ending) (w':World):Prop:=e=.returned (.tuple #[])∧Below w.heap.size w w'
def NoM (w:World) (v:Value):Prop:=v=.pointer none ∨ ∃ p cs,v=.pointer (some ⟨p,0,none⟩)∧Blk w p 78 cs∧cs[0]?=some (.bool false)
theorem NoM.below {w w':World} {v:Value} (h:NoM w v) (hb:Below w.heap.size w w'):NoM w' v:=by
 rcases h with rfl | ⟨p,cs,rfl,h1,h2⟩
 · exact .inl rfl
 · exact .inr ⟨p,cs,rfl,h1.below hb h1.lt,h2⟩
set_option maxHeartbeats 1600000 in
set_option maxRecDepth 100000 in
theorem none_u {w:World} {v:Value} (h:NoM w v):Calls Tryz.prog 29 #[v] w (StayV (.bool true) w):=by
 rcases h with rfl | ⟨p,cs,rfl,hb,h0⟩
 · go_enter Tryz.func29,Tryz.ntmps29
   go_wp2_with fail
   go_ret
   exact ⟨rfl,rfl⟩
 · have c0:w.cell? ⟨p,0,none⟩=some (.bool false):=(hb.cell 0).trans h0
   clear hb h0
   go_enter Tryz.func29,Tryz.ntmps29
   go_wp2_with fail
   go_ret
   exact ⟨rfl,rfl⟩
set_option maxHeartbeats 1600000 in
set_option maxRecDepth 100000 in
theorem good_u {w:World} {v:Value} (h:NoM w v) (x:Hd):Calls Tryz.prog 9 #[v,x.v] w (BoolB false w):=by
 have hb0:=(Below.refl w.heap.size w).alloc (Nat.le_refl _) (.cells x.cells 37)
 have HN:=Lib.hid (none_u (h.below hb0))
 have HB:=Lib.hid hb0
 clear hb0 h
 unfold Hd.v Hd.cells at *
 go_enter Tryz.func9,Tryz.ntmps9
 go_wp2_with (first
  | (go_at_call 29;refine HN.out.mono ?_;rintro e w1 ⟨rfl,rfl⟩))
 go_ret
 exact ⟨rfl,HB.out⟩
set_option maxHeartbeats 1600000 in
set_option maxRecDepth 100000 in
theorem do_u {w:World} {v:Value} (h:NoM w v) (r:Req):Calls Tryz.prog 11 #[v,r.v] w (fun e w'=>e=.returned ((errA 1).v none 0)∧Below w.heap.size w w'):=by
 have hb1:=below_alloc (below_box w (.cells r.row.toArray 39)) (.cells zeroA 52)
 have hbx:Blk ((w.alloc (.cells r.row.toArray 39)).alloc (.cells zeroA 52)) (w.heap.size + 1) 52 zeroA:=blk_at (by simp)
 have HN:=Lib.hid (none_u (h.below hb1))
 have HB:=Lib.hid (And.intro hb1 hbx)
 clear h hb1 hbx
 unfold Req.row at HN HB
 go_enter Tryz.func11,Tryz.ntmps11
 go_wp2_with (first
  | (go_at_call 29;refine HN.out.mono ?_;rintro e w1 ⟨rfl,rfl⟩)
  | (refine wpList_store_abs1 rfl 52 (.tmp 4) (.tmp 8) rfl (w.heap.size + 1) zeroA (errC 1) rfl rfl HB.out.2 rfl infoAns (errC_one _) ?_
     intro V hq hh hl))
 refine bodyPost_ret (v:=(errA 1).v none 0) ?_ rfl ?_
 · exact results_cell Tryz.results11 rfl hq Tryz.underlying52 rfl infoAns
 · exact ⟨rfl,hl _ w (Nat.le_succ _) HB.out.1⟩
set_option maxHeartbeats 1600000 in
set_option maxRecDepth 100000 in
theorem ended_u {w:World} {v:Value} (h:NoM w v) (r:Req):Calls Tryz.prog 21 #[v,r.v,.agg zeroA] w (EndU w):=by
 have hb1:=below_alloc (below_box w (.cells r.row.toArray 39)) (.cells zeroA 52)
 have HG:=Lib.hid (good_u (h.below hb1) r.h)
 have HB:=Lib.hid hb1
 clear h hb1
 unfold Req.row at HG HB
 unfold Req.h Hd.v at HG
 go_enter Tryz.func21,Tryz.ntmps21
 go_wp2_with fail
 refine HG.out.mono ?_
 rintro e w1 ⟨rfl,hb⟩
 go_wp2_with fail
 go_end0
 exact ⟨rfl,below_trans HB.out hb⟩
set_option maxHeartbeats 1600000 in
set_option maxRecDepth 100000 in
theorem tenants_u {w:World} {v:Value} (h:NoM w v):Calls Tryz.prog 23 #[v] w (StayV (.slice none 0 0) w):=by
 have HN:=Lib.hid (none_u h)
 clear h
 go_enter Tryz.func23,Tryz.ntmps23
 go_wp2_with (first | (go_at_call 29;refine HN.out.mono ?_;rintro e w1 ⟨rfl,rfl⟩))
 go_ret
 exact ⟨rfl,rfl⟩
set_option maxHeartbeats 1600000 in
set_option maxRecDepth 100000 in
theorem pairs_u {w:World} {v:Value} (h:NoM w v) (t:Int):Calls Tryz.prog 8 #[v,.int .i64 t] w (StayV (.slice none 0 0) w):=by
 have HN:=Lib.hid (none_u h)
 clear h
 go_enter Tryz.func8,Tryz.ntmps8
 go_wp2_with (first | (go_at_call 29;refine HN.out.mono ?_;rintro e w1 ⟨rfl,rfl⟩))
 go_ret
 exact ⟨rfl,rfl⟩
set_option maxHeartbeats 1600000 in
set_option maxRecDepth 100000 in
theorem copy_u {w:World} {v:Value} (h:NoM w v):Calls Tryz.prog 15 #[v] w (StayV (.pointer none) w):=by
 have HN:=Lib.hid (none_u h)
 clear h
 go_enter Tryz.func15,Tryz.ntmps15
 go_wp2_with (first | (go_at_call 29;refine HN.out.mono ?_;rintro e w1 ⟨rfl,rfl⟩))
 go_ret
 exact ⟨rfl,rfl⟩
set_option maxHeartbeats 1600000 in
set_option maxRecDepth 100000 in
theorem step_u0 {w:World} {v:Value} (h:NoM w v) (r:Req) (a:Array Value) (hs:a.size=17) (b:Bool):Calls Tryz.prog 49 #[v,r.v,.agg a,.bool b] w (BoolB false w):=by
 have hb1:=below_alloc (below_box w (.cells r.row.toArray 39)) (.cells a 52)
 have HN:=Lib.hid (none_u (h.below hb1))
 have HB:=Lib.hid hb1
 clear h hb1
 unfold Req.row at HN HB
 go_enter Tryz.func49,Tryz.ntmps49
 go_wp2_with (first | (go_at_call 29;refine HN.out.mono ?_;rintro e w1 ⟨rfl,rfl⟩))
 go_ret
 exact ⟨rfl,HB.out⟩
set_option maxHeartbeats 1600000 in
set_option maxRecDepth 100000 in
theorem step_u {w:World} {v:Value} (h:NoM w v) (r:Req):Calls Tryz.prog 22 #[v,r.v,(errA 1).v none 0] w (BoolB false w):=by
 have hb1:=below_alloc (below_box w (.cells r.row.toArray 39)) (.cells (errC 1) 52)
 have hb0:Blk ((w.alloc (.cells r.row.toArray 39)).alloc (.cells (errC 1) 52)) w.heap.size 39 r.row.toArray:=(Blk.new w 39 r.row.toArray).alloc _
 have hbx:Blk ((w.alloc (.cells r.row.toArray 39)).alloc (.cells (errC 1) 52)) (w.heap.size + 1) 52 (errC 1):=blk_at (by simp)
 have HS:=Lib.hid (step_u0 (h.below hb1) r (errC 1) rfl true)
 have HB:=Lib.hid (And.intro hb1 (And.intro hb0 hbx))
 clear h hb1 hb0 hbx
 have hv:(errA 1).v none 0=.agg (errC 1):=rfl
 rw [hv]
 unfold Req.row at HS HB
 go_enter Tryz.func22,Tryz.ntmps22
 go_wp2_with (first
  | (refine wpList_load_mid rfl 39 (.tmp 4) rfl w.heap.size 0 rfl _ _ (range_blk HB.out.2.1) Tryz.underlying39 rfl (by kernel_rfl) ?_)
  | (refine wpList_load_mid rfl 52 (.tmp 5) rfl (w.heap.size + 1) 0 rfl _ _ (range_blk HB.out.2.2) Tryz.underlying52 rfl infoAns ?_))
 refine HS.out.mono ?_
 rintro e w1 ⟨rfl,hb⟩
 go_wp2_with fail
 go_ret
 exact ⟨rfl,below_trans HB.out.1 hb⟩
end Go.Proofs.YtkgflepgkhnclaaGreatDoor
namespace Go.Proofs.YtkgflepgkhnclaaGreatDoor
set_option linter.unusedVariables false
set_option linter.unusedSimpArgs false
open Go.RowKit Go.Shelf
theorem wpList_alloc_abs {P:Program} {ops:Array Oper} {rest:List Oper} {op:Oper} {a:Act} {w:World} {Q:Exit→Act→World→Prop} (hgd:op.guard=none) (t:TypeId) (Z:Array Value) (ho:op.op=.alloc t) (hz:∀ w,(zeroValue t).run P w=.ok (.agg Z) w)
 (h:∀ V,Below w.heap.size w V→Blk V w.heap.size t Z→wpList P ops Q rest (a.put op.dst (.pointer (some ⟨w.heap.size,0,none⟩))) V):wpList P ops Q (op :: rest) a w :=
 wpList_plain hgd fun _ hK=>wp_alloc_abs t Z ho hz (fun V a b=>hK _ _ (h V a b))
theorem wpList_on {P:Program} {ops:Array Oper} {rest:List Oper} {op:Oper} {a:Act} {w:World} {Q:Exit→Act→World→Prop} (hw:Region.wanted op (yielded ops a.tmps)=true)
 (h:∀ K:Act→World→Prop,(∀ a w,wpList P ops Q rest a w→K a w)→op.wp P a w K Q):wpList P ops Q (op :: rest) a w :=
 wpList_step fun K hK=>by rw [hw,if_pos rfl];exact h K hK
theorem wpList_load_on {P:Program} {ops:Array Oper} {rest:List Oper} {op:Oper} {a:Act} {w:World} {Q:Exit→Act→World→Prop} (hw:Region.wanted op (yielded ops a.tmps)=true) (ty:TypeId) (x:Operand) (ho:op.op=.load ty x)
 (b o:Nat) (hx:a.eval x=.pointer (some ⟨b,o,none⟩)) (cs:List Value) (d:TypeDesc) (hc:w.rangeAt b o cs)
 (hu:P.underlying ty=some d) (hd:d.isRow=true) (hi:(P.info? ty).map (·.size)=some cs.length)
 (h:wpList P ops Q rest (a.put op.dst (.agg cs.toArray)) w):wpList P ops Q (op :: rest) a w :=
 wpList_on hw fun _ hK=>wp_load_mid ty x ho b o hx cs d hc hu hd hi (hK _ _ h)
theorem keep_store {W V:World} {b:Nat} {t:TypeId} {cs:Array Value} (hb:Blk W b t cs) (ht:t ≠ 5) (hh:∀ i,i ≠ b→V.heap[i]?=W.heap[i]?) (hl:∀ B w,B ≤ b→Below B w W→Below B w V):KeepC (·=b) W V:=by
 have h:=hl 0 W (Nat.zero_le _) (by constructor <;> first | rfl | exact Nat.le_refl _ | (intro i hi;rfl))
 exact .one ⟨h.os,h.tape,h.output,h.size⟩ (fun i _ hi=>hh i hi) (fun _=>rfl) (not_U8 hb ht)
structure OmW (w0:World) (b4 b8 b9 p q:Nat) (hd:Hd) (M Mr:Mdl) (R:RMd) (T:Ows) (n:Nat) (Mk:Mdl) (Rk:RMd) (Tk:Ows) (W:World):Prop where
 m:ModelAt W p M T
 r:RMAt W n Mr R
 pl:Pl M
 x4:Blk W b4 37 hd.cells
 x8:Blk W b8 66 (rcells R).toArray
 x9:Blk W b9 66 (rcells Rk).toArray
 k:ModelAt W q Mk Tk
 rk:RMAt W 40 Mk Rk
 plk:Pl Mk
 new:∀ j,mown p M T j→w0.heap.size ≤ j
 newk:∀ j,mown q Mk Tk j→w0.heap.size ≤ j
 ap:∀ j,mown p M T j→¬ mown q Mk Tk j
 bel:Below w0.heap.size w0 W
 g4:w0.heap.size ≤ b4
 g8:w0.heap.size ≤ b8
 g9:w0.heap.size ≤ b9
 ne:b8 ≠ b9
section
variable {w0 W W':World} {b4 b8 b9 p q n:Nat} {hd:Hd} {M Mr Mk:Mdl} {R Rk:RMd} {T Tk:Ows}
theorem OmW.below (h:OmW w0 b4 b8 b9 p q hd M Mr R T n Mk Rk Tk W) (hb:Below W.heap.size W W'):OmW w0 b4 b8 b9 p q hd M Mr R T n Mk Rk Tk W' :=
 ⟨h.m.below hb,h.r.below hb,h.pl,h.x4.below hb h.x4.lt,h.x8.below hb h.x8.lt,h.x9.below hb h.x9.lt,h.k.below hb,h.rk.below hb,h.plk,h.new,h.newk,h.ap,below_trans h.bel hb,h.g4,h.g8,h.g9,h.ne⟩
structure DidK (W W':World):Prop where
 at_:∀ b:RBk,b.at_ W→b.at_ W'
 req:∀ i cs,Blk W i 39 cs→Blk W' i 39 cs
 ans:∀ i cs,Blk W i 52 cs→Blk W' i 52 cs
 mdl:∀ i cs,Blk W i 66 cs→Blk W' i 66 cs
 rm:∀ n M R,RMAt W n M R→RMAt W' n M R
theorem OmW.did {X:Mdl × Ans} {e:Ending} (h:OmW w0 b4 b8 b9 p q hd M Mr R T n Mk Rk Tk W) (hd2:DoEnd p M T X W e W') (hpl:Pl X.1) :
 ∃ A c T',e=.returned (X.2.v A c)∧OmW w0 b4 b8 b9 p q hd X.1 Mr R T' n Mk Rk Tk W'∧RBk.at_ ⟨A,c,X.2.prs,0,0⟩ W'∧DidK W W':=by
 obtain ⟨A,c,T',rfl,hm',hrow,hown,hk⟩:=hd2
 have ho:∀ {i:Nat} {t:TypeId} {cs:Array Value},Blk W i t cs→t ≠ 78→t ≠ 134→t ≠ 9→Blk W' i t cs:=fun hb h1 h2 h3=>hk.blk hb (fun hi=>h.m.other hi hb h1 h2 h3)
 refine ⟨A,c,T',rfl,⟨hm',h.r.keepC hk (mown_pair h.m),hpl,ho h.x4 (by decide) (by decide) (by decide),ho h.x8 (by decide) (by decide) (by decide),ho h.x9 (by decide) (by decide) (by decide),h.k.keep hk (fun i hi hc=>h.ap i hc hi),h.rk.keepC hk (mown_pair h.m),h.plk,?_,h.newk,?_,?_,h.g4,h.g8,h.g9,h.ne⟩,own_at0 hrow,?_⟩
 · exact fun j hj=>(hown j hj).elim (h.new j) (fun h2=>Nat.le_trans h.bel.size h2)
 · exact fun j hj hk2=>(hown j hj).elim (fun a=>h.ap j a hk2) (fun a=>by have:=h.k.own_lt hk2;omega)
 · exact ⟨hk.os.trans h.bel.os,hk.tape.trans h.bel.tape,hk.output.trans h.bel.output,Nat.le_trans h.bel.size hk.size,fun i hi=>(hk.block i (Nat.lt_of_lt_of_le hi h.bel.size) (.inl (fun hc=>by have:=h.new i hc;omega))).trans (h.bel.block i hi)⟩
 · exact ⟨fun b hb=>hb.keepC hk (mown_pair h.m),fun i cs hb=>ho hb (by decide) (by decide) (by decide),fun i cs hb=>ho hb (by decide) (by decide) (by decide),fun i cs hb=>ho hb (by decide) (by decide) (by decide),fun n M R hr=>hr.keepC hk (mown_pair h.m)⟩
theorem OmW.set8 {M2:Mdl} {R2:RMd} {n2:Nat} {V:World} (h:OmW w0 b4 b8 b9 p q hd M Mr R T n Mk Rk Tk W) (hv:Blk V b8 66 (rcells R2).toArray) (hh:∀ i,i ≠ b8→V.heap[i]?=W.heap[i]?) (hl:∀ B w,B ≤ b8→Below B w W→Below B w V) (h2:RMAt W n2 M2 R2) :
 OmW w0 b4 b8 b9 p q hd M M2 R2 T n2 Mk Rk Tk V:=by
 have kc:=keep_store h.x8 (by decide) hh hl
 have hp:∀ i cs,Blk W i 57 cs→¬ i=b8:=fun i cs hb=>blk_ne hb h.x8 (by decide)
 exact ⟨h.m.keep kc (fun i hi e=>by subst e;exact mown_rm h.m h.x8 hi),h2.keepC kc hp,h.pl,(hh b4 (blk_ne h.x4 h.x8 (by decide))).trans h.x4,hv,(hh b9 h.ne.symm).trans h.x9,h.k.keep kc (fun i hi e=>by subst e;exact mown_rm h.k h.x8 hi),h.rk.keepC kc hp,h.plk,h.new,h.newk,h.ap,hl _ _ h.g8 h.bel,h.g4,h.g8,h.g9,h.ne⟩
theorem OmW.set9 {g:Nat} {V:World} (h:OmW w0 b4 b8 b9 p q hd M M R T n Mk Rk Tk W) (hn:n ≤ 40) (hc:∃ e,CopyM M W e W'∧e=.returned (.pointer (some ⟨g,0,none⟩))) (hv:Blk V b9 66 (rcells R).toArray) (hh:∀ i,i ≠ b9→V.heap[i]?=W'.heap[i]?) (hl:∀ B w,B ≤ b9→Below B w W'→Below B w V) :
 ∃ O,OmW w0 b4 b8 b9 p g hd M M R T n M R O V:=by
 obtain ⟨e,⟨g',O,rfl,hg,hown,hb⟩,he⟩:=hc
 injection he with he
 injection he with he
 injection he with he
 injection he with he
 subst he
 have h1:=h.below hb
 have kc:=keep_store h1.x9 (by decide) hh hl
 have hp:∀ i cs,Blk W' i 57 cs→¬ i=b9:=fun i cs hb=>blk_ne hb h1.x9 (by decide)
 have hr:=h1.r.keepC kc hp
 exact ⟨O,⟨h1.m.keep kc (fun i hi e=>by subst e;exact mown_rm h1.m h1.x9 hi),hr,h.pl,(hh b4 (blk_ne h1.x4 h1.x9 (by decide))).trans h1.x4,(hh b8 h.ne).trans h1.x8,hv,hg.keep kc (fun i hi e=>by subst e;exact mown_rm hg h1.x9 hi),hr.mono hn,h.pl,h.new,fun j hj=>Nat.le_trans h.bel.size (hown j hj),fun j hj hj2=>by have a:=h.m.own_lt hj;have b:=hown j hj2;omega,hl _ _ h.g9 h1.bel,h.g4,h.g8,h.g9,h.ne⟩⟩
end
theorem same_ans {X:Mdl × Ans} {A B:Option Addr} {ca cb:Nat} {W:World} (hst:∃ k b,X.2.st=stKB k b) (hl:X.2.prs.length ≤ 1000000) (hA:RBk.at_ ⟨A,ca,X.2.prs,0,0⟩ W) (hB:RBk.at_ ⟨B,cb,X.2.prs,0,0⟩ W) :
 Calls Tryz.prog 18 #[X.2.v A ca,X.2.v B cb] W (BoolB true W):=by
 obtain ⟨k,b,hst⟩:=hst
 have h:=sameAns_any X.2.err X.2.val X.2.prs X.2.h k b A B ca cb W hl hA hB
 have e:∀ A c,X.2.v A c=.agg #[.int .i64 X.2.err,.string X.2.val,.slice A X.2.prs.length c,.int .i64 X.2.h.t,.int .u32 X.2.h.g,.int .u8 X.2.h.r,.int .u64 k,.int .u64 b,.int .u64 0,.int .u64 0,.int .u64 0,.int .u64 0,.int .u64 0,.int .u64 0,.int .u64 0,.int .u64 0,.complex .f64 0 0]:=fun A c=>by
  unfold Ans.v Ans.cells
  rw [hst]
  rfl
 rw [e,e]
 exact h
end Go.Proofs.YtkgflepgkhnclaaGreatDoor
