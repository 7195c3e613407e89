/- Contracts: the texts of nodes and patches, by the program. -/
import Derived.Test.YtbgedljbgkcpiaaGreatDoorQAlExactDiffSessions
import Derived.Test.YtbgedljbgkcpiaaGreatDoorQAoExactDiffSessions
import Derived.Deep.RegionWith
set_option linter.unusedVariables false
set_option linter.unusedSimpArgs false
set_option maxHeartbeats 4000000
set_option maxRecDepth 20000
namespace Go.Proofs.YtbgedljbgkcpiaaGreatDoor
open Go.RowKit
theorem kndName_dat {k:Int} {i:Nat} (h:k=(i:Int)+1):(kndName i).data.toList=nameK k:=by
 have e:(k - 1).toNat=i:=by omega
 unfold kndName nameK
 rw[e]
 rfl
def wordsF (x:GNode):List (List UInt8):= [nameK x.zC]++(if (kndF x.zC).low≤(kndF x.zC).high then [decL x.fA] else [])++(if (kndF x.zC).hasB=true then [decL x.fB] else [])++(if x.zG= [] then [] else [[111,102],(blanks x.zG).drop 1])
theorem words_sep (x:GNode):sepL (wordsF x)=nodeL x:=by
 unfold wordsF nodeL ofL
 rw[List.append_assoc,List.append_assoc,sepL_app _ (by simp)]
 have e1:sepL [nameK x.zC]=nameK x.zC:=by simp[sepL]
 rw[e1,List.append_assoc,List.append_assoc,List.flatMap_append,List.flatMap_append]
 congr 1
 congr 1
 ·split<;>simp[blankL]
 ·congr 1
  ·split<;>simp[blankL]
  ·split
   ·simp
   ·next h=>rw[blanks_cons h];simp
theorem str_own1 (w:World) (s:ByteArray):OwS 9 (w.alloc (.cells #[.string s] 9)) w.heap.size (.slice (some ⟨w.heap.size,0,none⟩) 1 1) [s]:=⟨strV_len,World.ownsRow_lit (base:=w.heap.size) (e:=9) (size:=1) w #[.string s] 1 (Nat.le_refl _) (by decide) rfl⟩
theorem str_rd2 (w:World) (s t:ByteArray):RdS (w.alloc (.cells #[.string s,.string t] 9)) (.slice (some ⟨w.heap.size,0,none⟩) 2 2) [s,t]:=by
 have h:OwS 9 (w.alloc (.cells #[.string s,.string t] 9)) w.heap.size (.slice (some ⟨w.heap.size,0,none⟩) 2 2) [s,t]:=⟨strV_len,World.ownsRow_lit (base:=w.heap.size) (e:=9) (size:=1) w #[.string s,.string t] 2 (Nat.le_refl _) (by decide) rfl⟩
 exact h.rd
theorem c_nodeText (x:GNode) (cs:List Value) (w:World) (hk:inB x.zC 1 17=true) (hf:x.zG.length≤24) (hg:x.good) (ht:TB w) (h:T.rds w x.fs cs):Calls Tryz.prog 114 #[.agg cs.toArray] w fun e w'=>e= .returned (.string (mkS (nodeL x)))∧Below w.heap.size w w':=by
 have HTB:=hide ht;have HLN:=hide (node_len hg hf);have HWS:=hide (words_sep x)
 obtain⟨g0,gA,gB,gF⟩:=hg
 obtain⟨v3,rfl,h3⟩:=GNode.yM h
 clear h ht
 have h3i:=T.yQ.1 h3;obtain⟨va3,vc3,rfl,vl3,vm3,vx3⟩:=h3i.open_
 have R3:=hide h3i;clear vx3 h3 h3i
 have GF:=hide gF;have GA:=hide gA;have GB:=hide gB;clear gF gA gB g0
 have HB0:=hide (show Below w.heap.size w (w.alloc (.cells #[.int .i64 x.zC,.int .i64 x.fA,.int .i64 x.fB,(.slice va3 x.zG.length vc3)] 160)) from(Below.refl _ _).alloc (Nat.le_refl _) _)
 have HK0:=hide (Bk.born w 160 #[.int .i64 x.zC,.int .i64 x.fA,.int .i64 x.fB,(.slice va3 x.zG.length vc3)])
 have hB0:=HB0.out;have ka0:=HK0.out.cell
 have hk:=yX.1 hk
 obtain⟨i,hi,hki⟩: ∃ i:Nat,i<17∧x.zC=(i:Int)+1:=⟨(x.zC - 1).toNat,by omega,by omega⟩
 obtain⟨r0,r1,r2,r3,r4,r5⟩:=kndCells_at hi
 have hnm:=kndName_dat hki
 generalize hK:kndL.getD i ⟨0,0,0,false,false⟩=K at *
 generalize kndName i=nm at *
 have e1:IntKind.i64.wrap (x.zC - 1)=(i:Int):=by rw[IntWalk.i64_in _ (by omega)];omega
 have HF:kndF x.zC=K:=by rw[←hK,hki];unfold kndF;congr 1;omega
 have HKF:=hide HF;have HNM:=hide hnm;clear HF hki hK hk hnm
 have n0:(0:Int)≤(i:Int):=by omega
 have n1:(i:Int)<17:=by omega
 obtain⟨nt,hnt⟩: ∃ nt,mkS ((blanks x.zG).drop 1)=nt:=⟨_,rfl⟩;have HNT:=hide hnt
 have HNU:=hide (fun(W:World) (hr:RdI W (.slice va3 x.zG.length vc3) x.zG) (h2:TB W)=>(by have:=c_numbersText _ x.zG W hr GF.out (by omega) h2;rw[hnt] at this;exact this:Calls Tryz.prog 111 #[.slice va3 x.zG.length vc3] W fun e w'=>e= .returned (.string nt)∧Below W.heap.size W w'));clear hnt
 generalize hT:nodeL x=tx at *
 clear hT
 go_enter Tryz.func114,Tryz.ntmps114
 go_wp2
 rename_i Q1 K1 hK1
 have REST: ∀ (p g:Nat) (W:World),Bk W w.heap.size 160 #[.int .i64 x.zC,.int .i64 x.fA,.int .i64 x.fB,(.slice va3 x.zG.length vc3)]→Bk W p 204 #[.string nm,.int .i64 K.inputs,.int .i64 K.low,.int .i64 K.high,.bool K.linear,.bool K.hasB]→Below w.heap.size w W→K1 { tmps:= #[.agg #[.int .i64 x.zC,.int .i64 x.fA,.int .i64 x.fB,(.slice va3 x.zG.length vc3)],.pointer (some ⟨w.heap.size,0,none⟩),.string ⟨#[]⟩,.pointer (some ⟨p,0,none⟩),undef,.slice (some ⟨g,0,none⟩) 17 17,.pointer (some ⟨w.heap.size,0,none⟩),.int .i64 x.zC,.int .i64 (i:Int),.pointer (some ⟨g,i * 6,none⟩),.agg #[.string nm,.int .i64 K.inputs,.int .i64 K.low,.int .i64 K.high,.bool K.linear,.bool K.hasB],undef,undef,undef,undef,undef,undef,undef,undef,undef,undef,undef,undef,undef,undef,undef,undef,undef,undef,undef,undef,undef,undef,undef,undef,undef,undef,undef,undef,undef,undef,undef],defers:= [] } W:=by
  intro p g W hbk hbp hbw
  have HK:=hide hbk;have HP:=hide hbp;have HB:=hide hbw;clear hbk hbp hbw r0 r1 r2 r3 r4 r5 hB0 ka0
  have HBW0:=hide (Below.refl W.heap.size W)
  by_cases f0:x.zG= []
  ·
   have q0:decide (0<x.zG.length)=false:=by rw[f0];rfl
   have F0:=hide f0;clear f0
   by_cases a0:K.low≤K.high
   ·
    have a1:decide (K.low≤K.high)=true:=decide_eq_true a0
    have A0:=hide a0;clear a0
    cases hB:K.hasB
    ·
     have HBE:=hide hB
     have hK:=HK.out.below HBW0.out HK.out.lt;have hP:=HP.out.below HBW0.out HP.out.lt;have ka:=hK.cell;have kp:=hP.cell;have la:=hK.lt;have lp:=hP.lt;have hz:=HBW0.out.size;clear hK hP
     refine hK1 _ _ ?_
     go_wp2_with fail
     refine(c_hasA _ _ _ _ _ _ _).mono ?_;rintro e w1 ⟨rfl,hb⟩;rw[a1]
     have HBW1:=hide (yH ((Below.refl W.heap.size W).alloc (Nat.le_refl _) _) (by simp) hb);have HO1:=hide ((str_own1 W nm).all hb);clear hb ka kp la lp hz
     have hK:=HK.out.below HBW1.out HK.out.lt;have hP:=HP.out.below HBW1.out HP.out.lt;have ka:=hK.cell;have kp:=hP.cell;have la:=hK.lt;have lp:=hP.lt;have hz:=HBW1.out.size;clear hK hP
     go_wp2_with fail
     refine(c_iDec x.fA _ (HTB.out.below (yH HB.out HB.out.size HBW1.out)) GA.out.1 GA.out.2).mono ?_;rintro e w2 ⟨rfl,hb⟩
     have HBW2:=hide (yH HBW1.out hz hb);have HO2:=hide (HO1.out.all hb);clear hb ka kp la lp hz;have hK:=HK.out.below HBW2.out HK.out.lt;have hP:=HP.out.below HBW2.out HP.out.lt;have ka:=hK.cell;have kp:=hP.cell;have la:=hK.lt;have lp:=hP.lt;have hz:=HBW2.out.size;clear hK hP
     have HJ:=hide (show Lib.join ((([nm]++ [decS x.fA]):List ByteArray).map (fun s:ByteArray=>s.data.toList)) [32]=tx by rw[←HWS.out,join_sep];congr 1;unfold wordsF;rw[HKF.out,←HNM.out,if_pos A0.out,if_neg (show ¬ K.hasB=true by rw[HBE.out];simp),if_pos F0.out];rfl)
     go_wp2_with (first|(at_builtin;refine app1_str rfl _ _ rfl rfl HO2.out rfl (by simp) hz ?_;intro v3 w3 ho hg hv;have HO3:=hide ho;have HBW3:=hide (below_own HBW2.out HO2.out.2 hg (Nat.le_refl _) hz);clear ho hg hv ka kp la lp hz;have hK:=HK.out.below HBW3.out HK.out.lt;have hP:=HP.out.below HBW3.out HP.out.lt;have ka:=hK.cell;have kp:=hP.cell;have la:=hK.lt;have lp:=hP.lt;have hz:=HBW3.out.size;clear hK hP)|(go_at_call 112;refine(c_join _ ([nm]++ [decS x.fA]) _ _ HO3.out.rd (by simp) (by rw[show (⟨#[32]⟩:ByteArray).data.toList= [32] from rfl,HJ.out];exact Nat.le_trans HLN.out (by decide))).mono ?_;rintro e w9 ⟨rfl,hb9⟩;have HB9:=hide (yH HB.out HB.out.size (yH HBW3.out HBW3.out.size hb9));clear hb9))
     go_ret
     exact⟨ret_str (by rw[←HJ.out];rfl),HB9.out⟩
    ·
     have HBE:=hide hB
     have hK:=HK.out.below HBW0.out HK.out.lt;have hP:=HP.out.below HBW0.out HP.out.lt;have ka:=hK.cell;have kp:=hP.cell;have la:=hK.lt;have lp:=hP.lt;have hz:=HBW0.out.size;clear hK hP
     refine hK1 _ _ ?_
     go_wp2_with fail
     refine(c_hasA _ _ _ _ _ _ _).mono ?_;rintro e w1 ⟨rfl,hb⟩;rw[a1]
     have HBW1:=hide (yH ((Below.refl W.heap.size W).alloc (Nat.le_refl _) _) (by simp) hb);have HO1:=hide ((str_own1 W nm).all hb);clear hb ka kp la lp hz
     have hK:=HK.out.below HBW1.out HK.out.lt;have hP:=HP.out.below HBW1.out HP.out.lt;have ka:=hK.cell;have kp:=hP.cell;have la:=hK.lt;have lp:=hP.lt;have hz:=HBW1.out.size;clear hK hP
     go_wp2_with fail
     refine(c_iDec x.fA _ (HTB.out.below (yH HB.out HB.out.size HBW1.out)) GA.out.1 GA.out.2).mono ?_;rintro e w2 ⟨rfl,hb⟩
     have HBW2:=hide (yH HBW1.out hz hb);have HO2:=hide (HO1.out.all hb);clear hb ka kp la lp hz;have hK:=HK.out.below HBW2.out HK.out.lt;have hP:=HP.out.below HBW2.out HP.out.lt;have ka:=hK.cell;have kp:=hP.cell;have la:=hK.lt;have lp:=hP.lt;have hz:=HBW2.out.size;clear hK hP
     go_wp2_with (at_builtin;refine app1_str rfl _ _ rfl rfl HO2.out rfl (by simp) hz ?_;intro v3 w3 ho hg hv;have HO3:=hide ho;have HBW3:=hide (below_own HBW2.out HO2.out.2 hg (Nat.le_refl _) hz);clear ho hg hv ka kp la lp hz;have hK:=HK.out.below HBW3.out HK.out.lt;have hP:=HP.out.below HBW3.out HP.out.lt;have ka:=hK.cell;have kp:=hP.cell;have la:=hK.lt;have lp:=hP.lt;have hz:=HBW3.out.size;clear hK hP)
     refine(c_iDec x.fB _ (HTB.out.below (yH HB.out HB.out.size HBW3.out)) GB.out.1 GB.out.2).mono ?_;rintro e w4 ⟨rfl,hb⟩
     have HBW4:=hide (yH HBW3.out hz hb);have HO4:=hide (HO3.out.all hb);clear hb ka kp la lp hz;have hK:=HK.out.below HBW4.out HK.out.lt;have hP:=HP.out.below HBW4.out HP.out.lt;have ka:=hK.cell;have kp:=hP.cell;have la:=hK.lt;have lp:=hP.lt;have hz:=HBW4.out.size;clear hK hP
     have HJ:=hide (show Lib.join ((([nm]++ [decS x.fA]++ [decS x.fB]):List ByteArray).map (fun s:ByteArray=>s.data.toList)) [32]=tx by rw[←HWS.out,join_sep];congr 1;unfold wordsF;rw[HKF.out,←HNM.out,if_pos A0.out,if_pos HBE.out,if_pos F0.out];rfl)
     go_wp2_with (first|(at_builtin;refine app1_str rfl _ _ rfl rfl HO4.out rfl (by simp) hz ?_;intro v5 w5 ho hg hv;have HO5:=hide ho;have HBW5:=hide (below_own HBW4.out HO4.out.2 hg (Nat.le_refl _) hz);clear ho hg hv ka kp la lp hz;have hK:=HK.out.below HBW5.out HK.out.lt;have hP:=HP.out.below HBW5.out HP.out.lt;have ka:=hK.cell;have kp:=hP.cell;have la:=hK.lt;have lp:=hP.lt;have hz:=HBW5.out.size;clear hK hP)|(go_at_call 112;refine(c_join _ ([nm]++ [decS x.fA]++ [decS x.fB]) _ _ HO5.out.rd (by simp) (by rw[show (⟨#[32]⟩:ByteArray).data.toList= [32] from rfl,HJ.out];exact Nat.le_trans HLN.out (by decide))).mono ?_;rintro e w9 ⟨rfl,hb9⟩;have HB9:=hide (yH HB.out HB.out.size (yH HBW5.out HBW5.out.size hb9));clear hb9))
     go_ret
     exact⟨ret_str (by rw[←HJ.out];rfl),HB9.out⟩
   ·
    have a1:decide (K.low≤K.high)=false:=decide_eq_false a0
    have A0:=hide a0;clear a0
    cases hB:K.hasB
    ·
     have HBE:=hide hB
     have hK:=HK.out.below HBW0.out HK.out.lt;have hP:=HP.out.below HBW0.out HP.out.lt;have ka:=hK.cell;have kp:=hP.cell;have la:=hK.lt;have lp:=hP.lt;have hz:=HBW0.out.size;clear hK hP
     refine hK1 _ _ ?_
     go_wp2_with fail
     refine(c_hasA _ _ _ _ _ _ _).mono ?_;rintro e w1 ⟨rfl,hb⟩;rw[a1]
     have HBW1:=hide (yH ((Below.refl W.heap.size W).alloc (Nat.le_refl _) _) (by simp) hb);have HO1:=hide ((str_own1 W nm).all hb);clear hb ka kp la lp hz
     have hK:=HK.out.below HBW1.out HK.out.lt;have hP:=HP.out.below HBW1.out HP.out.lt;have ka:=hK.cell;have kp:=hP.cell;have la:=hK.lt;have lp:=hP.lt;have hz:=HBW1.out.size;clear hK hP
     have HJ:=hide (show Lib.join ((([nm]):List ByteArray).map (fun s:ByteArray=>s.data.toList)) [32]=tx by rw[←HWS.out,join_sep];congr 1;unfold wordsF;rw[HKF.out,←HNM.out,if_neg (show ¬ K.low≤K.high by have:=A0.out;omega),if_neg (show ¬ K.hasB=true by rw[HBE.out];simp),if_pos F0.out];rfl)
     go_wp2_with (go_at_call 112;refine(c_join _ ([nm]) _ _ HO1.out.rd (by simp) (by rw[show (⟨#[32]⟩:ByteArray).data.toList= [32] from rfl,HJ.out];exact Nat.le_trans HLN.out (by decide))).mono ?_;rintro e w9 ⟨rfl,hb9⟩;have HB9:=hide (yH HB.out HB.out.size (yH HBW1.out HBW1.out.size hb9));clear hb9)
     go_ret
     exact⟨ret_str (by rw[←HJ.out];rfl),HB9.out⟩
    ·
     have HBE:=hide hB
     have hK:=HK.out.below HBW0.out HK.out.lt;have hP:=HP.out.below HBW0.out HP.out.lt;have ka:=hK.cell;have kp:=hP.cell;have la:=hK.lt;have lp:=hP.lt;have hz:=HBW0.out.size;clear hK hP
     refine hK1 _ _ ?_
     go_wp2_with fail
     refine(c_hasA _ _ _ _ _ _ _).mono ?_;rintro e w1 ⟨rfl,hb⟩;rw[a1]
     have HBW1:=hide (yH ((Below.refl W.heap.size W).alloc (Nat.le_refl _) _) (by simp) hb);have HO1:=hide ((str_own1 W nm).all hb);clear hb ka kp la lp hz
     have hK:=HK.out.below HBW1.out HK.out.lt;have hP:=HP.out.below HBW1.out HP.out.lt;have ka:=hK.cell;have kp:=hP.cell;have la:=hK.lt;have lp:=hP.lt;have hz:=HBW1.out.size;clear hK hP
     go_wp2_with fail
     refine(c_iDec x.fB _ (HTB.out.below (yH HB.out HB.out.size HBW1.out)) GB.out.1 GB.out.2).mono ?_;rintro e w2 ⟨rfl,hb⟩
     have HBW2:=hide (yH HBW1.out hz hb);have HO2:=hide (HO1.out.all hb);clear hb ka kp la lp hz;have hK:=HK.out.below HBW2.out HK.out.lt;have hP:=HP.out.below HBW2.out HP.out.lt;have ka:=hK.cell;have kp:=hP.cell;have la:=hK.lt;have lp:=hP.lt;have hz:=HBW2.out.size;clear hK hP
     have HJ:=hide (show Lib.join ((([nm]++ [decS x.fB]):List ByteArray).map (fun s:ByteArray=>s.data.toList)) [32]=tx by rw[←HWS.out,join_sep];congr 1;unfold wordsF;rw[HKF.out,←HNM.out,if_neg (show ¬ K.low≤K.high by have:=A0.out;omega),if_pos HBE.out,if_pos F0.out];rfl)
     go_wp2_with (first|(at_builtin;refine app1_str rfl _ _ rfl rfl HO2.out rfl (by simp) hz ?_;intro v3 w3 ho hg hv;have HO3:=hide ho;have HBW3:=hide (below_own HBW2.out HO2.out.2 hg (Nat.le_refl _) hz);clear ho hg hv ka kp la lp hz;have hK:=HK.out.below HBW3.out HK.out.lt;have hP:=HP.out.below HBW3.out HP.out.lt;have ka:=hK.cell;have kp:=hP.cell;have la:=hK.lt;have lp:=hP.lt;have hz:=HBW3.out.size;clear hK hP)|(go_at_call 112;refine(c_join _ ([nm]++ [decS x.fB]) _ _ HO3.out.rd (by simp) (by rw[show (⟨#[32]⟩:ByteArray).data.toList= [32] from rfl,HJ.out];exact Nat.le_trans HLN.out (by decide))).mono ?_;rintro e w9 ⟨rfl,hb9⟩;have HB9:=hide (yH HB.out HB.out.size (yH HBW3.out HBW3.out.size hb9));clear hb9))
     go_ret
     exact⟨ret_str (by rw[←HJ.out];rfl),HB9.out⟩
  ·
   have q0:decide (0<x.zG.length)=true:=decide_eq_true (List.length_pos_iff.2 f0)
   have F0:=hide f0;clear f0
   by_cases a0:K.low≤K.high
   ·
    have a1:decide (K.low≤K.high)=true:=decide_eq_true a0
    have A0:=hide a0;clear a0
    cases hB:K.hasB
    ·
     have HBE:=hide hB
     have hK:=HK.out.below HBW0.out HK.out.lt;have hP:=HP.out.below HBW0.out HP.out.lt;have ka:=hK.cell;have kp:=hP.cell;have la:=hK.lt;have lp:=hP.lt;have hz:=HBW0.out.size;clear hK hP
     refine hK1 _ _ ?_
     go_wp2_with fail
     refine(c_hasA _ _ _ _ _ _ _).mono ?_;rintro e w1 ⟨rfl,hb⟩;rw[a1]
     have HBW1:=hide (yH ((Below.refl W.heap.size W).alloc (Nat.le_refl _) _) (by simp) hb);have HO1:=hide ((str_own1 W nm).all hb);clear hb ka kp la lp hz
     have hK:=HK.out.below HBW1.out HK.out.lt;have hP:=HP.out.below HBW1.out HP.out.lt;have ka:=hK.cell;have kp:=hP.cell;have la:=hK.lt;have lp:=hP.lt;have hz:=HBW1.out.size;clear hK hP
     go_wp2_with fail
     refine(c_iDec x.fA _ (HTB.out.below (yH HB.out HB.out.size HBW1.out)) GA.out.1 GA.out.2).mono ?_;rintro e w2 ⟨rfl,hb⟩
     have HBW2:=hide (yH HBW1.out hz hb);have HO2:=hide (HO1.out.all hb);clear hb ka kp la lp hz;have hK:=HK.out.below HBW2.out HK.out.lt;have hP:=HP.out.below HBW2.out HP.out.lt;have ka:=hK.cell;have kp:=hP.cell;have la:=hK.lt;have lp:=hP.lt;have hz:=HBW2.out.size;clear hK hP
     go_wp2_with (at_builtin;refine app1_str rfl _ _ rfl rfl HO2.out rfl (by simp) hz ?_;intro v3 w3 ho hg hv;have HO3:=hide ho;have HBW3:=hide (below_own HBW2.out HO2.out.2 hg (Nat.le_refl _) hz);clear ho hg hv ka kp la lp hz;have hK:=HK.out.below HBW3.out HK.out.lt;have hP:=HP.out.below HBW3.out HP.out.lt;have ka:=hK.cell;have kp:=hP.cell;have la:=hK.lt;have lp:=hP.lt;have hz:=HBW3.out.size;clear hK hP)
     refine(HNU.out _ (Rd.below R3.out (yH HB.out HB.out.size HBW3.out)) (HTB.out.below (yH HB.out HB.out.size HBW3.out))).mono ?_;rintro e w4 ⟨rfl,hb⟩
     have HBW4:=hide (yH HBW3.out hz hb);have HO4:=hide (HO3.out.all hb);clear hb ka kp la lp hz;have hz:=HBW4.out.size
     have HJ:=hide (show Lib.join ((([nm]++ [decS x.fA]++ [⟨#[111,102]⟩,nt]):List ByteArray).map (fun s:ByteArray=>s.data.toList)) [32]=tx by rw[←HWS.out,join_sep];congr 1;unfold wordsF;rw[HKF.out,←HNM.out,if_pos A0.out,if_neg (show ¬ K.hasB=true by rw[HBE.out];simp),if_neg F0.out,←HNT.out];rfl)
     go_wp2_with (first|(at_builtin;refine appm_str rfl _ _ rfl rfl (HO4.out.all ((Below.refl _ _).alloc (Nat.le_refl _) _)) (ys:= [⟨#[111,102]⟩,nt]) rfl (str_rd2 _ _ _) (by simp) (by simp;omega) ?_;intro v5 w5 ho hg hv;have HO5:=hide ho;have HBW5:=hide (below_own (HBW4.out.alloc hz _) (HO4.out.all ((Below.refl _ _).alloc (Nat.le_refl _) _)).2 hg (Nat.le_refl _) (by simp;omega));clear ho hg hv hz)|(go_at_call 112;refine(c_join _ ([nm]++ [decS x.fA]++ [⟨#[111,102]⟩,nt]) _ _ HO5.out.rd (by simp) (by rw[show (⟨#[32]⟩:ByteArray).data.toList= [32] from rfl,HJ.out];exact Nat.le_trans HLN.out (by decide))).mono ?_;rintro e w9 ⟨rfl,hb9⟩;have HB9:=hide (yH HB.out HB.out.size (yH HBW5.out HBW5.out.size hb9));clear hb9))
     go_ret
     exact⟨ret_str (by rw[←HJ.out];rfl),HB9.out⟩
    ·
     have HBE:=hide hB
     have hK:=HK.out.below HBW0.out HK.out.lt;have hP:=HP.out.below HBW0.out HP.out.lt;have ka:=hK.cell;have kp:=hP.cell;have la:=hK.lt;have lp:=hP.lt;have hz:=HBW0.out.size;clear hK hP
     refine hK1 _ _ ?_
     go_wp2_with fail
     refine(c_hasA _ _ _ _ _ _ _).mono ?_;rintro e w1 ⟨rfl,hb⟩;rw[a1]
     have HBW1:=hide (yH ((Below.refl W.heap.size W).alloc (Nat.le_refl _) _) (by simp) hb);have HO1:=hide ((str_own1 W nm).all hb);clear hb ka kp la lp hz
     have hK:=HK.out.below HBW1.out HK.out.lt;have hP:=HP.out.below HBW1.out HP.out.lt;have ka:=hK.cell;have kp:=hP.cell;have la:=hK.lt;have lp:=hP.lt;have hz:=HBW1.out.size;clear hK hP
     go_wp2_with fail
     refine(c_iDec x.fA _ (HTB.out.below (yH HB.out HB.out.size HBW1.out)) GA.out.1 GA.out.2).mono ?_;rintro e w2 ⟨rfl,hb⟩
     have HBW2:=hide (yH HBW1.out hz hb);have HO2:=hide (HO1.out.all hb);clear hb ka kp la lp hz;have hK:=HK.out.below HBW2.out HK.out.lt;have hP:=HP.out.below HBW2.out HP.out.lt;have ka:=hK.cell;have kp:=hP.cell;have la:=hK.lt;have lp:=hP.lt;have hz:=HBW2.out.size;clear hK hP
     go_wp2_with (at_builtin;refine app1_str rfl _ _ rfl rfl HO2.out rfl (by simp) hz ?_;intro v3 w3 ho hg hv;have HO3:=hide ho;have HBW3:=hide (below_own HBW2.out HO2.out.2 hg (Nat.le_refl _) hz);clear ho hg hv ka kp la lp hz;have hK:=HK.out.below HBW3.out HK.out.lt;have hP:=HP.out.below HBW3.out HP.out.lt;have ka:=hK.cell;have kp:=hP.cell;have la:=hK.lt;have lp:=hP.lt;have hz:=HBW3.out.size;clear hK hP)
     refine(c_iDec x.fB _ (HTB.out.below (yH HB.out HB.out.size HBW3.out)) GB.out.1 GB.out.2).mono ?_;rintro e w4 ⟨rfl,hb⟩
     have HBW4:=hide (yH HBW3.out hz hb);have HO4:=hide (HO3.out.all hb);clear hb ka kp la lp hz;have hK:=HK.out.below HBW4.out HK.out.lt;have hP:=HP.out.below HBW4.out HP.out.lt;have ka:=hK.cell;have kp:=hP.cell;have la:=hK.lt;have lp:=hP.lt;have hz:=HBW4.out.size;clear hK hP
     go_wp2_with (at_builtin;refine app1_str rfl _ _ rfl rfl HO4.out rfl (by simp) hz ?_;intro v5 w5 ho hg hv;have HO5:=hide ho;have HBW5:=hide (below_own HBW4.out HO4.out.2 hg (Nat.le_refl _) hz);clear ho hg hv ka kp la lp hz;have hK:=HK.out.below HBW5.out HK.out.lt;have hP:=HP.out.below HBW5.out HP.out.lt;have ka:=hK.cell;have kp:=hP.cell;have la:=hK.lt;have lp:=hP.lt;have hz:=HBW5.out.size;clear hK hP)
     refine(HNU.out _ (Rd.below R3.out (yH HB.out HB.out.size HBW5.out)) (HTB.out.below (yH HB.out HB.out.size HBW5.out))).mono ?_;rintro e w6 ⟨rfl,hb⟩
     have HBW6:=hide (yH HBW5.out hz hb);have HO6:=hide (HO5.out.all hb);clear hb ka kp la lp hz;have hz:=HBW6.out.size
     have HJ:=hide (show Lib.join ((([nm]++ [decS x.fA]++ [decS x.fB]++ [⟨#[111,102]⟩,nt]):List ByteArray).map (fun s:ByteArray=>s.data.toList)) [32]=tx by rw[←HWS.out,join_sep];congr 1;unfold wordsF;rw[HKF.out,←HNM.out,if_pos A0.out,if_pos HBE.out,if_neg F0.out,←HNT.out];rfl)
     go_wp2_with (first|(at_builtin;refine appm_str rfl _ _ rfl rfl (HO6.out.all ((Below.refl _ _).alloc (Nat.le_refl _) _)) (ys:= [⟨#[111,102]⟩,nt]) rfl (str_rd2 _ _ _) (by simp) (by simp;omega) ?_;intro v7 w7 ho hg hv;have HO7:=hide ho;have HBW7:=hide (below_own (HBW6.out.alloc hz _) (HO6.out.all ((Below.refl _ _).alloc (Nat.le_refl _) _)).2 hg (Nat.le_refl _) (by simp;omega));clear ho hg hv hz)|(go_at_call 112;refine(c_join _ ([nm]++ [decS x.fA]++ [decS x.fB]++ [⟨#[111,102]⟩,nt]) _ _ HO7.out.rd (by simp) (by rw[show (⟨#[32]⟩:ByteArray).data.toList= [32] from rfl,HJ.out];exact Nat.le_trans HLN.out (by decide))).mono ?_;rintro e w9 ⟨rfl,hb9⟩;have HB9:=hide (yH HB.out HB.out.size (yH HBW7.out HBW7.out.size hb9));clear hb9))
     go_ret
     exact⟨ret_str (by rw[←HJ.out];rfl),HB9.out⟩
   ·
    have a1:decide (K.low≤K.high)=false:=decide_eq_false a0
    have A0:=hide a0;clear a0
    cases hB:K.hasB
    ·
     have HBE:=hide hB
     have hK:=HK.out.below HBW0.out HK.out.lt;have hP:=HP.out.below HBW0.out HP.out.lt;have ka:=hK.cell;have kp:=hP.cell;have la:=hK.lt;have lp:=hP.lt;have hz:=HBW0.out.size;clear hK hP
     refine hK1 _ _ ?_
     go_wp2_with fail
     refine(c_hasA _ _ _ _ _ _ _).mono ?_;rintro e w1 ⟨rfl,hb⟩;rw[a1]
     have HBW1:=hide (yH ((Below.refl W.heap.size W).alloc (Nat.le_refl _) _) (by simp) hb);have HO1:=hide ((str_own1 W nm).all hb);clear hb ka kp la lp hz
     have hK:=HK.out.below HBW1.out HK.out.lt;have hP:=HP.out.below HBW1.out HP.out.lt;have ka:=hK.cell;have kp:=hP.cell;have la:=hK.lt;have lp:=hP.lt;have hz:=HBW1.out.size;clear hK hP
     go_wp2_with fail
     refine(HNU.out _ (Rd.below R3.out (yH HB.out HB.out.size HBW1.out)) (HTB.out.below (yH HB.out HB.out.size HBW1.out))).mono ?_;rintro e w2 ⟨rfl,hb⟩
     have HBW2:=hide (yH HBW1.out hz hb);have HO2:=hide (HO1.out.all hb);clear hb ka kp la lp hz;have hz:=HBW2.out.size
     have HJ:=hide (show Lib.join ((([nm]++ [⟨#[111,102]⟩,nt]):List ByteArray).map (fun s:ByteArray=>s.data.toList)) [32]=tx by rw[←HWS.out,join_sep];congr 1;unfold wordsF;rw[HKF.out,←HNM.out,if_neg (show ¬ K.low≤K.high by have:=A0.out;omega),if_neg (show ¬ K.hasB=true by rw[HBE.out];simp),if_neg F0.out,←HNT.out];rfl)
     go_wp2_with (first|(at_builtin;refine appm_str rfl _ _ rfl rfl (HO2.out.all ((Below.refl _ _).alloc (Nat.le_refl _) _)) (ys:= [⟨#[111,102]⟩,nt]) rfl (str_rd2 _ _ _) (by simp) (by simp;omega) ?_;intro v3 w3 ho hg hv;have HO3:=hide ho;have HBW3:=hide (below_own (HBW2.out.alloc hz _) (HO2.out.all ((Below.refl _ _).alloc (Nat.le_refl _) _)).2 hg (Nat.le_refl _) (by simp;omega));clear ho hg hv hz)|(go_at_call 112;refine(c_join _ ([nm]++ [⟨#[111,102]⟩,nt]) _ _ HO3.out.rd (by simp) (by rw[show (⟨#[32]⟩:ByteArray).data.toList= [32] from rfl,HJ.out];exact Nat.le_trans HLN.out (by decide))).mono ?_;rintro e w9 ⟨rfl,hb9⟩;have HB9:=hide (yH HB.out HB.out.size (yH HBW3.out HBW3.out.size hb9));clear hb9))
     go_ret
     exact⟨ret_str (by rw[←HJ.out];rfl),HB9.out⟩
    ·
     have HBE:=hide hB
     have hK:=HK.out.below HBW0.out HK.out.lt;have hP:=HP.out.below HBW0.out HP.out.lt;have ka:=hK.cell;have kp:=hP.cell;have la:=hK.lt;have lp:=hP.lt;have hz:=HBW0.out.size;clear hK hP
     refine hK1 _ _ ?_
     go_wp2_with fail
     refine(c_hasA _ _ _ _ _ _ _).mono ?_;rintro e w1 ⟨rfl,hb⟩;rw[a1]
     have HBW1:=hide (yH ((Below.refl W.heap.size W).alloc (Nat.le_refl _) _) (by simp) hb);have HO1:=hide ((str_own1 W nm).all hb);clear hb ka kp la lp hz
     have hK:=HK.out.below HBW1.out HK.out.lt;have hP:=HP.out.below HBW1.out HP.out.lt;have ka:=hK.cell;have kp:=hP.cell;have la:=hK.lt;have lp:=hP.lt;have hz:=HBW1.out.size;clear hK hP
     go_wp2_with fail
     refine(c_iDec x.fB _ (HTB.out.below (yH HB.out HB.out.size HBW1.out)) GB.out.1 GB.out.2).mono ?_;rintro e w2 ⟨rfl,hb⟩
     have HBW2:=hide (yH HBW1.out hz hb);have HO2:=hide (HO1.out.all hb);clear hb ka kp la lp hz;have hK:=HK.out.below HBW2.out HK.out.lt;have hP:=HP.out.below HBW2.out HP.out.lt;have ka:=hK.cell;have kp:=hP.cell;have la:=hK.lt;have lp:=hP.lt;have hz:=HBW2.out.size;clear hK hP
     go_wp2_with (at_builtin;refine app1_str rfl _ _ rfl rfl HO2.out rfl (by simp) hz ?_;intro v3 w3 ho hg hv;have HO3:=hide ho;have HBW3:=hide (below_own HBW2.out HO2.out.2 hg (Nat.le_refl _) hz);clear ho hg hv ka kp la lp hz;have hK:=HK.out.below HBW3.out HK.out.lt;have hP:=HP.out.below HBW3.out HP.out.lt;have ka:=hK.cell;have kp:=hP.cell;have la:=hK.lt;have lp:=hP.lt;have hz:=HBW3.out.size;clear hK hP)
     refine(HNU.out _ (Rd.below R3.out (yH HB.out HB.out.size HBW3.out)) (HTB.out.below (yH HB.out HB.out.size HBW3.out))).mono ?_;rintro e w4 ⟨rfl,hb⟩
     have HBW4:=hide (yH HBW3.out hz hb);have HO4:=hide (HO3.out.all hb);clear hb ka kp la lp hz;have hz:=HBW4.out.size
     have HJ:=hide (show Lib.join ((([nm]++ [decS x.fB]++ [⟨#[111,102]⟩,nt]):List ByteArray).map (fun s:ByteArray=>s.data.toList)) [32]=tx by rw[←HWS.out,join_sep];congr 1;unfold wordsF;rw[HKF.out,←HNM.out,if_neg (show ¬ K.low≤K.high by have:=A0.out;omega),if_pos HBE.out,if_neg F0.out,←HNT.out];rfl)
     go_wp2_with (first|(at_builtin;refine appm_str rfl _ _ rfl rfl (HO4.out.all ((Below.refl _ _).alloc (Nat.le_refl _) _)) (ys:= [⟨#[111,102]⟩,nt]) rfl (str_rd2 _ _ _) (by simp) (by simp;omega) ?_;intro v5 w5 ho hg hv;have HO5:=hide ho;have HBW5:=hide (below_own (HBW4.out.alloc hz _) (HO4.out.all ((Below.refl _ _).alloc (Nat.le_refl _) _)).2 hg (Nat.le_refl _) (by simp;omega));clear ho hg hv hz)|(go_at_call 112;refine(c_join _ ([nm]++ [decS x.fB]++ [⟨#[111,102]⟩,nt]) _ _ HO5.out.rd (by simp) (by rw[show (⟨#[32]⟩:ByteArray).data.toList= [32] from rfl,HJ.out];exact Nat.le_trans HLN.out (by decide))).mono ?_;rintro e w9 ⟨rfl,hb9⟩;have HB9:=hide (yH HB.out HB.out.size (yH HBW5.out HBW5.out.size hb9));clear hb9))
     go_ret
     exact⟨ret_str (by rw[←HJ.out];rfl),HB9.out⟩
 go_region_with (go_at_call 152;refine(c_kinds _).mono ?_;rintro e w' ⟨rfl,rfl⟩)
 all_goals first|(exact REST _ _ _ (((HK0.out.alloc _).alloc _).drewN 1) (Bk.drewN (by have:=Bk.born ((w.alloc (.cells #[.int .i64 x.zC,.int .i64 x.fA,.int .i64 x.fB,(.slice va3 x.zG.length vc3)] 160)).alloc (.cells kndCells 204)) 204 #[.string nm,.int .i64 K.inputs,.int .i64 K.low,.int .i64 K.high,.bool K.linear,.bool K.hasB];simpa using this) 1) (((HB0.out.alloc (by first|(simp;done)|(simp;omega)|omega) _).alloc (by first|(simp;done)|(simp;omega)|omega) _).drew))|(exact REST _ _ _ (((HK0.out.alloc _).alloc _).drewN 1) (Bk.drewN (by have:=(Bk.born (w.alloc (.cells #[.int .i64 x.zC,.int .i64 x.fA,.int .i64 x.fB,(.slice va3 x.zG.length vc3)] 160)) 204 #[.string nm,.int .i64 K.inputs,.int .i64 K.low,.int .i64 K.high,.bool K.linear,.bool K.hasB]).alloc (.cells kndCells 204);simpa using this) 1) (((HB0.out.alloc (by first|(simp;done)|(simp;omega)|omega) _).alloc (by first|(simp;done)|(simp;omega)|omega) _).drew))
end Go.Proofs.YtbgedljbgkcpiaaGreatDoor
