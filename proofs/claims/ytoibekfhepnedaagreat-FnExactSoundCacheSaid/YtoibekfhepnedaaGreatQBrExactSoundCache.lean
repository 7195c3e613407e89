/- Contracts: SoundCache, both sides. The words of the translation's head, without running through its whole list of roots; and the closed facts of a row out of them. The law SoundCache. -/
import Derived.Test.YtoibekfhepnedaaGreatQBqExactSoundCache
import Derived.Test.YtoibekfhepnedaaGreatQAuExactSoundCache
import Derived.Test.YtoibekfhepnedaaGreatQAvExactSoundCache
import Derived.Test.YtoibekfhepnedaaGreatRows
import Derived.ProofKit
import Derived.Test.YtoibekfhepnedaaGreatQAgExactSoundCache
import Derived.Deep.RegionHeld3
set_option linter.unusedVariables false
set_option linter.unusedSimpArgs false
set_option maxHeartbeats 8000000
set_option maxRecDepth 100000
section
namespace Go.Proofs.YtoibekfhepnedaaGreat
open Go.RowKit
/-- All blocks that are not dirty are those of the mix. -/
structure SoundC (c:GCache):Prop where
 ok:CacheOk c
 each:Each c.zY fun i v=>v=(mixF c.zE).getD i 0∨(i:Int) / 16 ∈ c.zW
theorem c_iSoundCache (x:GCache) (cs:List Value) (w:World) (hg:x.good) (hs:x.zE.small) (h:T.rds w x.fs cs):Calls Tryz.prog 22 #[.agg cs.toArray] w fun e w'=>e= .returned (.bool (tf (SoundC x)))∧Below w.heap.size w w':=by
 obtain⟨v1,v2,v3,v4,v5,v6,v7,rfl,h1,h2,h3,h4,h5,h6,h7⟩:=GCache.yN h
 clear h
 have R1:=hide h1;obtain⟨va1,vc1,rfl,vl1,vm1,vx1⟩:=T.yM h1
 have HX1:=hide vx1;clear vx1 h1
 have R2:=hide h2;obtain⟨va2,vc2,rfl,vl2,vm2,vx2⟩:=T.yM h2
 have HX2:=hide vx2;clear vx2 h2
 have h3i:=T.yR.1 h3;obtain⟨va3,vc3,rfl,vl3,vm3,vx3⟩:=h3i.open_
 have R3:=hide h3i;have HX3:=hide vx3;clear vx3 h3 h3i
 have R4:=hide h4;obtain⟨va4,vc4,rfl,vl4,vm4,vx4⟩:=T.yM h4
 have HX4:=hide vx4;clear vx4 h4
 have R5:=hide h5;obtain⟨va5,vc5,rfl,vl5,vm5,vx5⟩:=T.yM h5
 have HX5:=hide vx5;clear vx5 h5
 have h6i:=T.yR.1 h6;obtain⟨va6,vc6,rfl,vl6,vm6,vx6⟩:=h6i.open_
 have R6:=hide h6i;have HX6:=hide vx6;clear vx6 h6 h6i
 have h7i:=T.yR.1 h7;obtain⟨va7,vc7,rfl,vl7,vm7,vx7⟩:=h7i.open_
 have R7:=hide h7i;have HX7:=hide vx7;clear vx7 h7 h7i
 have HB0:=hide (show Below w.heap.size w (w.alloc (.cells #[.int .i64 x.zE.zG,(.slice va1 x.zE.zN.length vc1),(.slice va2 x.zE.zO.length vc2),(.slice va3 x.zE.zS.length vc3),(.slice va4 x.zE.zP.length vc4),(.slice va5 x.zE.zF.zC.length vc5),(.slice va6 x.zY.length vc6),(.slice va7 x.zW.length vc7)] 65)) from(Below.refl _ _).alloc (Nat.le_refl _) _)
 have HK0:=hide (Bk.born w 65 #[.int .i64 x.zE.zG,(.slice va1 x.zE.zN.length vc1),(.slice va2 x.zE.zO.length vc2),(.slice va3 x.zE.zS.length vc3),(.slice va4 x.zE.zP.length vc4),(.slice va5 x.zE.zF.zC.length vc5),(.slice va6 x.zY.length vc6),(.slice va7 x.zW.length vc7)])
 have HGS:=hide (show x.zE.good from⟨hg.1,hg.2.1,hg.2.2.1,hg.2.2.2.1,hg.2.2.2.2.1,hg.2.2.2.2.2.1⟩);clear hg
 go_enter Tryz.func22,Tryz.ntmps22
 go_wp2_with fail
 refine(c_isCache x _ _ hs (GCache.rd_mk (T.yE R1.out HB0.out) (T.yE R2.out HB0.out) (T.yR.2 (Rd.below R3.out HB0.out)) (T.yE R4.out HB0.out) (T.yE R5.out HB0.out) (T.yR.2 (Rd.below R6.out HB0.out)) (T.yR.2 (Rd.below R7.out HB0.out)))).mono ?_;rintro e w1 ⟨rfl,hd⟩
 have hb:Below (w.alloc (.cells #[.int .i64 x.zE.zG,(.slice va1 x.zE.zN.length vc1),(.slice va2 x.zE.zO.length vc2),(.slice va3 x.zE.zS.length vc3),(.slice va4 x.zE.zP.length vc4),(.slice va5 x.zE.zF.zC.length vc5),(.slice va6 x.zY.length vc6),(.slice va7 x.zW.length vc7)] 65)).heap.size (w.alloc (.cells #[.int .i64 x.zE.zG,(.slice va1 x.zE.zN.length vc1),(.slice va2 x.zE.zO.length vc2),(.slice va3 x.zE.zS.length vc3),(.slice va4 x.zE.zP.length vc4),(.slice va5 x.zE.zF.zC.length vc5),(.slice va6 x.zY.length vc6),(.slice va7 x.zW.length vc7)] 65)) w1:=by first|exact hd|exact hd.to_below _|exact hd ▸ Below.refl _ _
 have HK1:=hide (HK0.out.below hb HK0.out.lt);have HB1:=hide (yI HB0.out HB0.out.size hb);clear hb hd;have ka:=HK1.out.cell;have la:=HK1.out.lt
 by_cases q1:CacheOk x
 rotate_left
 ·
  rw[yW q1]
  go_wp2
  go_ret
  exact⟨yH (yW fun h=>q1 h.ok).symm,HB1.out⟩
 rw[yX q1];have Q1:=hide q1;clear q1
 have i1:=yZ.1 Q1.out.session.length;have hml:=Q1.out.length
 go_wp2_with fail
 refine(c_mix x.zE _ _ Q1.out.session HGS.out (GSession.rd_mk (T.yE R1.out HB1.out) (T.yE R2.out HB1.out) (T.yR.2 (Rd.below R3.out HB1.out)) (T.yE R4.out HB1.out) (T.yE R5.out HB1.out))).mono ?_;rintro e w2 ⟨vm,rfl,ho,hd⟩
 have HML:=hide (show (mixF x.zE).length=x.zY.length by rw[length_mixF];omega)
 obtain⟨mA,mc,hvm,ml,mm,mx⟩:=(OwI.rd ho).open_
 rw[HML.out] at hvm;subst hvm;have HMX:=hide mx;clear ho mx ml
 have hb:Below w1.heap.size w1 w2:=by first|exact hd|exact hd.to_below _|exact hd ▸ Below.refl _ _
 have HK2:=hide (HK1.out.below hb HK1.out.lt);have HB2:=hide (yI HB1.out HB1.out.size hb);clear hb hd ka la;have ka:=HK2.out.cell;have la:=HK2.out.lt
 have HYES:=hide (fun(h:Each x.zY (fun i v=>v=(mixF x.zE).getD i 0∨(i:Int) / 16 ∈ x.zW))=>(yH (yX (SoundC.mk Q1.out h)).symm:Ending.returned (.bool true)= .returned (.bool (tf (SoundC x)))))
 have HNO:=hide (fun(h: ¬ SoundC x)=>(yH (yW h).symm:Ending.returned (.bool false)= .returned (.bool (tf (SoundC x)))))
 have hlen0:(x.zY.length:Int)=x.zE.zG:=hml;have hmb:x.zY.length≤1000:=by omega
 clear hml hlen0
 go_wp2
 clear ka la
 go_loopw [12] (fun i wr=> ∃ k:Nat,k≤x.zY.length∧i= .int .i64 (k:Int)∧Upto x.zY (fun i v=>v=(mixF x.zE).getD i 0∨(i:Int) / 16 ∈ x.zW) k∧Below w2.heap.size w2 wr) (fun i _=>x.zY.length - (intOf i).toNat)
 case atStart=>exact⟨0,Nat.zero_le _,rfl,Upto.zero,Below.refl _ _⟩
 case round=>
  obtain⟨k,hk,rfl,hu,hbw⟩:=hrel
  have HU:=hide hu;have HW:=hide hbw;have HB:=hide (yI HB2.out HB2.out.size hbw);have HK:=hide (HK2.out.below hbw HK2.out.lt);clear hu hbw
  have ka:=HK.out.cell;have la:=HK.out.lt
  have e2:IntKind.i64.wrap ((k:Int)+1)=(k:Int)+1:=IntWalk.i64_in _ (by omega)
  by_cases hlt:k<x.zY.length
  rotate_left
  ·
   obtain rfl:k=x.zY.length:=by omega
   have HE:=hide (HU.out.all (Nat.le_refl _))
   go_wp2
   go_ret
   exact⟨HYES.out HE.out,HB.out⟩
  have hlm:k<(mixF x.zE).length:=by rw[HML.out];exact hlt
  have hgm:=List.getElem?_eq_getElem hlm;have hgx:=List.getElem?_eq_getElem hlt
  obtain⟨bM,oM,hAM,hbM,hcM⟩:=HMX.out k _ hgm
  obtain⟨bX,oX,hAX,hbX,hcX⟩:=HX6.out k _ hgx
  subst hAM;subst hAX
  have HGD:=hide (show (mixF x.zE).getD k 0=(mixF x.zE)[k] by rw[List.getD_eq_getElem?_getD,hgm];rfl)
  generalize (mixF x.zE)[k]=am at *;generalize x.zY[k]=ax at *
  have HGX:=hide hgx;clear hgm hgx
  have cM:=(HW.out.cell hbM).trans hcM;have cX:=(HB.out.cell hbX).trans hcX;have lM:bM<wr.heap.size:=Nat.lt_of_lt_of_le hbM HW.out.size;have lX:bX<wr.heap.size:=Nat.lt_of_lt_of_le hbX HB.out.size;clear hcM hcX
  have hdv:(k:Int).tdiv 16=(k:Int) / 16:=Int.tdiv_eq_ediv_of_nonneg (by omega)
  by_cases e:ax=am
  ·
   have q6:(ax != am)=false:=bneI_f e
   have HEQ:=hide e;clear e
   go_wp2
   go_roundw
   case rel=>exact⟨k+1,by omega,by go_num,HU.out.step HGX.out (.inl (by rw[HGD.out];exact HEQ.out)),HW.out⟩
   case measure=>simp[intOf];omega
  have q6:(ax != am)=true:=bneI_t e
  have HNE:=hide e;clear e
  cases q5:decide ((k:Int) / 16 ∈ x.zW)
  ·
   have Q5:=hide (of_decide_eq_false q5)
   go_wp2_with (go_at_call 62;refine(c_has _ x.zW _ _ (Rd.below R7.out HB.out)).mono ?_;rintro e w' ⟨rfl,rfl⟩;rw[q5])
   go_ret
   exact⟨HNO.out (fun h=>by rcases h.each k _ HGX.out with h1|h1;(· exact HNE.out (h1.trans HGD.out));(· exact Q5.out h1)),HB.out⟩
  have Q5:=hide (of_decide_eq_true q5)
  go_wp2_with (go_at_call 62;refine(c_has _ x.zW _ _ (Rd.below R7.out HB.out)).mono ?_;rintro e w' ⟨rfl,rfl⟩;rw[q5])
  go_roundw
  case rel=>exact⟨k+1,by omega,by go_num,HU.out.step HGX.out (.inr Q5.out),HW.out⟩
  case measure=>simp[intOf];omega
theorem c_sSoundCache (x:GCache) (cs:List Value) (w:World) (hg:x.good) (hs:x.zE.small) (h:T.rds w x.fs cs):Calls Tryz.prog 20 #[.agg cs.toArray] w fun e w'=>e= .returned (.bool (tf (SoundC x)))∧Below w.heap.size w w':=by
 obtain⟨v1,v2,v3,v4,v5,v6,v7,rfl,h1,h2,h3,h4,h5,h6,h7⟩:=GCache.yN h
 clear h
 have R1:=hide h1;obtain⟨va1,vc1,rfl,vl1,vm1,vx1⟩:=T.yM h1
 have HX1:=hide vx1;clear vx1 h1
 have R2:=hide h2;obtain⟨va2,vc2,rfl,vl2,vm2,vx2⟩:=T.yM h2
 have HX2:=hide vx2;clear vx2 h2
 have h3i:=T.yR.1 h3;obtain⟨va3,vc3,rfl,vl3,vm3,vx3⟩:=h3i.open_
 have R3:=hide h3i;have HX3:=hide vx3;clear vx3 h3 h3i
 have R4:=hide h4;obtain⟨va4,vc4,rfl,vl4,vm4,vx4⟩:=T.yM h4
 have HX4:=hide vx4;clear vx4 h4
 have R5:=hide h5;obtain⟨va5,vc5,rfl,vl5,vm5,vx5⟩:=T.yM h5
 have HX5:=hide vx5;clear vx5 h5
 have h6i:=T.yR.1 h6;obtain⟨va6,vc6,rfl,vl6,vm6,vx6⟩:=h6i.open_
 have R6:=hide h6i;have HX6:=hide vx6;clear vx6 h6 h6i
 have h7i:=T.yR.1 h7;obtain⟨va7,vc7,rfl,vl7,vm7,vx7⟩:=h7i.open_
 have R7:=hide h7i;have HX7:=hide vx7;clear vx7 h7 h7i
 have HB0:=hide (show Below w.heap.size w (w.alloc (.cells #[.int .i64 x.zE.zG,(.slice va1 x.zE.zN.length vc1),(.slice va2 x.zE.zO.length vc2),(.slice va3 x.zE.zS.length vc3),(.slice va4 x.zE.zP.length vc4),(.slice va5 x.zE.zF.zC.length vc5),(.slice va6 x.zY.length vc6),(.slice va7 x.zW.length vc7)] 65)) from(Below.refl _ _).alloc (Nat.le_refl _) _)
 have HK0:=hide (Bk.born w 65 #[.int .i64 x.zE.zG,(.slice va1 x.zE.zN.length vc1),(.slice va2 x.zE.zO.length vc2),(.slice va3 x.zE.zS.length vc3),(.slice va4 x.zE.zP.length vc4),(.slice va5 x.zE.zF.zC.length vc5),(.slice va6 x.zY.length vc6),(.slice va7 x.zW.length vc7)])
 have HGS:=hide (show x.zE.good from⟨hg.1,hg.2.1,hg.2.2.1,hg.2.2.2.1,hg.2.2.2.2.1,hg.2.2.2.2.2.1⟩);clear hg
 go_enter Tryz.func20,Tryz.ntmps20
 go_wp2_with fail
 refine(c_l31Cache x _ _ _ hs (T.at_bk HK0.out (GCache.rd_mk (T.yE R1.out HB0.out) (T.yE R2.out HB0.out) (T.yR.2 (Rd.below R3.out HB0.out)) (T.yE R4.out HB0.out) (T.yE R5.out HB0.out) (T.yR.2 (Rd.below R6.out HB0.out)) (T.yR.2 (Rd.below R7.out HB0.out))))).mono ?_;rintro e w1 ⟨rfl,hd⟩
 have hb:Below (w.alloc (.cells #[.int .i64 x.zE.zG,(.slice va1 x.zE.zN.length vc1),(.slice va2 x.zE.zO.length vc2),(.slice va3 x.zE.zS.length vc3),(.slice va4 x.zE.zP.length vc4),(.slice va5 x.zE.zF.zC.length vc5),(.slice va6 x.zY.length vc6),(.slice va7 x.zW.length vc7)] 65)).heap.size (w.alloc (.cells #[.int .i64 x.zE.zG,(.slice va1 x.zE.zN.length vc1),(.slice va2 x.zE.zO.length vc2),(.slice va3 x.zE.zS.length vc3),(.slice va4 x.zE.zP.length vc4),(.slice va5 x.zE.zF.zC.length vc5),(.slice va6 x.zY.length vc6),(.slice va7 x.zW.length vc7)] 65)) w1:=by first|exact hd|exact hd.to_below _|exact hd ▸ Below.refl _ _
 have HK1:=hide (HK0.out.below hb HK0.out.lt);have HB1:=hide (yI HB0.out HB0.out.size hb);clear hb hd;have ka:=HK1.out.cell;have la:=HK1.out.lt
 by_cases q1:CacheOk x
 rotate_left
 ·
  rw[yW q1]
  go_wp2
  go_ret
  exact⟨yH (yW fun h=>q1 h.ok).symm,HB1.out⟩
 rw[yX q1];have Q1:=hide q1;clear q1
 have i1:=yZ.1 Q1.out.session.length;have hml:=Q1.out.length
 go_wp2_with fail
 refine(c_l27Mix x.zE _ _ _ Q1.out.session HGS.out (T.at_sub [] [.int .i64 x.zE.zG,(.slice va1 x.zE.zN.length vc1),(.slice va2 x.zE.zO.length vc2),(.slice va3 x.zE.zS.length vc3),(.slice va4 x.zE.zP.length vc4),(.slice va5 x.zE.zF.zC.length vc5)] [(.slice va6 x.zY.length vc6),(.slice va7 x.zW.length vc7)] HK1.out.lt (fun j u h=>by rw[Nat.zero_add];exact(HK1.out.cell j).trans (by simpa using h)) (GSession.rd_mk (T.yE R1.out HB1.out) (T.yE R2.out HB1.out) (T.yR.2 (Rd.below R3.out HB1.out)) (T.yE R4.out HB1.out) (T.yE R5.out HB1.out)))).mono ?_;rintro e w2 ⟨vm,rfl,ho,hd⟩
 have HML:=hide (show (mixF x.zE).length=x.zY.length by rw[length_mixF];omega)
 obtain⟨mA,mc,hvm,ml,mm,mx⟩:=(OwI.rd ho).open_
 rw[HML.out] at hvm;subst hvm;have HMX:=hide mx;clear ho mx ml
 have hb:Below w1.heap.size w1 w2:=by first|exact hd|exact hd.to_below _|exact hd ▸ Below.refl _ _
 have HK2:=hide (HK1.out.below hb HK1.out.lt);have HB2:=hide (yI HB1.out HB1.out.size hb);clear hb hd ka la;have ka:=HK2.out.cell;have la:=HK2.out.lt
 have HYES:=hide (fun(h:Each x.zY (fun i v=>v=(mixF x.zE).getD i 0∨(i:Int) / 16 ∈ x.zW))=>(yH (yX (SoundC.mk Q1.out h)).symm:Ending.returned (.bool true)= .returned (.bool (tf (SoundC x)))))
 have HNO:=hide (fun(h: ¬ SoundC x)=>(yH (yW h).symm:Ending.returned (.bool false)= .returned (.bool (tf (SoundC x)))))
 have hlen0:(x.zY.length:Int)=x.zE.zG:=hml;have hmb:x.zY.length≤1000:=by omega
 have HLQ:=hide hlen0;clear hml hlen0
 go_wp2
 clear ka la
 go_loopw [4] (fun i wr=> ∃ k:Nat,k≤x.zY.length∧i= .int .i64 (k:Int)∧Upto x.zY (fun i v=>v=(mixF x.zE).getD i 0∨(i:Int) / 16 ∈ x.zW) k∧Below w2.heap.size w2 wr) (fun i _=>x.zY.length - (intOf i).toNat)
 case atStart=>exact⟨0,Nat.zero_le _,rfl,Upto.zero,Below.refl _ _⟩
 case round=>
  obtain⟨k,hk,rfl,hu,hbw⟩:=hrel
  have HU:=hide hu;have HW:=hide hbw;have HB:=hide (yI HB2.out HB2.out.size hbw);have HK:=hide (HK2.out.below hbw HK2.out.lt);clear hu hbw
  have ka:=HK.out.cell;have la:=HK.out.lt
  have e2:IntKind.i64.wrap ((k:Int)+1)=(k:Int)+1:=IntWalk.i64_in _ (by omega)
  by_cases hlt:k<x.zY.length
  rotate_left
  ·
   obtain rfl:k=x.zY.length:=by omega
   have HE:=hide (HU.out.all (Nat.le_refl _))
   have hnl: ¬ ((x.zY.length:Int)<x.zE.zG):=by have:=HLQ.out;omega
   go_wp2
   go_ret
   exact⟨HYES.out HE.out,HB.out⟩
  have hnl:(k:Int)<x.zE.zG:=by have:=HLQ.out;omega
  have hlm:k<(mixF x.zE).length:=by rw[HML.out];exact hlt
  have hgm:=List.getElem?_eq_getElem hlm;have hgx:=List.getElem?_eq_getElem hlt
  obtain⟨bM,oM,hAM,hbM,hcM⟩:=HMX.out k _ hgm
  obtain⟨bX,oX,hAX,hbX,hcX⟩:=HX6.out k _ hgx
  subst hAM;subst hAX
  have HGD:=hide (show (mixF x.zE).getD k 0=(mixF x.zE)[k] by rw[List.getD_eq_getElem?_getD,hgm];rfl)
  generalize (mixF x.zE)[k]=am at *;generalize x.zY[k]=ax at *
  have HGX:=hide hgx;clear hgm hgx
  have cM:=(HW.out.cell hbM).trans hcM;have cX:=(HB.out.cell hbX).trans hcX;have lM:bM<wr.heap.size:=Nat.lt_of_lt_of_le hbM HW.out.size;have lX:bX<wr.heap.size:=Nat.lt_of_lt_of_le hbX HB.out.size;clear hcM hcX
  have hdv:(k:Int).tdiv 16=(k:Int) / 16:=Int.tdiv_eq_ediv_of_nonneg (by omega)
  by_cases e:ax=am
  ·
   have q6:(ax != am)=false:=bneI_f e
   have HEQ:=hide e;clear e
   go_wp2
   have g0:=xB HK.out;have g1:=yF cM;have g2:=yF cX
   refine xA (by kernel_rfl) (by kernel_rfl) ?_
   repeat(first|go_big_quiet_skip|(go_big_quiet_want;go_big_quiet_op;first|go_big_quiet_on|(apply Exists.intro;refine⟨fun _=>?_,?_⟩;(· (fail));go_big_quiet_on)))
   refine wpQuiet_nil ?_
   rintro w3 ⟨uu,rfl⟩
   have hb9:=yG wr uu
   generalize bel wr uu=w3 at *
   have HB9:=hide (yI HB.out HB.out.size hb9);have HW9:=hide (yI HW.out HW.out.size hb9);clear hb9 g0 g1 g2
   go_wp2
   go_roundw
   case rel=>exact⟨k+1,by omega,by go_num,HU.out.step HGX.out (.inl (by rw[HGD.out];exact HEQ.out)),HW9.out⟩
   case measure=>simp[intOf];omega
  have q6:(ax != am)=true:=bneI_t e
  have HNE:=hide e;clear e
  cases q5:decide ((k:Int) / 16 ∈ x.zW)
  ·
   have Q5:=hide (of_decide_eq_false q5)
   have HASC:=hide (fun(W:World) (h:RdI W (.slice va7 x.zW.length vc7) x.zW)=>(by have:=c_l00Has _ x.zW ((k:Int) / 16) W h;rw[q5] at this;exact this:Calls Tryz.prog 58 #[.slice va7 x.zW.length vc7,.int .i64 ((k:Int) / 16)] W fun e w'=>e= .returned (.bool false)∧W=w'));clear q5
   go_wp2
   have g0:=xB HK.out;have g1:=yF cM;have g2:=yF cX
   refine xA (by kernel_rfl) (by kernel_rfl) ?_
   repeat(first|go_big_quiet_skip|(go_big_quiet_want;go_big_quiet_op;first|go_big_quiet_on|(apply Exists.intro;refine⟨fun _=>?_,?_⟩;(· ((go_at_call 58;exact Calls.yJ (HASC.out _ (Rd.below R7.out (yI HB.out HB.out.size (yG wr _)))))));go_big_quiet_on)))
   refine wpQuiet_nil ?_
   rintro w3 ⟨uu,rfl⟩
   have hb9:=yG wr uu
   generalize bel wr uu=w3 at *
   have HB9:=hide (yI HB.out HB.out.size hb9);have HW9:=hide (yI HW.out HW.out.size hb9);clear hb9 g0 g1 g2
   go_wp2
   go_ret
   exact⟨HNO.out (fun h=>by rcases h.each k _ HGX.out with h1|h1;(· exact HNE.out (h1.trans HGD.out));(· exact Q5.out h1)),HB9.out⟩
  have Q5:=hide (of_decide_eq_true q5)
  have HASC:=hide (fun(W:World) (h:RdI W (.slice va7 x.zW.length vc7) x.zW)=>(by have:=c_l00Has _ x.zW ((k:Int) / 16) W h;rw[q5] at this;exact this:Calls Tryz.prog 58 #[.slice va7 x.zW.length vc7,.int .i64 ((k:Int) / 16)] W fun e w'=>e= .returned (.bool true)∧W=w'));clear q5
  go_wp2
  have g0:=xB HK.out;have g1:=yF cM;have g2:=yF cX
  refine xA (by kernel_rfl) (by kernel_rfl) ?_
  repeat(first|go_big_quiet_skip|(go_big_quiet_want;go_big_quiet_op;first|go_big_quiet_on|(apply Exists.intro;refine⟨fun _=>?_,?_⟩;(· ((go_at_call 58;exact Calls.yJ (HASC.out _ (Rd.below R7.out (yI HB.out HB.out.size (yG wr _)))))));go_big_quiet_on)))
  refine wpQuiet_nil ?_
  rintro w3 ⟨uu,rfl⟩
  have hb9:=yG wr uu
  generalize bel wr uu=w3 at *
  have HB9:=hide (yI HB.out HB.out.size hb9);have HW9:=hide (yI HW.out HW.out.size hb9);clear hb9 g0 g1 g2
  go_wp2
  go_roundw
  case rel=>exact⟨k+1,by omega,by go_num,HU.out.step HGX.out (.inr Q5.out),HW9.out⟩
  case measure=>simp[intOf];omega
end Go.Proofs.YtoibekfhepnedaaGreat
end
section
namespace Go.Proofs.YtoibekfhepnedaaGreat
open Go.ChangeShapes
theorem words_pre: ∀ (a r:List Char),(a.all fun c=>c != Char.ofNat 32)=true→wordsSigns (a++Char.ofNat 32 :: r)=a :: wordsSigns r
 | [],r,_=>rfl
 |c :: a,r,h=>by
  simp only[List.all_cons,Bool.and_eq_true,bne_iff_ne,ne_eq] at h
  have ih:=words_pre a r (by simpa using h.2)
  rw[List.cons_append]
  conv=>lhs;unfold wordsSigns
  split
  ·rename_i e;cases e
  ·rename_i e
   injection e with e1 _
   exact absurd e1 h.1
  ·rename_i e
   injection e with e1 e2
   subst e1 e2
   rw[ih]
theorem head_list: ∃ l,Tryz.prog.initOrder=String.ofList l∧("harness e82b0b89ba27765a464d549177c32b2184cc887a43bee21ac0e0d4633859cc82 cut ".toList).isPrefixOf l=true:=by
 refine⟨_,rfl,?_⟩
 kernel_rfl
theorem head_words: ∃ X,wordsSigns Tryz.prog.initOrder.toList= "harness".toList :: "e82b0b89ba27765a464d549177c32b2184cc887a43bee21ac0e0d4633859cc82".toList :: "cut".toList :: X:=by
 obtain⟨l,hl,hp⟩:=head_list
 obtain⟨r,hr⟩:=List.isPrefixOf_iff_prefix.1 hp
 have e: "harness e82b0b89ba27765a464d549177c32b2184cc887a43bee21ac0e0d4633859cc82 cut ".toList= "harness".toList++Char.ofNat 32 :: ("e82b0b89ba27765a464d549177c32b2184cc887a43bee21ac0e0d4633859cc82".toList++Char.ofNat 32 :: ("cut".toList++ [Char.ofNat 32])):=by kernel_rfl
 refine⟨wordsSigns r,?_⟩
 rw[hl,String.toList_ofList,←hr,e]
 simp only[List.append_assoc,List.cons_append,List.nil_append]
 rw[words_pre _ _ (by kernel_rfl),words_pre _ _ (by kernel_rfl),words_pre _ _ (by kernel_rfl)]
theorem behind: ∃ X,behindMainWord (wordsSigns Tryz.prog.initOrder.toList)= "cut".toList :: X:=by
 obtain⟨X,hX⟩:=head_words
 refine⟨X,?_⟩
 rw[hX]
 have e1:("harness".toList == "harness".toList || "harness".toList == "ownmain".toList)=true:=by kernel_rfl
 have e2:isSumSigns "e82b0b89ba27765a464d549177c32b2184cc887a43bee21ac0e0d4633859cc82".toList=true:=by kernel_rfl
 unfold behindMainWord
 dsimp only
 rw[e1,e2];rfl
section
variable {P:Program} {X:List (List Char)}
theorem make_of (hX:behindMainWord (wordsSigns P.initOrder.toList)= "cut".toList :: X):P.make=some .cut:=by
 unfold Program.make
 rw[hX];rfl
theorem lifts_of (X:List (List Char)):stripLifts liftWords ("cut".toList :: X)=([], "cut".toList :: X):=rfl
theorem headLifts_of (hX:behindMainWord (wordsSigns P.initOrder.toList)= "cut".toList :: X):P.headLifts= []:=by
 unfold Program.headLifts
 rw[hX,lifts_of];rfl
theorem liftsFinal_of (hX:behindMainWord (wordsSigns P.initOrder.toList)= "cut".toList :: X):P.liftsFinal=false:=by
 unfold Program.liftsFinal
 rw[hX,headLifts_of hX];rfl
theorem mayEnter_of (hX:behindMainWord (wordsSigns P.initOrder.toList)= "cut".toList :: X) (h1:P.laysLater=false) (h2:P.bearsReflect=false) (h3:P.doorFits []=true):P.mayEnter=true:=by
 unfold Program.mayEnter
 rw[hX]
 dsimp only
 rw[lifts_of,h1,h2,h3]
 rfl
end
theorem make_is:Tryz.prog.make=some .cut:=by
 obtain⟨X,hX⟩:=behind
 exact make_of hX
theorem liftsFinal_is:Tryz.prog.liftsFinal=false:=by
 obtain⟨X,hX⟩:=behind
 exact liftsFinal_of hX
theorem mayEnter_is:Tryz.prog.mayEnter=true:=by
 obtain⟨X,hX⟩:=behind
 exact mayEnter_of hX (by kernel_rfl) (by kernel_rfl) (by kernel_rfl)
theorem laidOut_is:laidOutB Tryz.prog=true:=by kernel_rfl
theorem own_is:ownKnob Tryz.prog.godebug=none:=by kernel_rfl
end Go.Proofs.YtoibekfhepnedaaGreat
end
section
namespace Go.Proofs.YtoibekfhepnedaaGreat
open Go.RowKit
theorem b_szCache (x:GCache) (cs:List Value) (n:Int) (w:World) (hn:0≤n) (hm:n≤1048576) (hg:x.good) (h:T.rds w x.fs cs):Calls Tryz.prog 19 #[.agg cs.toArray,.int .i64 n] w fun e w'=> ∃ m:Int,e= .returned (.int .i64 m)∧ -1≤m∧m≤n∧(0≤m→x.small)∧Below w.heap.size w w':=by
 obtain⟨v1,v2,v3,v4,v5,v6,v7,rfl,h1,h2,h3,h4,h5,h6,h7⟩:=GCache.yN h
 exact c_szCache x _ _ _ _ _ _ _ n w hn hm hg h1 h2 h3 h4 h5 h6 h7
theorem law_SoundCache (x:GCache) (cs:List Value) (w:World) (hx:T.rds w x.fs cs) (gx:x.good):Calls Tryz.prog 5 #[.agg cs.toArray] w fun e w'=>e= .returned (.bool true)∧Below w.heap.size w w':=by
 have HX:=hide hx
 obtain⟨v1,v2,v3,v4,v5,v6,v7,rfl,vr1,vr2,vr3,vr4,vr5,vr6,vr7⟩:=GCache.yN hx
 obtain⟨va1,vl1,vc1,rfl⟩:=T.yT vr1;clear vr1
 obtain⟨va2,vl2,vc2,rfl⟩:=T.yT vr2;clear vr2
 obtain⟨va3,vl3,vc3,rfl⟩:=T.yT vr3;clear vr3
 obtain⟨va4,vl4,vc4,rfl⟩:=T.yT vr4;clear vr4
 obtain⟨va5,vl5,vc5,rfl⟩:=T.yT vr5;clear vr5
 obtain⟨va6,vl6,vc6,rfl⟩:=T.yT vr6;clear vr6
 obtain⟨va7,vl7,vc7,rfl⟩:=T.yT vr7;clear vr7
 clear hx
 have H0:=hide (show Below w.heap.size w (w.alloc (.cells #[.int .i64 x.zE.zG,(.slice va1 vl1 vc1),(.slice va2 vl2 vc2),(.slice va3 vl3 vc3),(.slice va4 vl4 vc4),(.slice va5 vl5 vc5),(.slice va6 vl6 vc6),(.slice va7 vl7 vc7)] 61)) from(Below.refl _ _).alloc (Nat.le_refl _) _)
 have K0:=hide (Bk.born w 61 #[.int .i64 x.zE.zG,(.slice va1 vl1 vc1),(.slice va2 vl2 vc2),(.slice va3 vl3 vc3),(.slice va4 vl4 vc4),(.slice va5 vl5 vc5),(.slice va6 vl6 vc6),(.slice va7 vl7 vc7)])
 go_enter Tryz.func5,Tryz.ntmps5
 go_wp2_with fail
 refine(b_szCache x _ 1048576 _ (by omega) (by omega) gx (T.rds_below HX.out H0.out)).mono ?_;rintro e w1 ⟨m,rfl,hm0,hm1,hsx,hb⟩
 have H1:=hide (yI H0.out H0.out.size hb);have K1:=hide (K0.out.below hb K0.out.lt)
 clear hb;have k0:=K1.out.cell;have l0:=K1.out.lt
 by_cases cm:m<0
 ·go_wp2
  go_ret
  exact⟨rfl,H1.out⟩
 have sx:=hsx (by omega)
 go_wp2_with fail
 refine(b_toCache x _ _ sx (T.rds_below HX.out H1.out)).mono ?_;rintro e w2 ⟨ds,rfl,hds,hb⟩
 have Du:=hide hds
 have H2:=hide (yI H1.out H1.out.size hb);have K2:=hide (K1.out.below hb K1.out.lt)
 clear hb k0 l0;have k0:=K2.out.cell;have l0:=K2.out.lt
 obtain⟨u1,u2,u3,u4,u5,u6,u7,rfl,ur1,ur2,ur3,ur4,ur5,ur6,ur7⟩:=GCache.yN hds
 obtain⟨ua1,ul1,uc1,rfl⟩:=T.yT ur1;clear ur1
 obtain⟨ua2,ul2,uc2,rfl⟩:=T.yT ur2;clear ur2
 obtain⟨ua3,ul3,uc3,rfl⟩:=T.yT ur3;clear ur3
 obtain⟨ua4,ul4,uc4,rfl⟩:=T.yT ur4;clear ur4
 obtain⟨ua5,ul5,uc5,rfl⟩:=T.yT ur5;clear ur5
 obtain⟨ua6,ul6,uc6,rfl⟩:=T.yT ur6;clear ur6
 obtain⟨ua7,ul7,uc7,rfl⟩:=T.yT ur7;clear ur7
 go_wp2_with fail
 refine(c_sSoundCache x _ _ gx ⟨sx.1,sx.2.1,sx.2.2.1,sx.2.2.2.1,sx.2.2.2.2.1⟩ Du.out).mono ?_;rintro e w3 ⟨rfl,hb⟩
 have H3:=hide (yI H2.out H2.out.size hb);have K3:=hide (K2.out.below hb K2.out.lt)
 clear hb k0 l0;have k0:=K3.out.cell;have l0:=K3.out.lt
 go_wp2_with fail
 refine(b_toCache x _ _ sx (T.rds_below HX.out H3.out)).mono ?_;rintro e w4 ⟨ds,rfl,hds,hb⟩
 have Dt:=hide hds
 have H4:=hide (yI H3.out H3.out.size hb);have K4:=hide (K3.out.below hb K3.out.lt)
 clear hb k0 l0;have k0:=K4.out.cell;have l0:=K4.out.lt
 obtain⟨t1,t2,t3,t4,t5,t6,t7,rfl,tr1,tr2,tr3,tr4,tr5,tr6,tr7⟩:=GCache.yN hds
 obtain⟨ta1,tl1,tc1,rfl⟩:=T.yT tr1;clear tr1
 obtain⟨ta2,tl2,tc2,rfl⟩:=T.yT tr2;clear tr2
 obtain⟨ta3,tl3,tc3,rfl⟩:=T.yT tr3;clear tr3
 obtain⟨ta4,tl4,tc4,rfl⟩:=T.yT tr4;clear tr4
 obtain⟨ta5,tl5,tc5,rfl⟩:=T.yT tr5;clear tr5
 obtain⟨ta6,tl6,tc6,rfl⟩:=T.yT tr6;clear tr6
 obtain⟨ta7,tl7,tc7,rfl⟩:=T.yT tr7;clear tr7
 have HA:=hide (show Below w4.heap.size w4 (w4.alloc (.cells #[.int .i64 x.zE.zG,(.slice ta1 tl1 tc1),(.slice ta2 tl2 tc2),(.slice ta3 tl3 tc3),(.slice ta4 tl4 tc4),(.slice ta5 tl5 tc5),(.slice ta6 tl6 tc6),(.slice ta7 tl7 tc7)] 65)) from(Below.refl _ _).alloc (Nat.le_refl _) _)
 have KX0:=hide (Bk.born w4 65 #[.int .i64 x.zE.zG,(.slice ta1 tl1 tc1),(.slice ta2 tl2 tc2),(.slice ta3 tl3 tc3),(.slice ta4 tl4 tc4),(.slice ta5 tl5 tc5),(.slice ta6 tl6 tc6),(.slice ta7 tl7 tc7)])
 go_wp2_with fail
 refine(c_iSoundCache x _ _ gx ⟨sx.1,sx.2.1,sx.2.2.1,sx.2.2.2.1,sx.2.2.2.2.1⟩ (T.rds_below Dt.out HA.out)).mono ?_;rintro e w5 ⟨rfl,hb9⟩
 have hb:=yI HA.out HA.out.size hb9
 have DX:=hide (T.rds_below Dt.out hb);have KX:=hide (KX0.out.below hb9 KX0.out.lt);clear hb9
 have H5:=hide (yI H4.out H4.out.size hb);have K5:=hide (K4.out.below hb K4.out.lt)
 clear hb k0 l0;have k0:=K5.out.cell;have l0:=K5.out.lt
 generalize tf (SoundC x)=ans at *
 have kx:=KX.out.cell;have lx:=KX.out.lt
 have hne:(ans != ans)=false:=by simp
 go_wp2
 go_region_held3 (fun w'=>(∀ i,w'.cell? ⟨w.heap.size,i,none⟩= #[.int .i64 x.zE.zG,(.slice va1 vl1 vc1),(.slice va2 vl2 vc2),(.slice va3 vl3 vc3),(.slice va4 vl4 vc4),(.slice va5 vl5 vc5),(.slice va6 vl6 vc6),(.slice va7 vl7 vc7)][i]?)∧(∀ i,w'.cell? ⟨w4.heap.size,i,none⟩= #[.int .i64 x.zE.zG,(.slice ta1 tl1 tc1),(.slice ta2 tl2 tc2),(.slice ta3 tl3 tc3),(.slice ta4 tl4 tc4),(.slice ta5 tl5 tc5),(.slice ta6 tl6 tc6),(.slice ta7 tl7 tc7)][i]?)) (first|exact⟨K5.out.cell,KX.out.cell⟩|exact⟨(K5.out.below c6.out K5.out.lt).cell,(KX.out.below c6.out KX.out.lt).cell⟩|exact⟨(K5.out.below c5.out K5.out.lt).cell,(KX.out.below c5.out KX.out.lt).cell⟩) (first|(go_at_call 21;refine(b_toCache x _ _ sx (T.rds_below HX.out (by first|exact H5.out|exact H5.out.drew|exact below_drewN H5.out _))).mono ?_;rintro e wA ⟨fs,rfl,hfs,hb5⟩;have c5:=hide (show Below w5.heap.size w5 wA from(by first|exact hb5|exact undrew hb5|exact undrewN hb5));have F5:=hide hfs)|(go_at_call 23;refine(b_eqCache x _ _ _ (T.rds_below DX.out (by first|exact c5.out|exact c5.out.drew|exact below_drewN c5.out _)) (T.rds_below F5.out (by first|exact Below.refl _ _|exact(Below.refl _ _).drew|exact below_drewN (Below.refl _ _) _))).mono ?_;rintro e wB ⟨rfl,hb6⟩;have c6:=hide (yI c5.out c5.out.size (show Below wA.heap.size wA wB from(by first|exact hb6|exact undrew hb6|exact undrewN hb6)))))
 have H9:=hide (yI H5.out H5.out.size c6.out)
 go_wp2
 go_ret
 exact⟨rfl,H9.out⟩
end Go.Proofs.YtoibekfhepnedaaGreat
end
