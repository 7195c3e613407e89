/- Contract: isInRange, program. -/
import Derived.Test.YtdcofkabaigjpaaGreatQAmEdits
set_option linter.unusedVariables false
set_option linter.unusedSimpArgs false
set_option maxHeartbeats 2000000
set_option maxRecDepth 20000
namespace Go.Proofs.YtdcofkabaigjpaaGreat
open Go.RowKit
theorem c_isInRange (x:xO) (cs:List Value) (ed:wV) (w:World) (hs:x.small) (h:T.rds w x.fs cs):Calls Tryz.prog 60 #[.agg cs.toArray,.agg #[.int .i64 ed.zD,.int .i64 ed.yD,.int .i64 ed.yG,.int .i64 ed.yF,.int .i64 ed.yC.zV,.int .i64 ed.yC.zO,.int .i64 ed.yC.zB,.int .i64 ed.yC.yE,.int .i64 ed.yC.yB]] w fun e w'=>e= .returned (.bool (tf (xZ x ed)))∧Below w.heap.size w w':=by
 obtain⟨ek,et,ec,ev,ns,nf,nl,na,ng⟩:=ed;dsimp only;obtain⟨v1,v2,v3,v4,v5,rfl,h1,h2,h3,h4,h5⟩:=xO.yT h;clear h;obtain⟨va1,vc1,rfl,vl1,vm1,R1,HX1⟩:=oG h1;clear h1;obtain⟨va2,vc2,rfl,vl2,vm2,R2,HX2⟩:=oG h2;clear h2;obtain⟨va3,vc3,rfl,vl3,vm3,R3,HX3⟩:=oI h3;clear h3;obtain⟨va4,vc4,rfl,vl4,vm4,R4,HX4⟩:=oG h4;clear h4;obtain⟨va5,vc5,rfl,vl5,vm5,R5,HX5⟩:=oG h5;clear h5;obtain⟨HB0,HK0⟩:=aK w 32 #[.int .i64 x.zB,(.slice va1 x.zI.length vc1),(.slice va2 x.zG.length vc2),(.slice va3 x.zL.length vc3),(.slice va4 x.zK.length vc4),(.slice va5 x.zH.zC.length vc5)];have HBa:=xN (HB0.o.alloc (by simp) (.cells #[.int .i64 ek,.int .i64 et,.int .i64 ec,.int .i64 ev,.int .i64 ns,.int .i64 nf,.int .i64 nl,.int .i64 na,.int .i64 ng] 41));have HKa:=xN (HK0.o.alloc (.cells #[.int .i64 ek,.int .i64 et,.int .i64 ec,.int .i64 ev,.int .i64 ns,.int .i64 nf,.int .i64 nl,.int .i64 na,.int .i64 ng] 41));have HEa:=xN (Bk.born1' w (.cells #[.int .i64 x.zB,(.slice va1 x.zI.length vc1),(.slice va2 x.zG.length vc2),(.slice va3 x.zL.length vc3),(.slice va4 x.zK.length vc4),(.slice va5 x.zH.zC.length vc5)] 32) 41 #[.int .i64 ek,.int .i64 et,.int .i64 ec,.int .i64 ev,.int .i64 ns,.int .i64 nf,.int .i64 nl,.int .i64 na,.int .i64 ng]);clear HB0 HK0;obtain⟨W,hW⟩: ∃ W',W'=((w.alloc (.cells #[.int .i64 x.zB,(.slice va1 x.zI.length vc1),(.slice va2 x.zG.length vc2),(.slice va3 x.zL.length vc3),(.slice va4 x.zK.length vc4),(.slice va5 x.zH.zC.length vc5)] 32)).alloc (.cells #[.int .i64 ek,.int .i64 et,.int .i64 ec,.int .i64 ev,.int .i64 ns,.int .i64 nf,.int .i64 nl,.int .i64 na,.int .i64 ng] 41)):=⟨_,rfl⟩;rw[←hW] at HBa HKa HEa;have HW:=xN hW;clear hW;have n5:x.zH.zC.length≤1048576:=hs.2.2.2.2.1;have n2:x.zG.length≤1048576:=hs.2.1.1;have n1:x.zI.length≤1048576:=hs.1.1;have HSS:=xN hs.2.2.2.2.2;have HST:=xN hs.2.1.2;clear hs;have BS:=xN (@rangeB_send x ⟨ek,et,ec,ev,ns,nf,nl,na,ng⟩);have BO:=xN (@rangeB_out x ⟨ek,et,ec,ev,ns,nf,nl,na,ng⟩);have BI:=xN (@rangeB_ins x ⟨ek,et,ec,ev,ns,nf,nl,na,ng⟩);have BP:=xN (@rangeB_rep x ⟨ek,et,ec,ev,ns,nf,nl,na,ng⟩);have BR:=xN (@rangeB_rem x ⟨ek,et,ec,ev,ns,nf,nl,na,ng⟩);have BF:=xN (@rangeB_feed x ⟨ek,et,ec,ev,ns,nf,nl,na,ng⟩);have w5:IntKind.i64.wrap ((x.zH.zC.length:Int) - 1)=(x.zH.zC.length:Int) - 1:=IntWalk.i64_in _ zM;have w2:IntKind.i64.wrap ((x.zG.length:Int) - 1)=(x.zG.length:Int) - 1:=IntWalk.i64_in _ zM
 go_enter Tryz.func60,Tryz.ntmps60
 by_cases k5:ek=5
 ·
  have q5:(ek == 5)=true:=xA k5;have HE:=xN (BS.o k5);clear k5;by_cases r1:inB et 0 ((x.zH.zC.length:Int) - 1)=true
  rotate_left
  ·
   have r1':inB et 0 ((x.zH.zC.length:Int) - 1)=false:=by simpa using r1
   have HR1:=xN r1';go_wp2;rw[←HW.o];have g0:=xM HKa.o;have g1:=xM HEa.o;refine rB ?_
   repeat(first|go_big_quiet_skip|(go_big_quiet_want;go_big_quiet_op;first|go_big_quiet_on|(apply Exists.intro;refine⟨fun _=>?_,?_⟩;(· (first|(go_at_call 46;exact Calls.yP (uG _ _ _ _ zM))|(go_at_call 47;exact Calls.yP ((xX _ _ _ _).mono (fun e w' h=>by(first|rw[r1'] at h|skip);exact h)))));go_big_quiet_on)))
   refine wpQuiet_nil ?_;rintro w9 ⟨uu,rfl⟩;have hb9:=yM W uu;generalize bel W uu=w9 at *;have HB9:=xN (yO HBa.o HBa.o.size hb9);have HK9:=xN (HKa.o.below hb9 HKa.o.lt);have HE9:=xN (HEa.o.below hb9 HEa.o.lt);clear hb9 g0 g1;go_wp2;go_ret
   exact⟨yN (by rw[HE.o];rw[HR1.o];rfl),HB9.o⟩
  have i1:=xK.1 r1;obtain⟨k,rfl⟩: ∃ k:Nat,et=(k:Int):=⟨et.toNat,by omega⟩;have hlt:k<x.zH.zC.length:=by omega
  have hgk:=gE hlt;have hsy:=HSS.o _ (List.getElem_mem hlt);obtain⟨b,off,cs1,hA,hb1,hcs,hcell⟩:=HX5.o k x.zH.zC[k] hgk;subst hA;have HSA:=xN (xZz hgk);generalize x.zH.zC[k]=y at *;have hny:y.zT.length≤1048576:=hsy.2;clear hsy hgk;have HB:=xN (Below.refl w.heap.size w);obtain⟨u2,rfl,hRY2⟩:=xP.yT (show T.rds _ _ _ by simpa only[xP.t,T.rd] using hcs);obtain⟨d0,d1,d2⟩:=oc3 HB.o hb1 hcell;have RY2:=xN (T.yJ hRY2 HB.o);clear hRY2;clear hcs hcell;obtain⟨ua2,uc2,rfl,ul2,um2,-⟩:=T.yS RY2.o;have wy:IntKind.i64.wrap ((y.zT.length:Int) - 1)=(y.zT.length:Int) - 1:=IntWalk.i64_in _ zM;have hk0:(0:Int)≤(k:Int):=by omega
  have hk1:(k:Int)<(x.zH.zC.length:Int):=by omega
  have HR1:=xN r1;by_cases r2:inB ec 0 ((y.zT.length:Int) - 1)=true
  rotate_left
  ·
   have r2':inB ec 0 ((y.zT.length:Int) - 1)=false:=by simpa using r2
   have HR2:=xN r2';go_wp2;rw[←HW.o];have g0:=xM HKa.o;have g1:=xM HEa.o;have g2:=yK ((HBa.o.cell hb1).trans d2);refine rB ?_
   repeat(first|go_big_quiet_skip|(go_big_quiet_want;go_big_quiet_op;first|go_big_quiet_on|(apply Exists.intro;refine⟨fun _=>?_,?_⟩;(· (first|(go_at_call 46;exact Calls.yP (uG _ _ _ _ zM))|(go_at_call 94;exact Calls.yP (yHy _ _ _ _ zM))|(go_at_call 47;exact Calls.yP ((xX _ _ _ _).mono (fun e w' h=>by(first|rw[r1] at h|rw[r2'] at h|skip);exact h)))));go_big_quiet_on)))
   refine wpQuiet_nil ?_;rintro w9 ⟨uu,rfl⟩;have hb9:=yM W uu;generalize bel W uu=w9 at *;have HB9:=xN (yO HBa.o HBa.o.size hb9);have HK9:=xN (HKa.o.below hb9 HKa.o.lt);have HE9:=xN (HEa.o.below hb9 HEa.o.lt);clear hb9 g0 g1 g2;go_wp2;go_ret
   exact⟨yN (by rw[HE.o];rw[HR1.o,HSA.o,HR2.o];rfl),HB9.o⟩
  have HR2:=xN r2;generalize hsm:decide (Smp ev)=sm at *;have HSM:=xN hsm;clear hsm;go_wp2;rw[←HW.o];have g0:=xM HKa.o;have g1:=xM HEa.o;have g2:=yK ((HBa.o.cell hb1).trans d2);refine rB ?_
  repeat(first|go_big_quiet_skip|(go_big_quiet_want;go_big_quiet_op;first|go_big_quiet_on|(apply Exists.intro;refine⟨fun _=>?_,?_⟩;(· (first|(go_at_call 46;exact Calls.yP (uG _ _ _ _ zM))|(go_at_call 94;exact Calls.yP (yHy _ _ _ _ zM))|(go_at_call 47;exact Calls.yP ((xX _ _ _ _).mono (fun e w' h=>by(first|rw[r1] at h|rw[r2] at h|skip);exact h)))|(go_at_call 95;exact Calls.yP ((yMz _ _).mono (fun e w' h=>by(first|rw[HSM.o] at h|skip);exact h)))));go_big_quiet_on)))
  refine wpQuiet_nil ?_;rintro w9 ⟨uu,rfl⟩;have hb9:=yM W uu;generalize bel W uu=w9 at *;have HB9:=xN (yO HBa.o HBa.o.size hb9);have HK9:=xN (HKa.o.below hb9 HKa.o.lt);have HE9:=xN (HEa.o.below hb9 HEa.o.lt);clear hb9 g0 g1 g2;go_wp2;go_ret
  exact⟨yN (by rw[HE.o];rw[HR1.o,HSA.o,HR2.o];rfl),HB9.o⟩
 have q5:(ek == 5)=false:=yZ k5;by_cases r1:inB et 0 ((x.zG.length:Int) - 1)=true
 rotate_left
 ·
  have r1':inB et 0 ((x.zG.length:Int) - 1)=false:=by simpa using r1
  have HE:=xN (BO.o k5 r1');clear k5;go_wp2;rw[←HW.o];have g0:=xM HKa.o;have g1:=xM HEa.o;refine rB ?_
  repeat(first|go_big_quiet_skip|(go_big_quiet_want;go_big_quiet_op;first|go_big_quiet_on|(apply Exists.intro;refine⟨fun _=>?_,?_⟩;(· (first|(go_at_call 96;exact Calls.yP (c_sizeTrack _ _ _ _ zM))|(go_at_call 47;exact Calls.yP ((xX _ _ _ _).mono (fun e w' h=>by(first|rw[r1'] at h|skip);exact h)))));go_big_quiet_on)))
  refine wpQuiet_nil ?_;rintro w9 ⟨uu,rfl⟩;have hb9:=yM W uu;generalize bel W uu=w9 at *;have HB9:=xN (yO HBa.o HBa.o.size hb9);have HK9:=xN (HKa.o.below hb9 HKa.o.lt);have HE9:=xN (HEa.o.below hb9 HEa.o.lt);clear hb9 g0 g1;go_wp2;go_ret
  exact⟨yN (HE.o.symm),HB9.o⟩
 have i1:=xK.1 r1;obtain⟨k,rfl⟩: ∃ k:Nat,et=(k:Int):=⟨et.toNat,by omega⟩;have hlt:k<x.zG.length:=by omega
 have hgk:=gE hlt;have hsy:=HST.o _ (List.getElem_mem hlt);obtain⟨b,off,cs1,hA,hb1,hcs,hcell⟩:=HX2.o k x.zG[k] hgk;subst hA;have HCA:=xN (wU hgk);generalize x.zG[k]=y at *;have hny:y.zS.length≤1048576:=hsy;clear hsy hgk;have HB:=xN (Below.refl w.heap.size w);obtain⟨u0,rfl,hRY0⟩:=xS.yT (show T.rds _ _ _ by simpa only[xS.t,T.rd] using hcs);have d0:=oc1 HB.o hb1 hcell;have RY0:=xN (T.yJ hRY0 HB.o);clear hRY0;clear hcs hcell;obtain⟨ua0,uc0,rfl,ul0,um0,-⟩:=T.yS RY0.o;have wy:IntKind.i64.wrap ((y.zS.length:Int) - 1)=(y.zS.length:Int) - 1:=IntWalk.i64_in _ zM;have hk0:(0:Int)≤(k:Int):=by omega
 have hk1:(k:Int)<(x.zG.length:Int):=by omega
 generalize hlo:decide (ns<(x.zI.length:Int))=lo at *;have HLO:=xN hlo;have R1:=xN r1;go_wp2;rw[←HW.o];have g0:=xM HKa.o;have g1:=xM HEa.o;refine rB ?_
 repeat(first|go_big_quiet_skip|(go_big_quiet_want;go_big_quiet_op;first|go_big_quiet_on|(apply Exists.intro;refine⟨fun _=>?_,?_⟩;(· (first|(go_at_call 96;exact Calls.yP (c_sizeTrack _ _ _ _ zM))|(go_at_call 47;exact Calls.yP ((xX _ _ _ _).mono (fun e w' h=>by(first|rw[r1] at h|skip);exact h)))));go_big_quiet_on)))
 refine wpQuiet_nil ?_;rintro w9 ⟨uu,rfl⟩;have hb9:=yM W uu;generalize bel W uu=w9 at *;have HB9:=xN (yO HBa.o HBa.o.size hb9);have HK9:=xN (HKa.o.below hb9 HKa.o.lt);have HE9:=xN (HEa.o.below hb9 HEa.o.lt);clear hb9 g0 g1;have kk:=HK9.o.cell;have ke:=HE9.o.cell;go_wp2;have g0:=xM HK9.o;have g1:=xM HE9.o;have g2:=yK ((HB9.o.cell hb1).trans d0);refine rB ?_
 repeat(first|go_big_quiet_skip|(go_big_quiet_want;go_big_quiet_op;first|go_big_quiet_on|(apply Exists.intro;refine⟨fun _=>?_,?_⟩;(· (first|(go_at_call 97;exact Calls.yP (c_sizeClip _ _ _ _ zM))|(go_at_call 54;exact Calls.yP (xKz _ _ _ _ zM))));go_big_quiet_on)))
 refine wpQuiet_nil ?_;rintro wA ⟨uu,rfl⟩;have hb9:=yM w9 uu;generalize bel w9 uu=wA at *;have HB1:=xN (yO HB9.o HB9.o.size hb9);have HK1:=xN (HK9.o.below hb9 HK9.o.lt);have HE1:=xN (HE9.o.below hb9 HE9.o.lt);clear hb9 g0 g1 g2 kk ke;have ke:=HE1.o.cell;have kk:=HK1.o.cell;by_cases k1:ek=1
 ·
  have q1:(ek == 1)=true:=xA k1;have HE:=xN (BI.o k1 R1.o);clear k1 k5;by_cases r2:inB ec 0 (y.zS.length:Int)=true
  rotate_left
  ·
   have r2':inB ec 0 (y.zS.length:Int)=false:=by simpa using r2
   have HR2:=xN r2';clear r2 r2';go_wp2_with (go_at_call 47;refine(xX _ _ _ _).mono ?_;rintro e w' ⟨rfl,rfl⟩;rw[HR2.o])
   go_ret
   exact⟨yN (by rw[HE.o];rw[HCA.o,HR2.o];rfl),HB1.o⟩
  have HR2:=xN r2;clear r2;go_wp2_with (go_at_call 47;refine(xX _ _ _ _).mono ?_;rintro e w' ⟨rfl,rfl⟩;rw[HR2.o])
  go_ret
  exact⟨yN (by rw[HE.o];rw[HCA.o,HR2.o];rfl),HB1.o⟩
 have q1:(ek == 1)=false:=yZ k1;by_cases k3:ek=3
 ·
  have q3:(ek == 3)=true:=xA k3;have HE:=xN (BP.o k3 R1.o);clear k3 k5;by_cases r2:inB ec 0 ((y.zS.length:Int) - 1)=true
  rotate_left
  ·
   have r2':inB ec 0 ((y.zS.length:Int) - 1)=false:=by simpa using r2
   have HR2:=xN r2';clear r2 r2';go_wp2_with (go_at_call 47;refine(xX _ _ _ _).mono ?_;rintro e w' ⟨rfl,rfl⟩;rw[HR2.o])
   go_ret
   exact⟨yN (by rw[HE.o];rw[HCA.o,HR2.o];rfl),HB1.o⟩
  have HR2:=xN r2;clear r2;go_wp2_with (go_at_call 47;refine(xX _ _ _ _).mono ?_;rintro e w' ⟨rfl,rfl⟩;rw[HR2.o])
  go_ret
  exact⟨yN (by rw[HE.o];rw[HCA.o,HR2.o];rfl),HB1.o⟩
 have q3:(ek == 3)=false:=yZ k3;by_cases k2:ek=2
 ·
  have q2:(ek == 2)=true:=xA k2;have HE:=xN (BR.o k2 R1.o);clear k2 k5;go_wp2_with (go_at_call 47;refine(xX _ _ _ _).mono ?_;rintro e w' ⟨rfl,rfl⟩)
  go_ret
  exact⟨yN (by rw[HE.o];rw[HCA.o]),HB1.o⟩
 have q2:(ek == 2)=false:=yZ k2;have HE:=xN (BF.o k5 k1 k2 k3 R1.o);clear k1 k2 k3 k5;clear kk ke;have ke:=HE1.o.cell;have kk:=HK1.o.cell;go_wp2;have g0:=xM HK1.o;have g1:=xM HE1.o;refine rB ?_
 repeat(first|go_big_quiet_skip|(go_big_quiet_want;go_big_quiet_op;first|go_big_quiet_on|(apply Exists.intro;refine⟨fun _=>?_,?_⟩;(· (first|(go_at_call 46;exact Calls.yP (uG _ _ _ _ zM))|(go_at_call 47;exact Calls.yP ((xX _ _ _ _).mono (fun e w' h=>by(first|rw[w5] at h|skip);exact h)))));go_big_quiet_on)))
 refine wpQuiet_nil ?_;rintro wB ⟨uu,rfl⟩;have hb9:=yM wA uu;generalize bel wA uu=wB at *;have HB2:=xN (yO HB1.o HB1.o.size hb9);go_wp2;go_ret
 exact⟨yN HE.o.symm,HB2.o⟩
end Go.Proofs.YtdcofkabaigjpaaGreat
