/- Contract: isInRange, program. -/
import Derived.Test.YtdcofkabaigjpaaGreatQAlUndone
import Derived.Test.YtdcofkabaigjpaaGreatQAdUndone
set_option linter.unusedVariables false
set_option linter.unusedSimpArgs false
set_option maxHeartbeats 2000000
set_option maxRecDepth 20000
namespace Go.Proofs.YtdcofkabaigjpaaGreat
open Go.RowKit
theorem c_isInRange (x:xM) (cs:List Value) (ed:xS) (w:World) (hs:x.small) (h:T.rds w x.fs cs):Calls Tryz.prog 60 #[.agg cs.toArray,.agg #[.int .i64 ed.zC,.int .i64 ed.yB,.int .i64 ed.yF,.int .i64 ed.yD,.int .i64 ed.zY.zX,.int .i64 ed.zY.zK,.int .i64 ed.zY.zA,.int .i64 ed.zY.yE,.int .i64 ed.zY.zZ]] w fun e w'=>e= .returned (.bool (tf (wG x ed)))∧Below w.heap.size w w':=by
 obtain⟨ek,et,ec,ev,ns,nf,nl,na,ng⟩:=ed;dsimp only;obtain⟨v1,v2,v3,v4,v5,rfl,h1,h2,h3,h4,h5⟩:=xM.yR h;clear h;obtain⟨va1,vc1,rfl,vl1,vm1,R1,HX1⟩:=oG h1;clear h1;obtain⟨va2,vc2,rfl,vl2,vm2,R2,HX2⟩:=oG h2;clear h2;obtain⟨va3,vc3,rfl,vl3,vm3,R3,HX3⟩:=oI h3;clear h3;obtain⟨va4,vc4,rfl,vl4,vm4,R4,HX4⟩:=oG h4;clear h4;obtain⟨va5,vc5,rfl,vl5,vm5,R5,HX5⟩:=oG h5;clear h5;have HB0:=xL (show Below w.heap.size w (w.alloc (.cells #[.int .i64 x.zA,(.slice va1 x.zD.length vc1),(.slice va2 x.zB.length vc2),(.slice va3 x.zO.length vc3),(.slice va4 x.zG.length vc4),(.slice va5 x.zI.zF.length vc5)] 32)) from zR.alloc zJ _);have HK0:=xL (Bk.born w 32 #[.int .i64 x.zA,(.slice va1 x.zD.length vc1),(.slice va2 x.zB.length vc2),(.slice va3 x.zO.length vc3),(.slice va4 x.zG.length vc4),(.slice va5 x.zI.zF.length vc5)]);have HBa:=xL (HB0.out.alloc (by simp) (.cells #[.int .i64 ek,.int .i64 et,.int .i64 ec,.int .i64 ev,.int .i64 ns,.int .i64 nf,.int .i64 nl,.int .i64 na,.int .i64 ng] 41));have HKa:=xL (HK0.out.alloc (.cells #[.int .i64 ek,.int .i64 et,.int .i64 ec,.int .i64 ev,.int .i64 ns,.int .i64 nf,.int .i64 nl,.int .i64 na,.int .i64 ng] 41));have HEa:=xL (Bk.born1' w (.cells #[.int .i64 x.zA,(.slice va1 x.zD.length vc1),(.slice va2 x.zB.length vc2),(.slice va3 x.zO.length vc3),(.slice va4 x.zG.length vc4),(.slice va5 x.zI.zF.length vc5)] 32) 41 #[.int .i64 ek,.int .i64 et,.int .i64 ec,.int .i64 ev,.int .i64 ns,.int .i64 nf,.int .i64 nl,.int .i64 na,.int .i64 ng]);clear HB0 HK0;obtain⟨W,hW⟩: ∃ W',W'=((w.alloc (.cells #[.int .i64 x.zA,(.slice va1 x.zD.length vc1),(.slice va2 x.zB.length vc2),(.slice va3 x.zO.length vc3),(.slice va4 x.zG.length vc4),(.slice va5 x.zI.zF.length vc5)] 32)).alloc (.cells #[.int .i64 ek,.int .i64 et,.int .i64 ec,.int .i64 ev,.int .i64 ns,.int .i64 nf,.int .i64 nl,.int .i64 na,.int .i64 ng] 41)):=⟨_,rfl⟩;rw[←hW] at HBa HKa HEa;have HW:=xL hW;clear hW;have n5:x.zI.zF.length≤1048576:=hs.2.2.2.2.1;have n2:x.zB.length≤1048576:=hs.2.1.1;have n1:x.zD.length≤1048576:=hs.1.1;have HSS:=xL hs.2.2.2.2.2;have HST:=xL hs.2.1.2;clear hs;have BS:=xL (@rangeB_send x ⟨ek,et,ec,ev,ns,nf,nl,na,ng⟩);have BO:=xL (@rangeB_out x ⟨ek,et,ec,ev,ns,nf,nl,na,ng⟩);have BI:=xL (@rangeB_ins x ⟨ek,et,ec,ev,ns,nf,nl,na,ng⟩);have BP:=xL (@rangeB_rep x ⟨ek,et,ec,ev,ns,nf,nl,na,ng⟩);have BR:=xL (@rangeB_rem x ⟨ek,et,ec,ev,ns,nf,nl,na,ng⟩);have BF:=xL (@rangeB_feed x ⟨ek,et,ec,ev,ns,nf,nl,na,ng⟩);have w5:IntKind.i64.wrap ((x.zI.zF.length:Int) - 1)=(x.zI.zF.length:Int) - 1:=IntWalk.i64_in _ zM;have w2:IntKind.i64.wrap ((x.zB.length:Int) - 1)=(x.zB.length:Int) - 1:=IntWalk.i64_in _ zM
 go_enter Tryz.func60,Tryz.ntmps60
 by_cases k5:ek=5
 ·
  have q5:(ek == 5)=true:=yY k5;have HE:=xL (BS.out k5);clear k5;by_cases r1:inB et 0 ((x.zI.zF.length:Int) - 1)=true
  rotate_left
  ·
   have r1':inB et 0 ((x.zI.zF.length:Int) - 1)=false:=by simpa using r1
   have HR1:=xL r1';go_wp2;rw[←HW.out];have g0:=xK HKa.out;have g1:=xK HEa.out;refine rB ?_
   repeat(first|go_big_quiet_skip|(go_big_quiet_want;go_big_quiet_op;first|go_big_quiet_on|(apply Exists.intro;refine⟨fun _=>?_,?_⟩;(· (first|(go_at_call 46;exact Calls.yN (vI _ _ _ _ zM))|(go_at_call 47;exact Calls.yN ((xU _ _ _ _).mono (fun e w' h=>by(first|rw[r1'] at h|skip);exact h)))));go_big_quiet_on)))
   refine wpQuiet_nil ?_;rintro w9 ⟨uu,rfl⟩;have hb9:=yJ W uu;generalize bel W uu=w9 at *;have HB9:=xL (yM HBa.out HBa.out.size hb9);have HK9:=xL (HKa.out.below hb9 HKa.out.lt);have HE9:=xL (HEa.out.below hb9 HEa.out.lt);clear hb9 g0 g1;go_wp2;go_ret
   exact⟨yK (by rw[HE.out];rw[HR1.out];rfl),HB9.out⟩
  have i1:=xI.1 r1;obtain⟨k,rfl⟩: ∃ k:Nat,et=(k:Int):=⟨et.toNat,by omega⟩;have hlt:k<x.zI.zF.length:=by omega
  have hgk:=gE hlt;have hsy:=HSS.out _ (List.getElem_mem hlt);obtain⟨b,off,cs1,hA,hb1,hcs,hcell⟩:=HX5.out k x.zI.zF[k] hgk;subst hA;have HSA:=xL (zXz hgk);generalize x.zI.zF[k]=y at *;have hny:y.zV.length≤1048576:=hsy.2;clear hsy hgk;have HB:=xL (Below.refl w.heap.size w);obtain⟨u2,rfl,hRY2⟩:=xO.yR (show T.rds _ _ _ by simpa only[xO.t,T.rd] using hcs);have d0:=(HB.out.cell hb1).trans (hcell 0 (.string y.yC) rfl);have d1:=(HB.out.cell hb1).trans (hcell 1 (.int .i64 y.yA) rfl);have d2:=(HB.out.cell hb1).trans (hcell 2 (u2) rfl);rw[show off+(k * 3+0)=off+k * 3 by omega] at d0;rw[show off+(k * 3+1)=off+k * 3+1 by omega] at d1;rw[show off+(k * 3+2)=off+k * 3+2 by omega] at d2;have RY2:=xL (T.yH hRY2 HB.out);clear hRY2;clear hcs hcell;obtain⟨ua2,uc2,rfl,ul2,um2,-⟩:=T.yQ RY2.out;have wy:IntKind.i64.wrap ((y.zV.length:Int) - 1)=(y.zV.length:Int) - 1:=IntWalk.i64_in _ zM;have hk0:(0:Int)≤(k:Int):=by omega
  have hk1:(k:Int)<(x.zI.zF.length:Int):=by omega
  have HR1:=xL r1;by_cases r2:inB ec 0 ((y.zV.length:Int) - 1)=true
  rotate_left
  ·
   have r2':inB ec 0 ((y.zV.length:Int) - 1)=false:=by simpa using r2
   have HR2:=xL r2';go_wp2;rw[←HW.out];have g0:=xK HKa.out;have g1:=xK HEa.out;have g2:=yI ((HBa.out.cell hb1).trans d2);refine rB ?_
   repeat(first|go_big_quiet_skip|(go_big_quiet_want;go_big_quiet_op;first|go_big_quiet_on|(apply Exists.intro;refine⟨fun _=>?_,?_⟩;(· (first|(go_at_call 46;exact Calls.yN (vI _ _ _ _ zM))|(go_at_call 94;exact Calls.yN (wRz _ _ _ _ zM))|(go_at_call 47;exact Calls.yN ((xU _ _ _ _).mono (fun e w' h=>by(first|rw[r1] at h|rw[r2'] at h|skip);exact h)))));go_big_quiet_on)))
   refine wpQuiet_nil ?_;rintro w9 ⟨uu,rfl⟩;have hb9:=yJ W uu;generalize bel W uu=w9 at *;have HB9:=xL (yM HBa.out HBa.out.size hb9);have HK9:=xL (HKa.out.below hb9 HKa.out.lt);have HE9:=xL (HEa.out.below hb9 HEa.out.lt);clear hb9 g0 g1 g2;go_wp2;go_ret
   exact⟨yK (by rw[HE.out];rw[HR1.out,HSA.out,HR2.out];rfl),HB9.out⟩
  have HR2:=xL r2;generalize hsm:decide (Smp ev)=sm at *;have HSM:=xL hsm;clear hsm;go_wp2;rw[←HW.out];have g0:=xK HKa.out;have g1:=xK HEa.out;have g2:=yI ((HBa.out.cell hb1).trans d2);refine rB ?_
  repeat(first|go_big_quiet_skip|(go_big_quiet_want;go_big_quiet_op;first|go_big_quiet_on|(apply Exists.intro;refine⟨fun _=>?_,?_⟩;(· (first|(go_at_call 46;exact Calls.yN (vI _ _ _ _ zM))|(go_at_call 94;exact Calls.yN (wRz _ _ _ _ zM))|(go_at_call 47;exact Calls.yN ((xU _ _ _ _).mono (fun e w' h=>by(first|rw[r1] at h|rw[r2] at h|skip);exact h)))|(go_at_call 95;exact Calls.yN ((uS _ _).mono (fun e w' h=>by(first|rw[HSM.out] at h|skip);exact h)))));go_big_quiet_on)))
  refine wpQuiet_nil ?_;rintro w9 ⟨uu,rfl⟩;have hb9:=yJ W uu;generalize bel W uu=w9 at *;have HB9:=xL (yM HBa.out HBa.out.size hb9);have HK9:=xL (HKa.out.below hb9 HKa.out.lt);have HE9:=xL (HEa.out.below hb9 HEa.out.lt);clear hb9 g0 g1 g2;go_wp2;go_ret
  exact⟨yK (by rw[HE.out];rw[HR1.out,HSA.out,HR2.out];rfl),HB9.out⟩
 have q5:(ek == 5)=false:=yX k5;by_cases r1:inB et 0 ((x.zB.length:Int) - 1)=true
 rotate_left
 ·
  have r1':inB et 0 ((x.zB.length:Int) - 1)=false:=by simpa using r1
  have HE:=xL (BO.out k5 r1');clear k5;go_wp2;rw[←HW.out];have g0:=xK HKa.out;have g1:=xK HEa.out;refine rB ?_
  repeat(first|go_big_quiet_skip|(go_big_quiet_want;go_big_quiet_op;first|go_big_quiet_on|(apply Exists.intro;refine⟨fun _=>?_,?_⟩;(· (first|(go_at_call 96;exact Calls.yN (c_sizeTrack _ _ _ _ zM))|(go_at_call 47;exact Calls.yN ((xU _ _ _ _).mono (fun e w' h=>by(first|rw[r1'] at h|skip);exact h)))));go_big_quiet_on)))
  refine wpQuiet_nil ?_;rintro w9 ⟨uu,rfl⟩;have hb9:=yJ W uu;generalize bel W uu=w9 at *;have HB9:=xL (yM HBa.out HBa.out.size hb9);have HK9:=xL (HKa.out.below hb9 HKa.out.lt);have HE9:=xL (HEa.out.below hb9 HEa.out.lt);clear hb9 g0 g1;go_wp2;go_ret
  exact⟨yK (HE.out.symm),HB9.out⟩
 have i1:=xI.1 r1;obtain⟨k,rfl⟩: ∃ k:Nat,et=(k:Int):=⟨et.toNat,by omega⟩;have hlt:k<x.zB.length:=by omega
 have hgk:=gE hlt;have hsy:=HST.out _ (List.getElem_mem hlt);obtain⟨b,off,cs1,hA,hb1,hcs,hcell⟩:=HX2.out k x.zB[k] hgk;subst hA;have HCA:=xL (wS hgk);generalize x.zB[k]=y at *;have hny:y.zL.length≤1048576:=hsy;clear hsy hgk;have HB:=xL (Below.refl w.heap.size w);obtain⟨u0,rfl,hRY0⟩:=xN.yR (show T.rds _ _ _ by simpa only[xN.t,T.rd] using hcs);have d0:=(HB.out.cell hb1).trans (hcell 0 (u0) rfl);rw[show off+(k * 1+0)=off+k by omega] at d0;have RY0:=xL (T.yH hRY0 HB.out);clear hRY0;clear hcs hcell;obtain⟨ua0,uc0,rfl,ul0,um0,-⟩:=T.yQ RY0.out;have wy:IntKind.i64.wrap ((y.zL.length:Int) - 1)=(y.zL.length:Int) - 1:=IntWalk.i64_in _ zM;have hk0:(0:Int)≤(k:Int):=by omega
 have hk1:(k:Int)<(x.zB.length:Int):=by omega
 generalize hlo:decide (ns<(x.zD.length:Int))=lo at *;have HLO:=xL hlo;have R1:=xL r1;go_wp2;rw[←HW.out];have g0:=xK HKa.out;have g1:=xK HEa.out;refine rB ?_
 repeat(first|go_big_quiet_skip|(go_big_quiet_want;go_big_quiet_op;first|go_big_quiet_on|(apply Exists.intro;refine⟨fun _=>?_,?_⟩;(· (first|(go_at_call 96;exact Calls.yN (c_sizeTrack _ _ _ _ zM))|(go_at_call 47;exact Calls.yN ((xU _ _ _ _).mono (fun e w' h=>by(first|rw[r1] at h|skip);exact h)))));go_big_quiet_on)))
 refine wpQuiet_nil ?_;rintro w9 ⟨uu,rfl⟩;have hb9:=yJ W uu;generalize bel W uu=w9 at *;have HB9:=xL (yM HBa.out HBa.out.size hb9);have HK9:=xL (HKa.out.below hb9 HKa.out.lt);have HE9:=xL (HEa.out.below hb9 HEa.out.lt);clear hb9 g0 g1;have kk:=HK9.out.cell;have ke:=HE9.out.cell;go_wp2;have g0:=xK HK9.out;have g1:=xK HE9.out;have g2:=yI ((HB9.out.cell hb1).trans d0);refine rB ?_
 repeat(first|go_big_quiet_skip|(go_big_quiet_want;go_big_quiet_op;first|go_big_quiet_on|(apply Exists.intro;refine⟨fun _=>?_,?_⟩;(· (first|(go_at_call 97;exact Calls.yN (c_sizeClip _ _ _ _ zM))|(go_at_call 54;exact Calls.yN (zNz _ _ _ _ zM))));go_big_quiet_on)))
 refine wpQuiet_nil ?_;rintro wA ⟨uu,rfl⟩;have hb9:=yJ w9 uu;generalize bel w9 uu=wA at *;have HB1:=xL (yM HB9.out HB9.out.size hb9);have HK1:=xL (HK9.out.below hb9 HK9.out.lt);have HE1:=xL (HE9.out.below hb9 HE9.out.lt);clear hb9 g0 g1 g2 kk ke;have ke:=HE1.out.cell;have kk:=HK1.out.cell;by_cases k1:ek=1
 ·
  have q1:(ek == 1)=true:=yY k1;have HE:=xL (BI.out k1 R1.out);clear k1 k5;by_cases r2:inB ec 0 (y.zL.length:Int)=true
  rotate_left
  ·
   have r2':inB ec 0 (y.zL.length:Int)=false:=by simpa using r2
   have HR2:=xL r2';clear r2 r2';go_wp2_with (go_at_call 47;refine(xU _ _ _ _).mono ?_;rintro e w' ⟨rfl,rfl⟩;rw[HR2.out])
   go_ret
   exact⟨yK (by rw[HE.out];rw[HCA.out,HR2.out];rfl),HB1.out⟩
  have HR2:=xL r2;clear r2;go_wp2_with (go_at_call 47;refine(xU _ _ _ _).mono ?_;rintro e w' ⟨rfl,rfl⟩;rw[HR2.out])
  go_ret
  exact⟨yK (by rw[HE.out];rw[HCA.out,HR2.out];rfl),HB1.out⟩
 have q1:(ek == 1)=false:=yX k1;by_cases k3:ek=3
 ·
  have q3:(ek == 3)=true:=yY k3;have HE:=xL (BP.out k3 R1.out);clear k3 k5;by_cases r2:inB ec 0 ((y.zL.length:Int) - 1)=true
  rotate_left
  ·
   have r2':inB ec 0 ((y.zL.length:Int) - 1)=false:=by simpa using r2
   have HR2:=xL r2';clear r2 r2';go_wp2_with (go_at_call 47;refine(xU _ _ _ _).mono ?_;rintro e w' ⟨rfl,rfl⟩;rw[HR2.out])
   go_ret
   exact⟨yK (by rw[HE.out];rw[HCA.out,HR2.out];rfl),HB1.out⟩
  have HR2:=xL r2;clear r2;go_wp2_with (go_at_call 47;refine(xU _ _ _ _).mono ?_;rintro e w' ⟨rfl,rfl⟩;rw[HR2.out])
  go_ret
  exact⟨yK (by rw[HE.out];rw[HCA.out,HR2.out];rfl),HB1.out⟩
 have q3:(ek == 3)=false:=yX k3;by_cases k2:ek=2
 ·
  have q2:(ek == 2)=true:=yY k2;have HE:=xL (BR.out k2 R1.out);clear k2 k5;go_wp2_with (go_at_call 47;refine(xU _ _ _ _).mono ?_;rintro e w' ⟨rfl,rfl⟩)
  go_ret
  exact⟨yK (by rw[HE.out];rw[HCA.out]),HB1.out⟩
 have q2:(ek == 2)=false:=yX k2;have HE:=xL (BF.out k5 k1 k2 k3 R1.out);clear k1 k2 k3 k5;clear kk ke;have ke:=HE1.out.cell;have kk:=HK1.out.cell;go_wp2;have g0:=xK HK1.out;have g1:=xK HE1.out;refine rB ?_
 repeat(first|go_big_quiet_skip|(go_big_quiet_want;go_big_quiet_op;first|go_big_quiet_on|(apply Exists.intro;refine⟨fun _=>?_,?_⟩;(· (first|(go_at_call 46;exact Calls.yN (vI _ _ _ _ zM))|(go_at_call 47;exact Calls.yN ((xU _ _ _ _).mono (fun e w' h=>by(first|rw[w5] at h|skip);exact h)))));go_big_quiet_on)))
 refine wpQuiet_nil ?_;rintro wB ⟨uu,rfl⟩;have hb9:=yJ wA uu;generalize bel wA uu=wB at *;have HB2:=xL (yM HB1.out HB1.out.size hb9);go_wp2;go_ret
 exact⟨yK HE.out.symm,HB2.out⟩
end Go.Proofs.YtdcofkabaigjpaaGreat
