/- Contract: isInRange, program. -/
import Derived.Test.YteiflbhcehajkaaGreatQAxExactEditCache
import Derived.Test.YteiflbhcehajkaaGreatQAeExactEditCache
set_option linter.unusedVariables false
set_option linter.unusedSimpArgs false
set_option maxHeartbeats 2000000
set_option maxRecDepth 20000
namespace Go.Proofs.YteiflbhcehajkaaGreat
open Go.RowKit
theorem c_isInRange (x:GSession) (cs:List Value) (ed:GEdit) (w:World) (hs:x.small) (h:T.rds w x.fs cs):Calls Tryz.prog 109 #[.agg cs.toArray,.agg #[.int .i64 ed.zC,.int .i64 ed.zV,.int .i64 ed.zZ,.int .i64 ed.zY,.int .i64 ed.zP.zO,.int .i64 ed.zP.zI,.int .i64 ed.zP.zA,.int .i64 ed.zP.zW,.int .i64 ed.zP.zQ]] w fun e w'=>e= .returned (.bool (tf (RangeOk x ed)))∧Below w.heap.size w w':=by
 obtain⟨ek,et,ec,ev,ns,nf,nl,na,ng⟩:=ed
 dsimp only
 obtain⟨v1,v2,v3,v4,v5,rfl,h1,h2,h3,h4,h5⟩:=GSession.yL h
 clear h
 have R1:=hide h1;obtain⟨va1,vc1,rfl,vl1,vm1,vx1⟩:=T.yK h1
 have HX1:=hide vx1;clear vx1 h1
 have R2:=hide h2;obtain⟨va2,vc2,rfl,vl2,vm2,vx2⟩:=T.yK h2
 have HX2:=hide vx2;clear vx2 h2
 have h3i:=T.yQ.1 h3;obtain⟨va3,vc3,rfl,vl3,vm3,vx3⟩:=h3i.open_
 have R3:=hide h3i;have HX3:=hide vx3;clear vx3 h3 h3i
 have R4:=hide h4;obtain⟨va4,vc4,rfl,vl4,vm4,vx4⟩:=T.yK h4
 have HX4:=hide vx4;clear vx4 h4
 have R5:=hide h5;obtain⟨va5,vc5,rfl,vl5,vm5,vx5⟩:=T.yK h5
 have HX5:=hide vx5;clear vx5 h5
 have HB0:=hide (show Below w.heap.size w (w.alloc (.cells #[.int .i64 x.zA,(.slice va1 x.zG.length vc1),(.slice va2 x.zE.length vc2),(.slice va3 x.zK.length vc3),(.slice va4 x.zJ.length vc4),(.slice va5 x.zF.zD.length vc5)] 41)) from(Below.refl _ _).alloc (Nat.le_refl _) _)
 have HK0:=hide (Bk.born w 41 #[.int .i64 x.zA,(.slice va1 x.zG.length vc1),(.slice va2 x.zE.length vc2),(.slice va3 x.zK.length vc3),(.slice va4 x.zJ.length vc4),(.slice va5 x.zF.zD.length vc5)])
 have HBa:=hide (HB0.out.alloc (by simp) (.cells #[.int .i64 ek,.int .i64 et,.int .i64 ec,.int .i64 ev,.int .i64 ns,.int .i64 nf,.int .i64 nl,.int .i64 na,.int .i64 ng] 62))
 have HKa:=hide (HK0.out.alloc (.cells #[.int .i64 ek,.int .i64 et,.int .i64 ec,.int .i64 ev,.int .i64 ns,.int .i64 nf,.int .i64 nl,.int .i64 na,.int .i64 ng] 62));have HEa:=hide (Bk.born1' w (.cells #[.int .i64 x.zA,(.slice va1 x.zG.length vc1),(.slice va2 x.zE.length vc2),(.slice va3 x.zK.length vc3),(.slice va4 x.zJ.length vc4),(.slice va5 x.zF.zD.length vc5)] 41) 62 #[.int .i64 ek,.int .i64 et,.int .i64 ec,.int .i64 ev,.int .i64 ns,.int .i64 nf,.int .i64 nl,.int .i64 na,.int .i64 ng])
 clear HB0 HK0
 obtain⟨W,hW⟩: ∃ W',W'=((w.alloc (.cells #[.int .i64 x.zA,(.slice va1 x.zG.length vc1),(.slice va2 x.zE.length vc2),(.slice va3 x.zK.length vc3),(.slice va4 x.zJ.length vc4),(.slice va5 x.zF.zD.length vc5)] 41)).alloc (.cells #[.int .i64 ek,.int .i64 et,.int .i64 ec,.int .i64 ev,.int .i64 ns,.int .i64 nf,.int .i64 nl,.int .i64 na,.int .i64 ng] 62)):=⟨_,rfl⟩
 rw[←hW] at HBa HKa HEa
 have HW:=hide hW;clear hW
 have n5:x.zF.zD.length≤1048576:=hs.2.2.2.2.1;have n2:x.zE.length≤1048576:=hs.2.1.1;have n1:x.zG.length≤1048576:=hs.1.1;have HSS:=hide hs.2.2.2.2.2;have HST:=hide hs.2.1.2;clear hs
 have BS:=hide (@rangeB_send x ⟨ek,et,ec,ev,ns,nf,nl,na,ng⟩);have BO:=hide (@rangeB_out x ⟨ek,et,ec,ev,ns,nf,nl,na,ng⟩);have BI:=hide (@rangeB_ins x ⟨ek,et,ec,ev,ns,nf,nl,na,ng⟩);have BP:=hide (@rangeB_rep x ⟨ek,et,ec,ev,ns,nf,nl,na,ng⟩);have BR:=hide (@rangeB_rem x ⟨ek,et,ec,ev,ns,nf,nl,na,ng⟩);have BF:=hide (@rangeB_feed x ⟨ek,et,ec,ev,ns,nf,nl,na,ng⟩)
 have w5:IntKind.i64.wrap ((x.zF.zD.length:Int) - 1)=(x.zF.zD.length:Int) - 1:=IntWalk.i64_in _ (by omega)
 have w2:IntKind.i64.wrap ((x.zE.length:Int) - 1)=(x.zE.length:Int) - 1:=IntWalk.i64_in _ (by omega)
 go_enter Tryz.func109,Tryz.ntmps109
 by_cases k5:ek=5
 ·
  have q5:(ek == 5)=true:=yP k5
  have HE:=hide (BS.out k5);clear k5
  by_cases r1:inB et 0 ((x.zF.zD.length:Int) - 1)=true
  rotate_left
  ·
   have r1':inB et 0 ((x.zF.zD.length:Int) - 1)=false:=by simpa using r1
   have HR1:=hide r1'
   go_wp2
   rw[←HW.out]
   have g0:=xA HKa.out;have g1:=xA HEa.out
   refine yZ (by kernel_rfl) (by kernel_rfl) ?_
   repeat(first|go_big_quiet_skip|(go_big_quiet_want;go_big_quiet_op;first|go_big_quiet_on|(apply Exists.intro;refine⟨fun _=>?_,?_⟩;(· (first|(go_at_call 83;exact Calls.yH (c_sizeStrip _ _ _ _ (by omega)))|(go_at_call 84;exact Calls.yH ((c_within _ _ _ _).mono (fun e w' h=>by(first|rw[r1'] at h|skip);exact h)))));go_big_quiet_on)))
   refine wpQuiet_nil ?_
   rintro w9 ⟨uu,rfl⟩
   have hb9:=yE W uu
   generalize bel W uu=w9 at *
   have HB9:=hide (yG HBa.out HBa.out.size hb9);have HK9:=hide (HKa.out.below hb9 HKa.out.lt);have HE9:=hide (HEa.out.below hb9 HEa.out.lt);clear hb9 g0 g1
   go_wp2
   go_ret
   exact⟨yF (by rw[HE.out];rw[HR1.out];rfl),HB9.out⟩
  have i1:=yY.1 r1
  obtain⟨k,rfl⟩: ∃ k:Nat,et=(k:Int):=⟨et.toNat,by omega⟩
  have hlt:k<x.zF.zD.length:=by omega
  have hgk:=List.getElem?_eq_getElem hlt
  have hsy:=HSS.out _ (List.getElem_mem hlt)
  obtain⟨b,off,cs1,hA,hb1,hcs,hcell⟩:=HX5.out k x.zF.zD[k] hgk
  subst hA
  have HSA:=hide (sendsAt_of hgk)
  generalize x.zF.zD[k]=y at *
  have hny:y.zS.length≤1048576:=hsy.2;clear hsy hgk
  have HB:=hide (Below.refl w.heap.size w)
  obtain⟨u2,rfl,hRY2⟩:=GStrip.yL (show T.rds _ _ _ by simpa only[GStrip.t,T.rd] using hcs)
  have d0:=(HB.out.cell hb1).trans (hcell 0 (.string y.zX) rfl)
  have d1:=(HB.out.cell hb1).trans (hcell 1 (.int .i64 y.zT) rfl)
  have d2:=(HB.out.cell hb1).trans (hcell 2 (u2) rfl)
  rw[show off+(k * 3+0)=off+k * 3 by omega] at d0
  rw[show off+(k * 3+1)=off+k * 3+1 by omega] at d1
  rw[show off+(k * 3+2)=off+k * 3+2 by omega] at d2
  have RY2:=hide (T.yC hRY2 HB.out);clear hRY2
  clear hcs hcell
  obtain⟨ua2,uc2,rfl,ul2,um2,-⟩:=T.yK RY2.out
  have wy:IntKind.i64.wrap ((y.zS.length:Int) - 1)=(y.zS.length:Int) - 1:=IntWalk.i64_in _ (by omega)
  have hk0:(0:Int)≤(k:Int):=by omega
  have hk1:(k:Int)<(x.zF.zD.length:Int):=by omega
  have HR1:=hide r1
  by_cases r2:inB ec 0 ((y.zS.length:Int) - 1)=true
  rotate_left
  ·
   have r2':inB ec 0 ((y.zS.length:Int) - 1)=false:=by simpa using r2
   have HR2:=hide r2'
   go_wp2
   rw[←HW.out]
   have g0:=xA HKa.out;have g1:=xA HEa.out
   have g2:=yD ((HBa.out.cell hb1).trans d2)
   refine yZ (by kernel_rfl) (by kernel_rfl) ?_
   repeat(first|go_big_quiet_skip|(go_big_quiet_want;go_big_quiet_op;first|go_big_quiet_on|(apply Exists.intro;refine⟨fun _=>?_,?_⟩;(· (first|(go_at_call 83;exact Calls.yH (c_sizeStrip _ _ _ _ (by omega)))|(go_at_call 168;exact Calls.yH (c_sizeSend _ _ _ _ (by omega)))|(go_at_call 84;exact Calls.yH ((c_within _ _ _ _).mono (fun e w' h=>by(first|rw[r1] at h|rw[r2'] at h|skip);exact h)))));go_big_quiet_on)))
   refine wpQuiet_nil ?_
   rintro w9 ⟨uu,rfl⟩
   have hb9:=yE W uu
   generalize bel W uu=w9 at *
   have HB9:=hide (yG HBa.out HBa.out.size hb9);have HK9:=hide (HKa.out.below hb9 HKa.out.lt);have HE9:=hide (HEa.out.below hb9 HEa.out.lt);clear hb9 g0 g1 g2
   go_wp2
   go_ret
   exact⟨yF (by rw[HE.out];rw[HR1.out,HSA.out,HR2.out];rfl),HB9.out⟩
  have HR2:=hide r2
  generalize hsm:decide (Smp ev)=sm at *;have HSM:=hide hsm;clear hsm
  go_wp2
  rw[←HW.out]
  have g0:=xA HKa.out;have g1:=xA HEa.out
  have g2:=yD ((HBa.out.cell hb1).trans d2)
  refine yZ (by kernel_rfl) (by kernel_rfl) ?_
  repeat(first|go_big_quiet_skip|(go_big_quiet_want;go_big_quiet_op;first|go_big_quiet_on|(apply Exists.intro;refine⟨fun _=>?_,?_⟩;(· (first|(go_at_call 83;exact Calls.yH (c_sizeStrip _ _ _ _ (by omega)))|(go_at_call 168;exact Calls.yH (c_sizeSend _ _ _ _ (by omega)))|(go_at_call 84;exact Calls.yH ((c_within _ _ _ _).mono (fun e w' h=>by(first|rw[r1] at h|rw[r2] at h|skip);exact h)))|(go_at_call 123;exact Calls.yH ((c_isSample _ _).mono (fun e w' h=>by(first|rw[HSM.out] at h|skip);exact h)))));go_big_quiet_on)))
  refine wpQuiet_nil ?_
  rintro w9 ⟨uu,rfl⟩
  have hb9:=yE W uu
  generalize bel W uu=w9 at *
  have HB9:=hide (yG HBa.out HBa.out.size hb9);have HK9:=hide (HKa.out.below hb9 HKa.out.lt);have HE9:=hide (HEa.out.below hb9 HEa.out.lt);clear hb9 g0 g1 g2
  go_wp2
  go_ret
  exact⟨yF (by rw[HE.out];rw[HR1.out,HSA.out,HR2.out];rfl),HB9.out⟩
 have q5:(ek == 5)=false:=yO k5
 by_cases r1:inB et 0 ((x.zE.length:Int) - 1)=true
 rotate_left
 ·
  have r1':inB et 0 ((x.zE.length:Int) - 1)=false:=by simpa using r1
  have HE:=hide (BO.out k5 r1');clear k5
  go_wp2
  rw[←HW.out]
  have g0:=xA HKa.out;have g1:=xA HEa.out
  refine yZ (by kernel_rfl) (by kernel_rfl) ?_
  repeat(first|go_big_quiet_skip|(go_big_quiet_want;go_big_quiet_op;first|go_big_quiet_on|(apply Exists.intro;refine⟨fun _=>?_,?_⟩;(· (first|(go_at_call 169;exact Calls.yH (c_sizeTrack _ _ _ _ (by omega)))|(go_at_call 84;exact Calls.yH ((c_within _ _ _ _).mono (fun e w' h=>by(first|rw[r1'] at h|skip);exact h)))));go_big_quiet_on)))
  refine wpQuiet_nil ?_
  rintro w9 ⟨uu,rfl⟩
  have hb9:=yE W uu
  generalize bel W uu=w9 at *
  have HB9:=hide (yG HBa.out HBa.out.size hb9);have HK9:=hide (HKa.out.below hb9 HKa.out.lt);have HE9:=hide (HEa.out.below hb9 HEa.out.lt);clear hb9 g0 g1
  go_wp2
  go_ret
  exact⟨yF (HE.out.symm),HB9.out⟩
 have i1:=yY.1 r1
 obtain⟨k,rfl⟩: ∃ k:Nat,et=(k:Int):=⟨et.toNat,by omega⟩
 have hlt:k<x.zE.length:=by omega
 have hgk:=List.getElem?_eq_getElem hlt
 have hsy:=HST.out _ (List.getElem_mem hlt)
 obtain⟨b,off,cs1,hA,hb1,hcs,hcell⟩:=HX2.out k x.zE[k] hgk
 subst hA
 have HCA:=hide (clipsAt_of hgk)
 generalize x.zE[k]=y at *
 have hny:y.zL.length≤1048576:=hsy;clear hsy hgk
 have HB:=hide (Below.refl w.heap.size w)
 obtain⟨u0,rfl,hRY0⟩:=GTrack.yL (show T.rds _ _ _ by simpa only[GTrack.t,T.rd] using hcs)
 have d0:=(HB.out.cell hb1).trans (hcell 0 (u0) rfl)
 rw[show off+(k * 1+0)=off+k by omega] at d0
 have RY0:=hide (T.yC hRY0 HB.out);clear hRY0
 clear hcs hcell
 obtain⟨ua0,uc0,rfl,ul0,um0,-⟩:=T.yK RY0.out
 have wy:IntKind.i64.wrap ((y.zL.length:Int) - 1)=(y.zL.length:Int) - 1:=IntWalk.i64_in _ (by omega)
 have hk0:(0:Int)≤(k:Int):=by omega
 have hk1:(k:Int)<(x.zE.length:Int):=by omega
 generalize hlo:decide (ns<(x.zG.length:Int))=lo at *;have HLO:=hide hlo
 have R1:=hide r1
 go_wp2
 rw[←HW.out]
 have g0:=xA HKa.out;have g1:=xA HEa.out
 refine yZ (by kernel_rfl) (by kernel_rfl) ?_
 repeat(first|go_big_quiet_skip|(go_big_quiet_want;go_big_quiet_op;first|go_big_quiet_on|(apply Exists.intro;refine⟨fun _=>?_,?_⟩;(· (first|(go_at_call 169;exact Calls.yH (c_sizeTrack _ _ _ _ (by omega)))|(go_at_call 84;exact Calls.yH ((c_within _ _ _ _).mono (fun e w' h=>by(first|rw[r1] at h|skip);exact h)))));go_big_quiet_on)))
 refine wpQuiet_nil ?_
 rintro w9 ⟨uu,rfl⟩
 have hb9:=yE W uu
 generalize bel W uu=w9 at *
 have HB9:=hide (yG HBa.out HBa.out.size hb9);have HK9:=hide (HKa.out.below hb9 HKa.out.lt);have HE9:=hide (HEa.out.below hb9 HEa.out.lt);clear hb9 g0 g1
 have kk:=HK9.out.cell;have ke:=HE9.out.cell
 go_wp2
 have g0:=xA HK9.out;have g1:=xA HE9.out;have g2:=yD ((HB9.out.cell hb1).trans d0)
 refine yZ (by kernel_rfl) (by kernel_rfl) ?_
 repeat(first|go_big_quiet_skip|(go_big_quiet_want;go_big_quiet_op;first|go_big_quiet_on|(apply Exists.intro;refine⟨fun _=>?_,?_⟩;(· (first|(go_at_call 170;exact Calls.yH (c_sizeClip _ _ _ _ (by omega)))|(go_at_call 90;exact Calls.yH (c_sizeLL _ _ _ _ (by omega)))));go_big_quiet_on)))
 refine wpQuiet_nil ?_
 rintro wA ⟨uu,rfl⟩
 have hb9:=yE w9 uu
 generalize bel w9 uu=wA at *
 have HB1:=hide (yG HB9.out HB9.out.size hb9);have HK1:=hide (HK9.out.below hb9 HK9.out.lt);have HE1:=hide (HE9.out.below hb9 HE9.out.lt);clear hb9 g0 g1 g2 kk ke
 have ke:=HE1.out.cell;have kk:=HK1.out.cell
 by_cases k1:ek=1
 ·
  have q1:(ek == 1)=true:=yP k1
  have HE:=hide (BI.out k1 R1.out);clear k1 k5
  by_cases r2:inB ec 0 (y.zL.length:Int)=true
  rotate_left
  ·
   have r2':inB ec 0 (y.zL.length:Int)=false:=by simpa using r2
   have HR2:=hide r2';clear r2 r2'
   go_wp2_with (go_at_call 84;refine(c_within _ _ _ _).mono ?_;rintro e w' ⟨rfl,rfl⟩;rw[HR2.out])
   go_ret
   exact⟨yF (by rw[HE.out];rw[HCA.out,HR2.out];rfl),HB1.out⟩
  have HR2:=hide r2;clear r2
  go_wp2_with (go_at_call 84;refine(c_within _ _ _ _).mono ?_;rintro e w' ⟨rfl,rfl⟩;rw[HR2.out])
  go_ret
  exact⟨yF (by rw[HE.out];rw[HCA.out,HR2.out];rfl),HB1.out⟩
 have q1:(ek == 1)=false:=yO k1
 by_cases k3:ek=3
 ·
  have q3:(ek == 3)=true:=yP k3
  have HE:=hide (BP.out k3 R1.out);clear k3 k5
  by_cases r2:inB ec 0 ((y.zL.length:Int) - 1)=true
  rotate_left
  ·
   have r2':inB ec 0 ((y.zL.length:Int) - 1)=false:=by simpa using r2
   have HR2:=hide r2';clear r2 r2'
   go_wp2_with (go_at_call 84;refine(c_within _ _ _ _).mono ?_;rintro e w' ⟨rfl,rfl⟩;rw[HR2.out])
   go_ret
   exact⟨yF (by rw[HE.out];rw[HCA.out,HR2.out];rfl),HB1.out⟩
  have HR2:=hide r2;clear r2
  go_wp2_with (go_at_call 84;refine(c_within _ _ _ _).mono ?_;rintro e w' ⟨rfl,rfl⟩;rw[HR2.out])
  go_ret
  exact⟨yF (by rw[HE.out];rw[HCA.out,HR2.out];rfl),HB1.out⟩
 have q3:(ek == 3)=false:=yO k3
 by_cases k2:ek=2
 ·
  have q2:(ek == 2)=true:=yP k2
  have HE:=hide (BR.out k2 R1.out);clear k2 k5
  go_wp2_with (go_at_call 84;refine(c_within _ _ _ _).mono ?_;rintro e w' ⟨rfl,rfl⟩)
  go_ret
  exact⟨yF (by rw[HE.out];rw[HCA.out]),HB1.out⟩
 have q2:(ek == 2)=false:=yO k2
 have HE:=hide (BF.out k5 k1 k2 k3 R1.out);clear k1 k2 k3 k5
 clear kk ke
 have ke:=HE1.out.cell;have kk:=HK1.out.cell
 go_wp2
 have g0:=xA HK1.out;have g1:=xA HE1.out
 refine yZ (by kernel_rfl) (by kernel_rfl) ?_
 repeat(first|go_big_quiet_skip|(go_big_quiet_want;go_big_quiet_op;first|go_big_quiet_on|(apply Exists.intro;refine⟨fun _=>?_,?_⟩;(· (first|(go_at_call 83;exact Calls.yH (c_sizeStrip _ _ _ _ (by omega)))|(go_at_call 84;exact Calls.yH ((c_within _ _ _ _).mono (fun e w' h=>by(first|rw[w5] at h|skip);exact h)))));go_big_quiet_on)))
 refine wpQuiet_nil ?_
 rintro wB ⟨uu,rfl⟩
 have hb9:=yE wA uu
 generalize bel wA uu=wB at *
 have HB2:=hide (yG HB1.out HB1.out.size hb9)
 go_wp2
 go_ret
 exact⟨yF HE.out.symm,HB2.out⟩
end Go.Proofs.YteiflbhcehajkaaGreat
