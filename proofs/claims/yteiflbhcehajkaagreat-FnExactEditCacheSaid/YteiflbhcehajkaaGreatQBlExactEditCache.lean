/- Contract: l31Range, reference. The session after an edit is small. -/
import Derived.Test.YteiflbhcehajkaaGreatQBfExactEditCache
import Derived.Test.YteiflbhcehajkaaGreatQAeExactEditCache
import Derived.Test.YteiflbhcehajkaaGreatQAwExactEditCache
set_option linter.unusedVariables false
set_option linter.unusedSimpArgs false
set_option maxHeartbeats 4000000
set_option maxRecDepth 20000
section
namespace Go.Proofs.YteiflbhcehajkaaGreat
open Go.RowKit
theorem c_l31Range (x:GSession) (b o:Nat) (ed:GEdit) (b' o':Nat) (w:World) (hs:x.small) (he:T.at w ed.fs b' o') (h:T.at w x.fs b o):Calls Tryz.prog 162 #[.pointer (some ⟨b,o,none⟩),.pointer (some ⟨b',o',none⟩)] w fun e w'=>e= .returned (.bool (tf (RangeOk x ed)))∧Below w.heap.size w w':=by
 have HAT:=hide h
 obtain⟨hlt0,cs,hr,hc⟩:=h
 obtain⟨v1,v2,v3,v4,v5,rfl,h1,h2,h3,h4,h5⟩:=GSession.yL hr
 clear hr
 have R1:=hide h1;obtain⟨va1,vc1,rfl,vl1,vm1,vx1⟩:=T.yK h1
 have HX1:=hide vx1;clear vx1 h1
 have R2:=hide h2;obtain⟨va2,vc2,rfl,vl2,vm2,vx2⟩:=T.yK h2
 have HX2:=hide vx2;clear vx2 h2
 have h3i:=T.yQ.1 h3;obtain⟨va3,vc3,rfl,vl3,vm3,vx3⟩:=h3i.open_
 have R3:=hide h3i;have HX3:=hide vx3;clear vx3 h3 h3i
 have R4:=hide h4;obtain⟨va4,vc4,rfl,vl4,vm4,vx4⟩:=T.yK h4
 have HX4:=hide vx4;clear vx4 h4
 have R5:=hide h5;obtain⟨va5,vc5,rfl,vl5,vm5,vx5⟩:=T.yK h5
 have HX5:=hide vx5;clear vx5 h5
 have HL:=hide hlt0;have HCC:=hide hc;have HB0:=hide (Below.refl w.heap.size w);clear hlt0 hc
 obtain⟨ek,et,ec,ev,ns,nf,nl,na,ng⟩:=ed
 obtain⟨hlt',cs',hr',hc'⟩:=he
 obtain rfl:=GEdit.yL hr'
 dsimp only at hc'
 have p0:w.cell? ⟨b,o,none⟩=some (.int .i64 x.zA):=(HB0.out.cell HL.out).trans (HCC.out 0 _ rfl)
 have p1:w.cell? ⟨b,o+1,none⟩=some (.slice va1 x.zG.length vc1):=(HB0.out.cell HL.out).trans (HCC.out 1 _ rfl)
 have p2:w.cell? ⟨b,o+2,none⟩=some (.slice va2 x.zE.length vc2):=(HB0.out.cell HL.out).trans (HCC.out 2 _ rfl)
 have p3:w.cell? ⟨b,o+3,none⟩=some (.slice va3 x.zK.length vc3):=(HB0.out.cell HL.out).trans (HCC.out 3 _ rfl)
 have p4:w.cell? ⟨b,o+4,none⟩=some (.slice va4 x.zJ.length vc4):=(HB0.out.cell HL.out).trans (HCC.out 4 _ rfl)
 have p5:w.cell? ⟨b,o+5,none⟩=some (.slice va5 x.zF.zD.length vc5):=(HB0.out.cell HL.out).trans (HCC.out 5 _ rfl)
 have lb:b<w.heap.size:=Nat.lt_of_lt_of_le HL.out HB0.out.size
 have c0:w.cell? ⟨b',o',none⟩=some (.int .i64 ek):=hc' 0 _ rfl
 have c1:w.cell? ⟨b',o'+1,none⟩=some (.int .i64 et):=hc' 1 _ rfl
 have c2:w.cell? ⟨b',o'+2,none⟩=some (.int .i64 ec):=hc' 2 _ rfl
 have c3:w.cell? ⟨b',o'+3,none⟩=some (.int .i64 ev):=hc' 3 _ rfl
 have c4:w.cell? ⟨b',o'+4,none⟩=some (.int .i64 ns):=hc' 4 _ rfl
 clear hc' hr'
 have n5:x.zF.zD.length≤1048576:=hs.2.2.2.2.1;have n2:x.zE.length≤1048576:=hs.2.1.1;have n1:x.zG.length≤1048576:=hs.1.1;have HSS:=hide hs.2.2.2.2.2;have HST:=hide hs.2.1.2;clear hs
 have BS:=hide (@rangeB_send x ⟨ek,et,ec,ev,⟨ns,nf,nl,na,ng⟩⟩);have BO:=hide (@rangeB_out x ⟨ek,et,ec,ev,⟨ns,nf,nl,na,ng⟩⟩);have BI:=hide (@rangeB_ins x ⟨ek,et,ec,ev,⟨ns,nf,nl,na,ng⟩⟩);have BP:=hide (@rangeB_rep x ⟨ek,et,ec,ev,⟨ns,nf,nl,na,ng⟩⟩);have BR:=hide (@rangeB_rem x ⟨ek,et,ec,ev,⟨ns,nf,nl,na,ng⟩⟩);have BF:=hide (@rangeB_feed x ⟨ek,et,ec,ev,⟨ns,nf,nl,na,ng⟩⟩)
 have w5:IntKind.i64.wrap ((x.zF.zD.length:Int) - 1)=(x.zF.zD.length:Int) - 1:=IntWalk.i64_in _ (by omega)
 have w2:IntKind.i64.wrap ((x.zE.length:Int) - 1)=(x.zE.length:Int) - 1:=IntWalk.i64_in _ (by omega)
 have lb':b'<w.heap.size:=hlt'
 go_enter Tryz.func162,Tryz.ntmps162
 by_cases k5:ek=5
 ·
  have q5:(ek == 5)=true:=yP k5
  have HE:=hide (BS.out k5);clear k5
  by_cases r1:inB et 0 ((x.zF.zD.length:Int) - 1)=true
  rotate_left
  ·
   have r1':inB et 0 ((x.zF.zD.length:Int) - 1)=false:=by simpa using r1
   have HR1:=hide r1'
   go_wp2
   have g0:=yD p0
   have g1:=yD p1
   have g2:=yD p2
   have g3:=yD p5
   have g4:=yD c0
   have g5:=yD c1
   have g6:=yD c2
   have g7:=yD c3
   have g8:=yD c4
   refine yZ (by kernel_rfl) (by kernel_rfl) ?_
   repeat(first|go_big_quiet_skip|(go_big_quiet_want;go_big_quiet_op;first|go_big_quiet_on|(apply Exists.intro;refine⟨fun _=>?_,?_⟩;(· (first|(go_at_call 74;exact Calls.yH ((c_l00In _ _ _ _).mono (fun e w' h=>by(first|rw[r1'] at h|skip);exact h)))));go_big_quiet_on)))
   refine wpQuiet_nil ?_
   rintro w9 ⟨uu,rfl⟩
   have hb9:=yE w uu
   generalize bel w uu=w9 at *
   have HB9:=hide (yG HB0.out HB0.out.size hb9);clear g0 g1 g2 g3 g4 g5 g6 g7 g8
   go_wp2
   go_ret
   exact⟨yF (by rw[HE.out];rw[HR1.out];rfl),HB9.out⟩
  have i1:=yY.1 r1
  obtain⟨k,rfl⟩: ∃ k:Nat,et=(k:Int):=⟨et.toNat,by omega⟩
  have hlt:k<x.zF.zD.length:=by omega
  have hgk:=List.getElem?_eq_getElem hlt
  have hsy:=HSS.out _ (List.getElem_mem hlt)
  obtain⟨b1,off,cs1,hA,hb1,hcs,hcell⟩:=HX5.out k x.zF.zD[k] hgk
  subst hA
  have HSA:=hide (sendsAt_of hgk)
  generalize x.zF.zD[k]=y at *
  have hny:y.zS.length≤1048576:=hsy.2;clear hsy hgk
  have HBr:=hide (Below.refl w.heap.size w)
  obtain⟨u2,rfl,hRY2⟩:=GStrip.yL (show T.rds _ _ _ by simpa only[GStrip.t,T.rd] using hcs)
  have d0:=(HBr.out.cell hb1).trans (hcell 0 (.string y.zX) rfl)
  have d1:=(HBr.out.cell hb1).trans (hcell 1 (.int .i64 y.zT) rfl)
  have d2:=(HBr.out.cell hb1).trans (hcell 2 (u2) rfl)
  rw[show off+(k * 3+0)=off+k * 3 by omega] at d0
  rw[show off+(k * 3+1)=off+k * 3+1 by omega] at d1
  rw[show off+(k * 3+2)=off+k * 3+2 by omega] at d2
  have RY2:=hide (T.yC hRY2 HBr.out);clear hRY2
  clear hcs hcell
  obtain⟨ua2,uc2,rfl,ul2,um2,-⟩:=T.yK RY2.out
  have wy:IntKind.i64.wrap ((y.zS.length:Int) - 1)=(y.zS.length:Int) - 1:=IntWalk.i64_in _ (by omega)
  have hk0:(0:Int)≤(k:Int):=by omega
  have hk1:(k:Int)<(x.zF.zD.length:Int):=by omega
  have HR1:=hide r1
  by_cases r2:inB ec 0 ((y.zS.length:Int) - 1)=true
  rotate_left
  ·
   have r2':inB ec 0 ((y.zS.length:Int) - 1)=false:=by simpa using r2
   have HR2:=hide r2'
   go_wp2
   have g0:=yD p0
   have g1:=yD p1
   have g2:=yD p2
   have g3:=yD p5
   have g4:=yD c0
   have g5:=yD c1
   have g6:=yD c2
   have g7:=yD c3
   have g8:=yD c4
   have g9:=yD d2
   refine yZ (by kernel_rfl) (by kernel_rfl) ?_
   repeat(first|go_big_quiet_skip|(go_big_quiet_want;go_big_quiet_op;first|go_big_quiet_on|(apply Exists.intro;refine⟨fun _=>?_,?_⟩;(· (first|(go_at_call 74;exact Calls.yH ((c_l00In _ _ _ _).mono (fun e w' h=>by(first|rw[r1] at h|rw[r2'] at h|skip);exact h)))));go_big_quiet_on)))
   refine wpQuiet_nil ?_
   rintro w9 ⟨uu,rfl⟩
   have hb9:=yE w uu
   generalize bel w uu=w9 at *
   have HB9:=hide (yG HB0.out HB0.out.size hb9);clear g0 g1 g2 g3 g4 g5 g6 g7 g8 g9
   go_wp2
   go_ret
   exact⟨yF (by rw[HE.out];rw[HR1.out,HSA.out,HR2.out];rfl),HB9.out⟩
  have HR2:=hide r2
  generalize hsm:decide (Smp ev)=sm at *;have HSM:=hide hsm;clear hsm
  go_wp2
  have g0:=yD p0
  have g1:=yD p1
  have g2:=yD p2
  have g3:=yD p5
  have g4:=yD c0
  have g5:=yD c1
  have g6:=yD c2
  have g7:=yD c3
  have g8:=yD c4
  have g9:=yD d2
  refine yZ (by kernel_rfl) (by kernel_rfl) ?_
  repeat(first|go_big_quiet_skip|(go_big_quiet_want;go_big_quiet_op;first|go_big_quiet_on|(apply Exists.intro;refine⟨fun _=>?_,?_⟩;(· (first|(go_at_call 74;exact Calls.yH ((c_l00In _ _ _ _).mono (fun e w' h=>by(first|rw[r1] at h|rw[r2] at h|skip);exact h)))|(go_at_call 114;exact Calls.yH ((c_l01Sample _ _).mono (fun e w' h=>by(first|rw[HSM.out] at h|skip);exact h)))));go_big_quiet_on)))
  refine wpQuiet_nil ?_
  rintro w9 ⟨uu,rfl⟩
  have hb9:=yE w uu
  generalize bel w uu=w9 at *
  have HB9:=hide (yG HB0.out HB0.out.size hb9);clear g0 g1 g2 g3 g4 g5 g6 g7 g8 g9
  go_wp2
  go_ret
  exact⟨yF (by rw[HE.out];rw[HR1.out,HSA.out,HR2.out];rfl),HB9.out⟩
 have q5:(ek == 5)=false:=yO k5
 by_cases r1:inB et 0 ((x.zE.length:Int) - 1)=true
 rotate_left
 ·
  have r1':inB et 0 ((x.zE.length:Int) - 1)=false:=by simpa using r1
  have HE:=hide (BO.out k5 r1');clear k5
  go_wp2
  have g0:=yD p0
  have g1:=yD p1
  have g2:=yD p2
  have g3:=yD p5
  have g4:=yD c0
  have g5:=yD c1
  have g6:=yD c2
  have g7:=yD c3
  have g8:=yD c4
  refine yZ (by kernel_rfl) (by kernel_rfl) ?_
  repeat(first|go_big_quiet_skip|(go_big_quiet_want;go_big_quiet_op;first|go_big_quiet_on|(apply Exists.intro;refine⟨fun _=>?_,?_⟩;(· (first|(go_at_call 74;exact Calls.yH ((c_l00In _ _ _ _).mono (fun e w' h=>by(first|rw[r1'] at h|skip);exact h)))));go_big_quiet_on)))
  refine wpQuiet_nil ?_
  rintro w9 ⟨uu,rfl⟩
  have hb9:=yE w uu
  generalize bel w uu=w9 at *
  have HB9:=hide (yG HB0.out HB0.out.size hb9);clear g0 g1 g2 g3 g4 g5 g6 g7 g8
  go_wp2
  go_ret
  exact⟨yF (HE.out.symm),HB9.out⟩
 have i1:=yY.1 r1
 obtain⟨k,rfl⟩: ∃ k:Nat,et=(k:Int):=⟨et.toNat,by omega⟩
 have hlt:k<x.zE.length:=by omega
 have hgk:=List.getElem?_eq_getElem hlt
 have hsy:=HST.out _ (List.getElem_mem hlt)
 obtain⟨b1,off,cs1,hA,hb1,hcs,hcell⟩:=HX2.out k x.zE[k] hgk
 subst hA
 have HCA:=hide (clipsAt_of hgk)
 generalize x.zE[k]=y at *
 have hny:y.zL.length≤1048576:=hsy;clear hsy hgk
 have HBr:=hide (Below.refl w.heap.size w)
 obtain⟨u0,rfl,hRY0⟩:=GTrack.yL (show T.rds _ _ _ by simpa only[GTrack.t,T.rd] using hcs)
 have d0:=(HBr.out.cell hb1).trans (hcell 0 (u0) rfl)
 rw[show off+(k * 1+0)=off+k by omega] at d0
 have RY0:=hide (T.yC hRY0 HBr.out);clear hRY0
 clear hcs hcell
 obtain⟨ua0,uc0,rfl,ul0,um0,-⟩:=T.yK RY0.out
 have wy:IntKind.i64.wrap ((y.zL.length:Int) - 1)=(y.zL.length:Int) - 1:=IntWalk.i64_in _ (by omega)
 have hk0:(0:Int)≤(k:Int):=by omega
 have hk1:(k:Int)<(x.zE.length:Int):=by omega
 have R1:=hide r1
 have HC0:=hide c0
 have HC1:=hide c1
 have HC2:=hide c2
 have HC3:=hide c3
 have HC4:=hide c4
 have HD0:=hide d0
 clear p3 p4
 go_wp2
 have g0:=yD p0
 have g1:=yD p1
 have g2:=yD p2
 have g3:=yD p5
 have g4:=yD c0
 have g5:=yD c1
 have g6:=yD c2
 have g7:=yD c3
 have g8:=yD c4
 have g9:=yD d0
 refine yZ (by kernel_rfl) (by kernel_rfl) ?_
 repeat(first|go_big_quiet_skip|(go_big_quiet_want;go_big_quiet_op;first|go_big_quiet_on|(apply Exists.intro;refine⟨fun _=>?_,?_⟩;(· (first|(go_at_call 74;exact Calls.yH ((c_l00In _ _ _ _).mono (fun e w' h=>by(first|rw[r1] at h|skip);exact h)))));go_big_quiet_on)))
 refine wpQuiet_nil ?_
 rintro w9 ⟨uu,rfl⟩
 have hb9:=yE w uu
 generalize bel w uu=w9 at *
 have HB9:=hide (yG HB0.out HB0.out.size hb9);clear g0 g1 g2 g3 g4 g5 g6 g7 g8 g9
 replace p0:w9.cell? ⟨b,o,none⟩=some (.int .i64 x.zA):=(HB9.out.cell HL.out).trans (HCC.out 0 _ rfl)
 replace p1:w9.cell? ⟨b,o+1,none⟩=some (.slice va1 x.zG.length vc1):=(HB9.out.cell HL.out).trans (HCC.out 1 _ rfl)
 replace p2:w9.cell? ⟨b,o+2,none⟩=some (.slice (some ⟨b1,off,none⟩) x.zE.length vc2):=(HB9.out.cell HL.out).trans (HCC.out 2 _ rfl)
 replace p5:w9.cell? ⟨b,o+5,none⟩=some (.slice va5 x.zF.zD.length vc5):=(HB9.out.cell HL.out).trans (HCC.out 5 _ rfl)
 replace c0:=(HB9.out.cell lb').trans HC0.out
 replace c1:=(HB9.out.cell lb').trans HC1.out
 replace c2:=(HB9.out.cell lb').trans HC2.out
 replace c3:=(HB9.out.cell lb').trans HC3.out
 replace c4:=(HB9.out.cell lb').trans HC4.out
 replace d0:=(HB9.out.cell hb1).trans HD0.out
 go_wp2
 have g0:=yD p0
 have g1:=yD p1
 have g2:=yD p2
 have g3:=yD p5
 have g4:=yD c0
 have g5:=yD c1
 have g6:=yD c2
 have g7:=yD c3
 have g8:=yD c4
 have g9:=yD d0
 refine yZ (by kernel_rfl) (by kernel_rfl) ?_
 repeat(first|go_big_quiet_skip|(go_big_quiet_want;go_big_quiet_op;first|go_big_quiet_on|(apply Exists.intro;refine⟨fun _=>?_,?_⟩;(· (fail));go_big_quiet_on)))
 refine wpQuiet_nil ?_
 rintro wA ⟨uu,rfl⟩
 have hb9:=yE w9 uu
 generalize bel w9 uu=wA at *
 have HB1:=hide (yG HB9.out HB9.out.size hb9);clear hb9 g0 g1 g2 g3 g4 g5 g6 g7 g8 g9
 replace p0:wA.cell? ⟨b,o,none⟩=some (.int .i64 x.zA):=(HB1.out.cell HL.out).trans (HCC.out 0 _ rfl)
 replace p1:wA.cell? ⟨b,o+1,none⟩=some (.slice va1 x.zG.length vc1):=(HB1.out.cell HL.out).trans (HCC.out 1 _ rfl)
 replace p2:wA.cell? ⟨b,o+2,none⟩=some (.slice (some ⟨b1,off,none⟩) x.zE.length vc2):=(HB1.out.cell HL.out).trans (HCC.out 2 _ rfl)
 replace p5:wA.cell? ⟨b,o+5,none⟩=some (.slice va5 x.zF.zD.length vc5):=(HB1.out.cell HL.out).trans (HCC.out 5 _ rfl)
 replace c0:=(HB1.out.cell lb').trans HC0.out
 replace c1:=(HB1.out.cell lb').trans HC1.out
 replace c2:=(HB1.out.cell lb').trans HC2.out
 replace c3:=(HB1.out.cell lb').trans HC3.out
 replace c4:=(HB1.out.cell lb').trans HC4.out
 replace d0:=(HB1.out.cell hb1).trans HD0.out
 by_cases k1:ek=1
 ·
  have q1:(ek == 1)=true:=yP k1
  have HE:=hide (BI.out k1 R1.out);clear k1 k5
  by_cases r2:inB ec 0 (y.zL.length:Int)=true
  rotate_left
  ·
   have r2':inB ec 0 (y.zL.length:Int)=false:=by simpa using r2
   have HR2:=hide r2';clear r2 r2'
   go_wp2_with (go_at_call 74;refine(c_l00In _ _ _ _).mono ?_;rintro e w' ⟨rfl,rfl⟩;rw[HR2.out])
   go_ret
   exact⟨yF (by rw[HE.out];rw[HCA.out,HR2.out];rfl),HB1.out⟩
  have HR2:=hide r2;clear r2
  go_wp2_with (go_at_call 74;refine(c_l00In _ _ _ _).mono ?_;rintro e w' ⟨rfl,rfl⟩;rw[HR2.out])
  go_ret
  exact⟨yF (by rw[HE.out];rw[HCA.out,HR2.out];rfl),HB1.out⟩
 have q1:(ek == 1)=false:=yO k1
 by_cases k3:ek=3
 ·
  have q3:(ek == 3)=true:=yP k3
  have HE:=hide (BP.out k3 R1.out);clear k3 k5
  by_cases r2:inB ec 0 ((y.zL.length:Int) - 1)=true
  rotate_left
  ·
   have r2':inB ec 0 ((y.zL.length:Int) - 1)=false:=by simpa using r2
   have HR2:=hide r2';clear r2 r2'
   go_wp2_with (go_at_call 74;refine(c_l00In _ _ _ _).mono ?_;rintro e w' ⟨rfl,rfl⟩;rw[HR2.out])
   go_ret
   exact⟨yF (by rw[HE.out];rw[HCA.out,HR2.out];rfl),HB1.out⟩
  have HR2:=hide r2;clear r2
  go_wp2_with (go_at_call 74;refine(c_l00In _ _ _ _).mono ?_;rintro e w' ⟨rfl,rfl⟩;rw[HR2.out])
  go_ret
  exact⟨yF (by rw[HE.out];rw[HCA.out,HR2.out];rfl),HB1.out⟩
 have q3:(ek == 3)=false:=yO k3
 by_cases k2:ek=2
 ·
  have q2:(ek == 2)=true:=yP k2
  have HE:=hide (BR.out k2 R1.out);clear k2 k5
  go_wp2_with (go_at_call 74;refine(c_l00In _ _ _ _).mono ?_;rintro e w' ⟨rfl,rfl⟩)
  go_ret
  exact⟨yF (by rw[HE.out];rw[HCA.out]),HB1.out⟩
 have q2:(ek == 2)=false:=yO k2
 have HE:=hide (BF.out k5 k1 k2 k3 R1.out);clear k1 k2 k3 k5
 go_wp2_with (go_at_call 74;refine(c_l00In _ _ _ _).mono ?_;rintro e w' ⟨rfl,rfl⟩)
 go_ret
 exact⟨yF HE.out.symm,HB1.out⟩
end Go.Proofs.YteiflbhcehajkaaGreat
end
section
namespace Go.Proofs.YteiflbhcehajkaaGreat
open Go.RowKit
theorem turnAt_mem {α:Type} {l:List α} {k:Nat} {f:α→α} {y:α} (h:y ∈ turnAt l k f):y ∈ l∨ ∃ x ∈ l,y=f x:=by
 unfold turnAt at h
 split at h
 ·next x hx=>
  rcases List.mem_or_eq_of_mem_set h with h|h
  ·exact .inl h
  ·exact .inr ⟨x,List.mem_of_getElem? hx,h⟩
 ·exact .inl h
theorem editL_len (l:List GClip) (e:GEdit):(editL l e).length≤l.length+1:=by
 unfold editL
 split
 ·simp;omega
 ·split
  ·simp;omega
  ·simp;omega
theorem doE_small {s:GSession} {e:GEdit} (h:s.small) (hv:SessionOk s):(doE s e).small:=by
 obtain⟨h1,h2,h3,h4,h5⟩:=h
 unfold doE
 split
 ·exact⟨h1,h2,by simpa using h3,h4,h5⟩
 split
 ·refine⟨h1,h2,h3,h4,⟨by rw[length_turnAt];exact h5.1,fun y hy=>?_⟩⟩
  rcases turnAt_mem hy with hy|⟨x,hx,rfl⟩
  ·exact h5.2 y hy
  ·exact⟨(h5.2 x hx).1,by show (turnAt x.zS _ _).length≤_;rw[length_turnAt];exact(h5.2 x hx).2⟩
 ·refine⟨h1,⟨by rw[length_turnAt];exact h2.1,fun y hy=>?_⟩,h3,h4,h5⟩
  rcases turnAt_mem hy with hy|⟨x,hx,rfl⟩
  ·exact h2.2 y hy
  ·obtain⟨k,hk⟩:=List.mem_iff_getElem?.1 hx
   have h6:=(hv.tracks k x hk).1.few
   have h7:=editL_len x.zL e
   show (editL x.zL e).length≤1048576
   omega
end Go.Proofs.YteiflbhcehajkaaGreat
end
