/- Contracts: the texts of patches and mixers, by the reference. Contract: the text of a mixer, by the reference. Bytes that a conversion of a string has made, and what is appended to them. -/
import Derived.Test.YtbgedljbgkcpiaaGreatDoorQBeExactDiffSessions
import Derived.Test.YtbgedljbgkcpiaaGreatDoorQBfExactDiffSessions
import Derived.Test.YtbgedljbgkcpiaaGreatDoorQAmExactDiffSessions
import Derived.Test.YtbgedljbgkcpiaaGreatDoorQAfExactDiffSessions
import Derived.Test.YtbgedljbgkcpiaaGreatDoorQAbExactDiffSessions
import Derived.Lib.ConvBytes
set_option linter.unusedVariables false
set_option linter.unusedSimpArgs false
set_option maxHeartbeats 8000000
set_option maxRecDepth 100000
section
namespace Go.Proofs.YtbgedljbgkcpiaaGreatDoor
open Go.RowKit
theorem c_l07Text (x:GPatch) (b o:Nat) (w:World) (hF:FormedOk x) (hg:x.good) (hs:x.small) (h:T.at w x.fs b o):Calls Tryz.prog 56 #[.pointer (some ⟨b,o,none⟩)] w fun e w'=>e= .returned (.string (mkS (patchL x)))∧Below w.heap.size w w':=by
 have HAT:=hide h
 obtain⟨hlt0,cs,hr,hc⟩:=h
 obtain⟨v1,v2,v3,rfl,h1,h2,h3⟩:=GPatch.yM hr
 clear hr
 have R1:=hide h1;obtain⟨va1,vc1,rfl,vl1,vm1,vx1⟩:=T.yL h1
 have HX1:=hide vx1;clear vx1 h1
 have R2:=hide h2;obtain⟨va2,vc2,rfl,vl2,vm2,vx2⟩:=T.yL h2
 have HX2:=hide vx2;clear vx2 h2
 have h3i:=T.yQ.1 h3;obtain⟨va3,vc3,rfl,vl3,vm3,vx3⟩:=h3i.open_
 have R3:=hide h3i;have HX3:=hide vx3;clear vx3 h3 h3i
 have HL:=hide hlt0;have HCC:=hide hc;have HB0:=hide (Below.refl w.heap.size w);clear hlt0 hc
 have HF:=hide hF;have HPL:=hide (patch_len hF hg)
 have GI:=hide hg.1;have GT:=hide hg.2.1;have GN:=hide hg.2.2.1;have GO:=hide hg.2.2.2;have ST:=hide hs.1;have SO:=hide hs.2.2;clear hg hs hF
 have zI:(decS x.zJ).size≤21:=by unfold decS;rw[size_mkS];exact dec_len GI.out
 have hp6:(⟨#[112,97,116,99,104,32]⟩:ByteArray).size=6:=rfl;have h10:(⟨#[10]⟩:ByteArray).size=1:=rfl
 have HW1:=hide (show ((⟨#[112,97,116,99,104,32]⟩:ByteArray)++decS x.zJ)++(⟨#[10]⟩:ByteArray)=mkS (lineL (wrdL [112,97,116,99,104] [x.zJ])) by apply str_is;simp[dat_app,dat_dec,wrdL,blanks,blankL,lineL])
 have z1:((⟨#[112,97,116,99,104,32]⟩:ByteArray)++decS x.zJ).size≤27:=by rw[ByteArray.size_append,hp6];omega
 have HPS:=hide (show patchL x=lineL (wrdL [112,97,116,99,104] [x.zJ])++x.zN.flatMap (fun t=>lineL (wrdL [118,97,108,117,101,115] t))++x.zD.flatMap (fun y=>lineL (nodeL y))++lineL (wrdL [111,117,116] x.zK) from rfl)
 have HLS:=hide (show (lineL (wrdL [112,97,116,99,104] [x.zJ])).length+(x.zN.flatMap (fun t=>lineL (wrdL [118,97,108,117,101,115] t))).length+(x.zD.flatMap (fun y=>lineL (nodeL y))).length+(lineL (wrdL [111,117,116] x.zK)).length≤20000 by have:=HPL.out;rw[HPS.out] at this;simp only[List.length_append] at this;omega)
 generalize lineL (wrdL [112,97,116,99,104] [x.zJ])=l0 at *
 have p0:w.cell? ⟨b,o,none⟩=some (.int .i64 x.zJ):=(HB0.out.cell HL.out).trans (HCC.out 0 _ rfl)
 have p1:w.cell? ⟨b,o+1,none⟩=some (.slice va1 x.zN.length vc1):=(HB0.out.cell HL.out).trans (HCC.out 1 _ rfl)
 have p2:w.cell? ⟨b,o+2,none⟩=some (.slice va2 x.zD.length vc2):=(HB0.out.cell HL.out).trans (HCC.out 2 _ rfl)
 have p3:w.cell? ⟨b,o+3,none⟩=some (.slice va3 x.zK.length vc3):=(HB0.out.cell HL.out).trans (HCC.out 3 _ rfl)
 have lb:b<w.heap.size:=Nat.lt_of_lt_of_le HL.out HB0.out.size
 go_enter Tryz.func56,Tryz.ntmps56
 go_wp2_with fail
 refine(c_sDec x.zJ _ GI.out).mono ?_;rintro e w1 ⟨rfl,hb⟩
 have HB1:=hide hb;clear hb p0 p1 p2 p3 lb
 have p0:w1.cell? ⟨b,o,none⟩=some (.int .i64 x.zJ):=(HB1.out.cell HL.out).trans (HCC.out 0 _ rfl)
 have p1:w1.cell? ⟨b,o+1,none⟩=some (.slice va1 x.zN.length vc1):=(HB1.out.cell HL.out).trans (HCC.out 1 _ rfl)
 have p2:w1.cell? ⟨b,o+2,none⟩=some (.slice va2 x.zD.length vc2):=(HB1.out.cell HL.out).trans (HCC.out 2 _ rfl)
 have p3:w1.cell? ⟨b,o+3,none⟩=some (.slice va3 x.zK.length vc3):=(HB1.out.cell HL.out).trans (HCC.out 3 _ rfl)
 have lb:b<w1.heap.size:=Nat.lt_of_lt_of_le HL.out HB1.out.size
 go_wp2
 go_loopw [3,4] (fun o i wr=> ∃ (k:Nat) (X:ByteArray),k≤x.zN.length∧i= .int .i64 (k:Int)∧o= .string X∧X=mkS (l0++(x.zN.take k).flatMap (fun t=>lineL (wrdL [118,97,108,117,101,115] t)))∧Below w.heap.size w wr) (fun _ i _=>x.zN.length - (intOf i).toNat)
 case atStart=>exact⟨0,_,Nat.zero_le _,rfl,rfl,by rw[HW1.out,List.take_zero,List.flatMap_nil,List.append_nil],HB1.out⟩
 case round=>
  obtain⟨k,X,hk,rfl,rfl,hX,hbw⟩:=hrel
  have HXX:=hide hX;have HB:=hide hbw;have zX:X.size≤20000:=by rw[hX,size_mkS,List.length_append];have:=flat_cut (xs:=x.zN) (fun t=>lineL (wrdL [118,97,108,117,101,115] t)) k;have:=HLS.out;omega
  clear hX hbw p0 p1 p2 p3 lb
  have p0:wr.cell? ⟨b,o,none⟩=some (.int .i64 x.zJ):=(HB.out.cell HL.out).trans (HCC.out 0 _ rfl)
  have p1:wr.cell? ⟨b,o+1,none⟩=some (.slice va1 x.zN.length vc1):=(HB.out.cell HL.out).trans (HCC.out 1 _ rfl)
  have p2:wr.cell? ⟨b,o+2,none⟩=some (.slice va2 x.zD.length vc2):=(HB.out.cell HL.out).trans (HCC.out 2 _ rfl)
  have p3:wr.cell? ⟨b,o+3,none⟩=some (.slice va3 x.zK.length vc3):=(HB.out.cell HL.out).trans (HCC.out 3 _ rfl)
  have lb:b<wr.heap.size:=Nat.lt_of_lt_of_le HL.out HB.out.size
  by_cases hlt:k<x.zN.length
  ·
   have hgk:=List.getElem?_eq_getElem hlt
   obtain⟨b1,off,cs1,rfl,hb1,hcs,hcell⟩:=HX1.out k x.zN[k] hgk
   have hgl:=GT.out x.zN[k] (List.getElem_mem hlt);have hsl:=ST.out.2 x.zN[k] (List.getElem_mem hlt)
   generalize x.zN[k]=l at *
   have HG:=hide hgk;have GL:=hide hgl;have SL:=hide hsl;clear hgk hgl hsl
   obtain⟨u3,rfl⟩:=T.rd_one hcs
   have d0:=(HB.out.cell hb1).trans (hcell 0 u3 rfl)
   rw[Nat.mul_one,Nat.add_zero] at d0
   have hb2:b1<wr.heap.size:=Nat.lt_of_lt_of_le hb1 HB.out.size
   have RL:=hide (T.yQ.1 hcs);clear hcs hcell
   obtain⟨A3,c3,rfl,l3,m3,x3⟩:=RL.out.open_;clear x3
   have zl:(mkS (lineL (wrdL [118,97,108,117,101,115] l))).size≤23068680:=by rw[size_mkS,line_len];have:=word_len (p:= [118,97,108,117,101,115]) GL.out SL.out;have:([118,97,108,117,101,115]:List UInt8).length=6:=rfl;omega
   go_wp2_with (go_at_call 97;refine(c_l07Line ⟨#[118,97,108,117,101,115]⟩ _ l _ (Rd.below RL.out HB.out) GL.out SL.out (by decide)).mono ?_;rintro e w3 ⟨rfl,hb⟩;have HB3:=hide (yH HB.out HB.out.size hb);clear hb)
   go_roundw
   case rel=>exact⟨k+1,_,by omega,by go_num,rfl,by rw[HXX.out,flat_take _ HG.out,←List.append_assoc];exact mkS_append _ _,HB3.out⟩
   case measure=>simp[intOf];omega
  obtain rfl:k=x.zN.length:=by omega
  rw[List.take_length] at HXX
  clear hlt hk
  have HXY:=HXX;have zY:=zX;have HB4:=HB;clear HXX HB zX
  go_wp2
  go_loopw [3,5] (fun o i wr=> ∃ (k:Nat) (X:ByteArray),k≤x.zD.length∧i= .int .i64 (k:Int)∧o= .string X∧X=mkS ((l0++x.zN.flatMap (fun t=>lineL (wrdL [118,97,108,117,101,115] t)))++(x.zD.take k).flatMap (fun y=>lineL (nodeL y)))∧Below w.heap.size w wr) (fun _ i _=>x.zD.length - (intOf i).toNat)
  case atStart=>exact⟨0,_,Nat.zero_le _,rfl,rfl,by rw[HXY.out,List.take_zero,List.flatMap_nil,List.append_nil],HB4.out⟩
  case round=>
   obtain⟨k,X,hk,rfl,rfl,hX,hbw⟩:=hrel
   have HXX:=hide hX;have HB:=hide hbw;have zX:X.size≤20000:=by rw[hX,size_mkS];simp only[List.length_append];have:=flat_cut (xs:=x.zD) (fun y=>lineL (nodeL y)) k;have:=HLS.out;omega
   clear hX hbw p0 p1 p2 p3 lb
   have p0:wr.cell? ⟨b,o,none⟩=some (.int .i64 x.zJ):=(HB.out.cell HL.out).trans (HCC.out 0 _ rfl)
   have p1:wr.cell? ⟨b,o+1,none⟩=some (.slice va1 x.zN.length vc1):=(HB.out.cell HL.out).trans (HCC.out 1 _ rfl)
   have p2:wr.cell? ⟨b,o+2,none⟩=some (.slice va2 x.zD.length vc2):=(HB.out.cell HL.out).trans (HCC.out 2 _ rfl)
   have p3:wr.cell? ⟨b,o+3,none⟩=some (.slice va3 x.zK.length vc3):=(HB.out.cell HL.out).trans (HCC.out 3 _ rfl)
   have lb:b<wr.heap.size:=Nat.lt_of_lt_of_le HL.out HB.out.size
   by_cases hlt:k<x.zD.length
   ·
    have hgk:=List.getElem?_eq_getElem hlt
    obtain⟨b1,off,csy,hA,hb1,hcs,hcell⟩:=HX2.out k x.zD[k] hgk
    subst hA
    generalize x.zD[k]=y at *
    have HG:=hide hgk;clear hgk
    have HAy:=hide (T.at_elem (o:=off+k * 4) hb1 (show T.rds w y.fs csy by simpa only[GNode.t,T.rd] using hcs) hcell (by omega));clear hcs hcell
    clear p0 p1 p2 p3 lb
    have p0:wr.cell? ⟨b,o,none⟩=some (.int .i64 x.zJ):=(HB.out.cell HL.out).trans (HCC.out 0 _ rfl)
    have p1:wr.cell? ⟨b,o+1,none⟩=some (.slice va1 x.zN.length vc1):=(HB.out.cell HL.out).trans (HCC.out 1 _ rfl)
    have p2:wr.cell? ⟨b,o+2,none⟩=some (.slice (some ⟨b1,off,none⟩) x.zD.length vc2):=(HB.out.cell HL.out).trans (HCC.out 2 _ rfl)
    have p3:wr.cell? ⟨b,o+3,none⟩=some (.slice va3 x.zK.length vc3):=(HB.out.cell HL.out).trans (HCC.out 3 _ rfl)
    have lb:b<wr.heap.size:=Nat.lt_of_lt_of_le HL.out HB.out.size
    have hok:=(HF.out.nodes k y HG.out).1;have GY:=hide (GN.out y (List.mem_of_getElem? HG.out))
    have har:y.zG.length≤24:=by have:=hok.arity;have:=knd_in y.zC;omega
    have HKY:=hide hok.kind;have HNL:=hide (node_len GY.out har);clear hok
    have zn:(mkS (nodeL y)).size≤600:=by rw[size_mkS];exact HNL.out
    have zn2:(mkS (nodeL y)++(⟨#[10]⟩:ByteArray)).size≤601:=by rw[ByteArray.size_append,h10];omega
    go_wp2_with (go_at_call 98;refine(c_l06Text y b1 (off+k * 4) _ HKY.out har GY.out (T.at_below HAy.out HB.out)).mono ?_;rintro e w3 ⟨rfl,hb⟩;have HB3:=hide (yH HB.out HB.out.size hb);clear hb)
    go_roundw
    case rel=>exact⟨k+1,_,by omega,by go_num,rfl,by rw[HXX.out,flat_take _ HG.out];apply str_is;simp[dat_app,dat_mk,lineL],HB3.out⟩
    case measure=>simp[intOf];omega
   obtain rfl:k=x.zD.length:=by omega
   rw[List.take_length] at HXX
   clear hlt hk
   have HE:=hide (show X++mkS (lineL (wrdL (⟨#[111,117,116]⟩:ByteArray).data.toList x.zK))=mkS (patchL x) by rw[HPS.out,HXX.out];exact mkS_append _ _)
   have zo:(mkS (lineL (wrdL (⟨#[111,117,116]⟩:ByteArray).data.toList x.zK))).size≤20000:=by rw[size_mkS];have:=HLS.out;exact(by omega:(lineL (wrdL [111,117,116] x.zK)).length≤20000)
   obtain⟨lo,hlo⟩: ∃ lo,mkS (lineL (wrdL (⟨#[111,117,116]⟩:ByteArray).data.toList x.zK))=lo:=⟨_,rfl⟩
   rw[hlo] at HE zo
   have HCL:=hide (show Calls Tryz.prog 97 #[.string ⟨#[111,117,116]⟩,.slice va3 x.zK.length vc3] wr fun e w'=>e= .returned (.string lo)∧Below wr.heap.size wr w' by have:=c_l07Line ⟨#[111,117,116]⟩ _ x.zK _ (Rd.below R3.out HB.out) GO.out SO.out (by decide);rwa [hlo] at this)
   clear hlo
   go_wp2_with (go_at_call 97;refine HCL.out.mono ?_;rintro e w3 ⟨rfl,hb⟩;have HB3:=hide (yH HB.out HB.out.size hb);clear hb)
   go_ret
   exact⟨ret_str (by rw[←HE.out]),HB3.out⟩
end Go.Proofs.YtbgedljbgkcpiaaGreatDoor
end
section
namespace Go.Proofs.YtbgedljbgkcpiaaGreatDoor
open Go.RowKit
theorem c_l26Text (x:GMixer) (b o:Nat) (w:World) (hM:MixerOk x) (hg:x.good) (h:T.at w x.fs b o):Calls Tryz.prog 55 #[.pointer (some ⟨b,o,none⟩)] w fun e w'=>e= .returned (.string (mkS (mixL x)))∧Below w.heap.size w w':=by
 have HAT:=hide h
 obtain⟨hlt0,cs,hr,hc⟩:=h
 obtain⟨v0,rfl,h0⟩:=GMixer.yM hr
 clear hr
 have R0:=hide h0;obtain⟨va0,vc0,rfl,vl0,vm0,vx0⟩:=T.yL h0
 have HX0:=hide vx0;clear vx0 h0
 have HL:=hide hlt0;have HCC:=hide hc;have HB0:=hide (Below.refl w.heap.size w);clear hlt0 hc
 have HM:=hide hM;have HGD:=hide hg;have HML:=hide (show ((x.zH).flatMap (fun y=>lineL (stripL x.zH y))).length≤1608 from mix_len hM hg);clear hg
 have hn8:x.zH.length≤8:=hM.few;clear hM
 have HT:=hide (show mixL x=(x.zH).flatMap (fun y=>lineL (stripL x.zH y)) from rfl)
 generalize mixL x=tx at *
 have h32:(⟨#[32]⟩:ByteArray).size=1:=rfl;have h10:(⟨#[10]⟩:ByteArray).size=1:=rfl;have h4:(⟨#[32,116,111,32]⟩:ByteArray).size=4:=rfl
 go_enter Tryz.func55,Tryz.ntmps55
 go_wp2
 go_loopw [3,4] (fun o i wr=> ∃ (k:Nat) (X:ByteArray),k≤x.zH.length∧i= .int .i64 (k:Int)∧o= .string X∧X=mkS ((x.zH.take k).flatMap (fun y=>lineL (stripL x.zH y)))∧Below w.heap.size w wr) (fun _ i _=>x.zH.length - (intOf i).toNat)
 case atStart=>exact⟨0,_,Nat.zero_le _,rfl,rfl,rfl,Below.refl _ _⟩
 case round=>
  obtain⟨k,X,hk,rfl,rfl,hX,hbw⟩:=hrel
  have zX:X.size≤1608:=by rw[hX,size_mkS];exact Nat.le_trans (flat_cut _ k) HML.out
  have HXX:=hide hX;have HB:=hide hbw;clear hX hbw
  have p0:wr.cell? ⟨b,o,none⟩=some (.slice va0 x.zH.length vc0):=(HB.out.cell HL.out).trans (HCC.out 0 _ rfl)
  have lb:b<wr.heap.size:=Nat.lt_of_lt_of_le HL.out HB.out.size
  by_cases hlt:k<x.zH.length
  rotate_left
  ·
   obtain rfl:k=x.zH.length:=by omega
   have HXE:=hide (show X=mkS tx by rw[HXX.out,List.take_length,←HT.out])
   go_wp2
   go_ret
   exact⟨ret_str (by rw[HXE.out]),HB.out⟩
  have hgk:=List.getElem?_eq_getElem hlt
  obtain⟨b1,off,csy,hA,hb1,hcs,hcell⟩:=HX0.out k x.zH[k] hgk
  subst hA
  generalize x.zH[k]=y at *
  have HG:=hide hgk;clear hgk
  have HAy:=hide (T.at_elem (o:=off+k * 3) hb1 (show T.rds w y.fs csy by simpa only[GStrip.t,T.rd] using hcs) hcell (by omega));clear hcs hcell
  clear p0 lb
  have p0:wr.cell? ⟨b,o,none⟩=some (.slice (some ⟨b1,off,none⟩) x.zH.length vc0):=(HB.out.cell HL.out).trans (HCC.out 0 _ rfl)
  have lb:b<wr.heap.size:=Nat.lt_of_lt_of_le HL.out HB.out.size
  obtain⟨lty,csy',hry,hcy⟩:=HAy.out
  obtain⟨u2,rfl,hu2⟩:=GStrip.yM hry
  have Ru2:=hide hu2;obtain⟨ua2,uc2,rfl,ul2,um2,ux2⟩:=T.yL hu2;have HXu2:=hide ux2;clear ux2 hu2
  have HCy:=hide hcy;clear hry hcy
  have cy0:wr.cell? ⟨b1,off+k * 3,none⟩=some (.string y.zV):=(HB.out.cell lty).trans (HCy.out 0 _ rfl)
  have cy1:wr.cell? ⟨b1,off+k * 3+1,none⟩=some (.int .i64 y.zT):=(HB.out.cell lty).trans (HCy.out 1 _ rfl)
  have cy2:wr.cell? ⟨b1,off+k * 3+2,none⟩=some (.slice ua2 y.yA.length uc2):=(HB.out.cell lty).trans (HCy.out 2 _ rfl)
  have HNM:=hide (HM.out.each k y HG.out).1;have HMY:=hide (List.mem_of_getElem? HG.out)
  have HGY:=hide (HGD.out y HMY.out);have HSL:=hide (strip_len HM.out HGD.out HMY.out)
  have hy1:y.zV.size≤10:=HNM.out.name.few
  have zl:(decS y.zT).size≤21:=by unfold decS;rw[size_mkS];exact dec_len HGY.out.2.1
  have lb1:b1<wr.heap.size:=Nat.lt_of_lt_of_le hb1 HB.out.size
  go_wp2
  have g0:=yE cy0
  have g1:=yE cy1
  refine yY (by kernel_rfl) (by kernel_rfl) ?_
  repeat(first|go_big_quiet_skip|(go_big_quiet_want;go_big_quiet_op;first|go_big_quiet_on|(apply Exists.intro;refine⟨fun _=>?_,?_⟩;(· (first|(go_at_call 96;exact Calls.yJ (c_sDec _ _ HGY.out.2.1))|(rw[if_neg (by first|omega|(simp[ByteArray.size_append];omega))];exact⟨rfl,rfl⟩)));go_big_quiet_on)))
  refine wpQuiet_nil ?_
  rintro w9 ⟨uu,rfl⟩
  have hb9:=yF wr uu
  generalize bel wr uu=w9 at *
  have HB9:=hide (yH HB.out HB.out.size hb9);clear g0 g1
  clear cy0 cy1 cy2 p0 lb
  have HX9:=hide (show X++((y.zV++(⟨#[32]⟩:ByteArray))++decS y.zT)=mkS (((x.zH.take k).flatMap (fun y=>lineL (stripL x.zH y))++(y.zV.data.toList++blankL y.zT))) by rw[HXX.out];apply str_is;simp[dat_app,dat_mk,dat_dec,blankL])
  have hz9:(X++((y.zV++(⟨#[32]⟩:ByteArray))++decS y.zT)).size≤1640:=by simp only[ByteArray.size_append];omega
  generalize X++((y.zV++(⟨#[32]⟩:ByteArray))++decS y.zT)=X9 at *
  go_wp2
  go_loopw [3,6] (fun o i wr=> ∃ (q:Nat) (Z:ByteArray),q≤y.yA.length∧i= .int .i64 (q:Int)∧o= .string Z∧Z=mkS (((x.zH.take k).flatMap (fun y=>lineL (stripL x.zH y))++(y.zV.data.toList++blankL y.zT))++((y.yA.take q).flatMap (sendL x.zH)))∧Below w9.heap.size w9 wr) (fun _ i _=>y.yA.length - (intOf i).toNat)
  case atStart=>exact⟨0,_,Nat.zero_le _,rfl,rfl,by rw[HX9.out,List.take_zero,List.flatMap_nil,List.append_nil],Below.refl _ _⟩
  case round=>
   obtain⟨q,Z,hq,rfl,rfl,hZ,hb⟩:=hrel
   have zZ:Z.size≤1840:=by
    rw[hZ,size_mkS]
    have h1:=HSL.out;have h2:=flat_cut (xs:=y.yA) (sendL x.zH) q;have h3:=HXX.out;have h4:=congrArg ByteArray.size h3;rw[size_mkS] at h4
    unfold stripL at h1;simp only[List.length_append] at h1 ⊢;omega
   have HZZ:=hide hZ;have HC:=hide hb;have HBi:=hide (yH HB9.out HB9.out.size hb);clear hZ hb
   have p0:wr.cell? ⟨b,o,none⟩=some (.slice (some ⟨b1,off,none⟩) x.zH.length vc0):=(HBi.out.cell HL.out).trans (HCC.out 0 _ rfl)
   have lb:b<wr.heap.size:=Nat.lt_of_lt_of_le HL.out HBi.out.size
   have cy0:wr.cell? ⟨b1,off+k * 3,none⟩=some (.string y.zV):=(HBi.out.cell lty).trans (HCy.out 0 _ rfl)
   have cy1:wr.cell? ⟨b1,off+k * 3+1,none⟩=some (.int .i64 y.zT):=(HBi.out.cell lty).trans (HCy.out 1 _ rfl)
   have cy2:wr.cell? ⟨b1,off+k * 3+2,none⟩=some (.slice ua2 y.yA.length uc2):=(HBi.out.cell lty).trans (HCy.out 2 _ rfl)
   have lb1':b1<wr.heap.size:=Nat.lt_of_lt_of_le hb1 HBi.out.size
   by_cases hlq:q<y.yA.length
   rotate_left
   ·
    obtain rfl:q=y.yA.length:=by omega
    have HZE:=hide (show Z++(⟨#[10]⟩:ByteArray)=mkS ((x.zH.take (k+1)).flatMap (fun y=>lineL (stripL x.zH y))) by rw[HZZ.out,List.take_length,flat_take _ HG.out];apply str_is;simp[dat_app,dat_mk,lineL,stripL])
    go_wp2
    go_roundw
    case rel=>exact⟨k+1,_,by omega,by go_num,rfl,HZE.out,HBi.out⟩
    case measure=>simp[intOf];omega
   have hgq:=List.getElem?_eq_getElem hlq
   obtain⟨b2,off2,cs2,hA2,hb2,hcs2,hcell2⟩:=HXu2.out q y.yA[q] hgq
   subst hA2
   generalize y.yA[q]=z at *
   have HGZ:=hide hgq;clear hgq
   obtain rfl:=GSend.yM (show T.rds _ _ _ by simpa only[GSend.t,T.rd] using hcs2)
   have s0:=(HBi.out.cell hb2).trans (hcell2 0 (.int .i64 z.yC) rfl)
   have s1:=(HBi.out.cell hb2).trans (hcell2 1 (.int .i64 z.zQ) rfl)
   rw[show off2+(q * 2+0)=off2+q * 2 by omega] at s0
   rw[show off2+(q * 2+1)=off2+q * 2+1 by omega] at s1
   clear hcs2 hcell2
   have lb2:b2<wr.heap.size:=Nat.lt_of_lt_of_le hb2 HBi.out.size
   obtain⟨t,ht,t0,t1,htn⟩:=mixer_to HM.out HMY.out (List.mem_of_getElem? HGZ.out)
   have hGZ:=HGY.out.2.2 z (List.mem_of_getElem? HGZ.out);have HIG:=hide hGZ.2;clear hGZ
   have zt:t.zV.size≤10:=htn.few;clear htn
   have zg:(decS z.zQ).size≤21:=by unfold decS;rw[size_mkS];exact dec_len HIG.out
   obtain⟨b3,off3,cs3,hA3,hb3,hcs3,hcell3⟩:=HX0.out z.yC.toNat t ht
   obtain⟨rfl,rfl⟩:b1=b3∧off=off3:=by injection hA3 with e;injection e with e1 e2;exact⟨e1,e2⟩
   clear hA3
   have HTT:=hide ht;clear ht
   obtain⟨r2,rfl,hRT2⟩:=GStrip.yM (show T.rds _ _ _ by simpa only[GStrip.t,T.rd] using hcs3)
   have e0:=(HBi.out.cell hb3).trans (hcell3 0 (.string t.zV) rfl)
   have e1:=(HBi.out.cell hb3).trans (hcell3 1 (.int .i64 t.zT) rfl)
   have e2:=(HBi.out.cell hb3).trans (hcell3 2 (r2) rfl)
   rw[show off+(z.yC.toNat * 3+0)=off+z.yC.toNat * 3 by omega] at e0
   rw[show off+(z.yC.toNat * 3+1)=off+z.yC.toNat * 3+1 by omega] at e1
   rw[show off+(z.yC.toNat * 3+2)=off+z.yC.toNat * 3+2 by omega] at e2
   have RT2:=hide (T.yD hRT2 HBi.out);clear hRT2
   clear hcs3 hcell3
   clear e1 e2 RT2
   go_wp2
   have g0:=yE p0
   have g1:=yE cy2
   have g2:=yE s0
   have g3:=yE s1
   have g4:=yE e0
   refine yY (by kernel_rfl) (by kernel_rfl) ?_
   repeat(first|go_big_quiet_skip|(go_big_quiet_want;go_big_quiet_op;first|go_big_quiet_on|(apply Exists.intro;refine⟨fun _=>?_,?_⟩;(· (first|(go_at_call 96;exact Calls.yJ (c_sDec _ _ HIG.out))|(rw[if_neg (by first|omega|(simp[ByteArray.size_append];omega))];exact⟨rfl,rfl⟩)));go_big_quiet_on)))
   refine wpQuiet_nil ?_
   rintro w9 ⟨uu,rfl⟩
   have hb9:=yF wr uu
   generalize bel wr uu=w9 at *
   have HB8:=hide (yH HBi.out HBi.out.size hb9);clear g0 g1 g2 g3 g4
   have HC8:=hide (yH HC.out HC.out.size hb9);clear hb9
   go_wp2
   go_roundw
   case rel=>exact⟨q+1,_,by omega,by go_num,rfl,by rw[HZZ.out,flat_take _ HGZ.out];apply str_is;simp only[sendL,List.getD_eq_getElem?_getD,HTT.out];simp[dat_app,dat_mk,dat_dec,blankL],HC8.out⟩
   case measure=>simp[intOf];omega
end Go.Proofs.YtbgedljbgkcpiaaGreatDoor
end
section
namespace Go.Proofs.YtbgedljbgkcpiaaGreatDoor
open Go.RowKit
/-- Bytes of the call's own; the block may bear the mark of a conversion, behind its last cell. -/
def OwZ (E:TypeId) (w:World) (B:Nat) (v:Value) (xs:List UInt8):Prop:=
 ∃ g cap cur fz,v= .slice (some ⟨g,0,none⟩) xs.length cap∧B≤g∧w.heap[g]?=some (.cells cur E fz)∧(fz=(0,0)∨cur.size≤fz.1)∧xs.length≤cap∧cap≤maxLen∧cur.size=cap∧cur.toList.take xs.length=xs.map fun b=>Value.int .u8 (b.toNat:Int)
section
variable {w w':World} {E:TypeId} {B:Nat} {v:Value} {xs:List UInt8}
theorem OwZ.lt (h:OwZ E w B v xs): ∀ k,v.ownBlock=some k→B≤k∧k<w.heap.size:=by
 obtain⟨g,cap,cur,fz,rfl,hb,hg,_⟩:=h
 intro k hk
 injection hk with hk
 subst hk
 exact⟨hb,(Array.getElem?_eq_some_iff.1 hg).1⟩
theorem OwZ.all (h:OwZ E w B v xs) (hb:Below w.heap.size w w'):OwZ E w' B v xs:=by
 obtain⟨g,cap,cur,fz,rfl,h1,hg,h2⟩:=h
 exact⟨g,cap,cur,fz,rfl,h1,(hb.block g (Array.getElem?_eq_some_iff.1 hg).1).trans hg,h2⟩
theorem OwZ.rd (h:OwZ E w B v xs):RdY w v xs:=by
 obtain⟨g,cap,cur,fz,rfl,h1,hg,_,h3,h4,h5,h6⟩:=h
 refine⟨by simp,some ⟨g,0,none⟩,cap,rfl,h3,by unfold maxLen at h4;exact h4,fun _=>⟨g,0,rfl,(Array.getElem?_eq_some_iff.1 hg).1,fun j u hj=>?_⟩⟩
 have hjl:j<xs.length:=by have:=(List.getElem?_eq_some_iff.1 hj).1;simpa using this
 rw[Nat.zero_add]
 have:cur[j]?=some u:=by
  rw[←Array.getElem?_toList,←List.getElem?_take_of_lt hjl,h6];exact hj
 unfold World.cell?
 simp[hg,this]
end
theorem run_storeCells_off {P:Program} (g o:Nat) (t:TypeId) (fz:Nat × Nat): ∀ (vs:List Value) (i:Nat) (cur:Array Value) (w:World),w.heap[g]?=some (.cells cur t fz)→(fz=(0,0)∨cur.size≤fz.1)→o+i+vs.length≤cur.size→(∀ v ∈ vs,v.oneCell'=true)→
  (storeCells ⟨g,o,none⟩ vs i).run P w= .ok () (w.setRow g (cur.toList.take (o+i)++vs++cur.toList.drop (o+i+vs.length)).toArray)
 | [],i,cur,w,hg,_,_,_=>by
  simp only[storeCells,List.append_nil,List.length_nil,Nat.add_zero,List.take_append_drop,Array.toArray_toList]
  rw[setRow_self w g cur t fz hg]
  rfl
 |v :: rest,i,cur,w,hg,hz,hl,h1=>by
  have hi:o+i<cur.size:=by simp at hl;omega
  have hadd:(⟨g,o,none⟩:Addr).add i=⟨g,o+i,none⟩:=by unfold Addr.add;split<;>simp_all
  have hcell:w.cell? ⟨g,o+i,none⟩=some cur[o+i]:=by simp[World.cell?,hg,hi]
  have hfro:w.frozen? ⟨g,o+i,none⟩=false:=by
   unfold World.frozen?
   rw[hg]
   rcases hz with rfl|hz
   ·simp
   ·have: ¬ fz.1≤o+i:=by omega
    simp[this]
  have hst:(store ((⟨g,o,none⟩:Addr).add i) v).run P w= .ok () (w.setRow g (cur.setIfInBounds (o+i) v)):=by
   rw[hadd,run_store P w _ v _ (h1 v (by simp)),hcell]
   simp[hfro,setCell_eq_setRow w g (o+i) cur t fz v hg]
  have ih:=run_storeCells_off (P:=P) g o t fz rest (i+1) (cur.setIfInBounds (o+i) v) (w.setRow g (cur.setIfInBounds (o+i) v)) (setRow_heap w g cur _ t _ hg) (by simpa using hz) (by simp at hl ⊢;omega) (fun x hx=>h1 x (by simp[hx]))
  simp only[storeCells,Sem.run_bind,hst,Result.andThen_ok,ih,setRow_setRow]
  congr 3
  have e:=list_seg_step cur.toList (o+i) v rest (by simp at hl ⊢;omega)
  simpa[Array.toList_setIfInBounds,Nat.add_assoc] using e
theorem append_off_str {P:Program} {w:World} (base:Nat) (t u ty e:TypeId) (i:TypeInfo) (z:Value) (ht:P.underlying t=some (.slice e)) (hu:P.underlying u=some .string) (hi:P.info? e=some i) (hz:i.zero=some z)
  (hsize:i.size=1) (hby:i.bytes=1) (hzs:z.cells.size=1) (v:Value) (xs:List UInt8) (hown:OwZ e w base v xs) (s:ByteArray)
  (hbytes:xs.length+s.size≤140737488355328) (hbase:base≤w.heap.size):
  ∃ v' w',(Builtin.append_ #[t,u] ty #[v,.string s]).run P w= .ok v' w'∧OwZ e w' base v' (xs++s.data.toList)∧w.grownBy w' v.ownBlock∧(v'.ownBlock=v.ownBlock∨v'.ownBlock=some w.heap.size):=by
 have hsl:s.data.toList.length=s.size:=Array.length_toList
 have h1: ∀ u ∈ byV s,u.oneCell'=true:=by
  intro x hx
  simp only[byV,List.mem_map] at hx
  obtain⟨b,_,rfl⟩:=hx
  rfl
 have hrd:=hown.rd
 obtain⟨g,cap,cur,fz,rfl,hbg,hg,hfz,hnc,hcm,hcs,htake⟩:=hown
 generalize hn:xs.length=n at *
 have hlen:(xs++s.data.toList).length=n+s.size:=by rw[List.length_append,hsl,hn]
 by_cases hroom:n+s.size≤cap
 ·have hf:=first_str (P:=P) w s
  have hfit:n * 1+(byV s).length≤cur.size:=by rw[byV_len,hcs];omega
  have hst:=run_storeCells_off (P:=P) g (n * 1) e fz (byV s) 0 cur w hg hfz (by simpa using hfit) h1
  simp only[Nat.add_zero] at hst
  have hnew:(cur.toList.take (n * 1)++byV s++cur.toList.drop (n * 1+(byV s).length)).toArray.size=cap:=by
   simp only[List.size_toArray,List.length_append,List.length_take,List.length_drop,Array.length_toList]
   omega
  refine⟨.slice (some ⟨g,0,none⟩) (n+s.size) cap,w.setRow g (cur.toList.take (n * 1)++byV s++cur.toList.drop (n * 1+(byV s).length)).toArray,?_,⟨g,cap,_,fz,by rw[hlen],hbg,setRow_heap w g cur _ e _ hg,?_,by rw[hlen];exact hroom,hcm,hnew,?_⟩,⟨rfl,rfl,rfl,by simp,fun k _ hk=>setRow_other w g k _ (fun e=>hk (by simp[Value.ownBlock,e]))⟩,Or.inl rfl⟩
  ·simp only[Nat.mul_one] at hst ⊢
   simp[Builtin.append_,run_underlying ht,run_underlying hu,sizeOf,typeInfo,hi,Builtin.lenOf,hroom,hf,Addr.add_lit,hst,hsize]
  ·rw[hnew];rw[hcs] at hfz;exact hfz
  ·rw[hlen,List.map_append,←htake]
   have e2:(s.data.toList.map fun b=>Value.int .u8 (b.toNat:Int))=byV s:=rfl
   rw[e2,Nat.mul_one]
   have e3:(cur.toList.take n++byV s).length=n+s.size:=by rw[List.length_append,List.length_take,byV_len,Array.length_toList];omega
   rw[←e3]
   exact List.take_left
 ·have hf:=first_str (P:=P) w.drew s
  have holds: ∀ j u,(xs.map fun b=>Value.int .u8 (b.toNat:Int))[j]?=some u→w.cell? ((⟨g,0,none⟩:Addr).add j)=some u:=by
   intro j u hj
   have hjl:j<n:=by have:=(List.getElem?_eq_some_iff.1 hj).1;rw[List.length_map,hn] at this;exact this
   have hc:cur[j]?=some u:=by rw[←Array.getElem?_toList,←List.getElem?_take_of_lt hjl,htake];exact hj
   have hadd:(⟨g,0,none⟩:Addr).add j=⟨g,j,none⟩:=by unfold Addr.add;split<;>simp_all
   rw[hadd]
   unfold World.cell?
   simp[hg,hc]
  have hfo:=run_firstCells_some (P:=P) w.drew 1 n ⟨g,0,none⟩ n cap (xs.map fun b=>Value.int .u8 (b.toNat:Int)) (by rw[List.length_map,hn,Nat.mul_one]) (by simpa using holds)
  have h63': ¬ (9223372036854775807<((n:Int)+(s.size:Int))):=by omega
  have h48': ¬ (281474976710656<Builtin.nextslicecap (n+s.size) cap * i.bytes):=by
   have:=growslice_fits (need:=n+s.size) (old:=cap) (bytes:=1) (by omega) (by omega)
   rw[hby];omega
  have hge:=grownCap_ge w (n+s.size) cap e
  have hcm2:grownCap w (n+s.size) cap e≤maxLen:=grownCap_le_maxLen w (n+s.size) cap e (by unfold maxLen;omega)
  have hsz:((xs.map fun b=>Value.int .u8 (b.toNat:Int)).toArray++(byV s).toArray++Builtin.zeroCells z.cells (grownCap w (n+s.size) cap e - (n+s.size))).size=grownCap w (n+s.size) cap e:=by
   simp only[Array.size_append,List.size_toArray,size_zeroCells,hzs,List.length_map,hn,byV_len]
   omega
  refine⟨.slice (some ⟨w.heap.size,0,none⟩) (n+s.size) (grownCap w (n+s.size) cap e),w.drew.alloc (.cells ((xs.map fun b=>Value.int .u8 (b.toNat:Int)).toArray++(byV s).toArray++Builtin.zeroCells z.cells (grownCap w (n+s.size) cap e - (n+s.size))) e),?_,⟨w.heap.size,_,_,(0,0),by rw[hlen],hbase,heap_alloc_new w.drew _,.inl rfl,by rw[hlen];exact hge,hcm2,hsz,?_⟩,⟨rfl,rfl,rfl,by simp,fun k hk _=>Below.heap_alloc w.drew _ k hk⟩,Or.inr rfl⟩
  ·simp[Builtin.append_,run_underlying ht,run_underlying hu,sizeOf,typeInfo,zeroValue,hi,hz,Builtin.lenOf,hroom,h63',h48',Question.forced,hf,hfo,newRow,grownCap,hsize]
   try (congr 2;apply Array.ext';simp[List.append_assoc])
  ·rw[hlen,List.map_append]
   have e2:(s.data.toList.map fun b=>Value.int .u8 (b.toNat:Int))=byV s:=rfl
   rw[e2]
   simp only[Array.toList_append,List.append_assoc]
   rw[←List.append_assoc]
   have e3:((xs.map fun b=>Value.int .u8 (b.toNat:Int))++byV s).length=n+s.size:=by rw[List.length_append,List.length_map,byV_len,hn]
   rw[←e3]
   exact List.take_left
/-- append of a string's bytes to such bytes, in a walk. -/
theorem app_off {P:Program} {w:World} {ops:Array Oper} {rest:List Oper} {o:Oper} {a:Act} {Q:Exit→Act→World→Prop} (hgd:o.guard=none) (s x:Operand) (t u:TypeId)
  (ho:o.op= .call { callee:= .builtin .append,args:= #[s,x],argTypes:= #[t,u] })
  (base:Nat) (e:TypeId) (z:Value) (ht:P.underlying t=some (.slice e)) (hu:P.underlying u=some .string) (hinfo:(P.info? e).map (fun i=>(i.zero,i.size,i.bytes))=some (some z,1,1)) (hzs:z.cells.size=1)
  (v:Value) (xs:List UInt8) (hs:a.eval s=v) (hown:OwZ e w base v xs) (y:ByteArray) (hx:a.eval x= .string y)
  (hl:xs.length+y.size≤140737488355328) (hbase:base≤w.heap.size)
  (h: ∀ v' w',OwZ e w' base v' (xs++y.data.toList)→w.grownBy w' v.ownBlock→(∀ k,v'.ownBlock=some k→v.ownBlock=some k∨w.heap.size≤k)→wpList P ops Q rest (a.put o.dst v') w'):
  wpList P ops Q (o :: rest) a w:=by
 obtain⟨i0,hi,hz0,hz1,hz2⟩:=info_parts hinfo
 refine wpList_plain hgd fun K hK=>?_
 obtain⟨v',w',hr,h2,h3,h5⟩:=append_off_str (P:=P) base t u o.type e i0 z ht hu hi hz0 hz1 hz2 hzs v xs hown y hl hbase
 unfold Oper.wp execOp
 simp only[ho,resolve,invoke,builtin,Sem.run_bind,Sem.run_pure,Result.andThen_ok,List.map_toArray,List.map_cons,List.map_nil,hs,hx,hr]
 refine hK _ _ (h v' w' h2 h3 fun k hk=>?_)
 rcases h5 with h5|h5
 ·exact .inl (h5 ▸ hk)
 ·rw[h5] at hk;simp at hk;exact .inr (by omega)
/-- A slice's block, if any, lies outside of [lo, hi). -/
def Apart (v:Value) (lo hi:Nat):Prop:= ∀ b,v.ownBlock=some b→b<lo∨hi≤b
theorem Apart.next {v v':Value} {lo hi n:Nat} (hv:Apart v lo hi) (hn: ∀ k,v'.ownBlock=some k→v.ownBlock=some k∨n≤k) (h:hi≤n):Apart v' lo hi:=fun b hb=>by
 rcases hn b hb with h1|h1
 ·exact hv b h1
 ·exact .inr (by omega)
theorem rds_apart {w w':World} {s v:Value} {ls:List ByteArray} {lo hi:Nat} (h:RdS w s ls) (hs: ∀ b,s.ownBlock=some b→lo≤b∧b<hi) (hv:Apart v lo hi) (hg:w.grownBy w' v.ownBlock):RdS w' s ls:=
 ⟨h.1,h.2.keep hg.size fun b hb hlt=>hg.block b hlt fun e=>by
  have h1:=hs b hb
  rcases hv b e.symm with h2|h2<;>omega⟩
/-- A text as bytes. -/
theorem conv_off (w:World) (s:ByteArray) (hs:s.size≤1073741824): ∃ v w',(convert 9 104 (.string s)).run Tryz.prog w= .ok v w'∧OwZ 5 w' w.heap.size v s.data.toList∧Below w.heap.size w w':=by
 have hge:=grownCap_ge w s.size 0 5
 have hsl:s.data.toList.length=s.size:=Array.length_toList
 have hsz:(Lib.bytesCells w 5 s).size=grownCap w s.size 0 5:=by
  unfold Lib.bytesCells
  rw[Array.size_append,Array.size_map,Array.size_replicate]
  have:s.data.size=s.size:=rfl
  omega
 refine⟨_,_,Lib.run_convert_string_bytes w _ _ _ s Tryz.underlying9 Tryz.underlying104 Tryz.underlying5,⟨w.heap.size,_,_,_,by rw[hsl],Nat.le_refl _,Lib.bytesWorld_at_new w _ s,.inr (Nat.le_refl _),by rw[hsl];exact hge,grownCap_le_maxLen w s.size 0 5 (by unfold maxLen;omega),hsz,?_⟩,⟨rfl,rfl,rfl,by rw[Lib.bytesWorld_size];omega,fun j hj=>Lib.bytesWorld_at_old w _ s j hj⟩⟩
 unfold Lib.bytesCells
 rw[Array.toList_append,Array.toList_map,hsl]
 have e:(s.data.toList.map fun b=>Value.int .u8 (b.toNat:Int)).length=s.size:=by rw[List.length_map,hsl]
 rw[←e]
 exact List.take_left
end Go.Proofs.YtbgedljbgkcpiaaGreatDoor
end
