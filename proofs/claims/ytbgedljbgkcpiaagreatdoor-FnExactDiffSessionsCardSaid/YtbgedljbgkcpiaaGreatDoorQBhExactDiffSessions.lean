/- Contract: the text of a session, by the reference. -/
import Derived.Test.YtbgedljbgkcpiaaGreatDoorQBgExactDiffSessions
import Derived.Test.YtbgedljbgkcpiaaGreatDoorQAfExactDiffSessions
import Derived.Test.YtbgedljbgkcpiaaGreatDoorQBcExactDiffSessions
set_option linter.unusedVariables false
set_option linter.unusedSimpArgs false
set_option maxHeartbeats 16000000
set_option maxRecDepth 100000
namespace Go.Proofs.YtbgedljbgkcpiaaGreatDoor
open Go.RowKit
theorem c_l32Text (x:GSession) (b o:Nat) (w:World) (hS:SessionOk x) (hg:x.good) (hs:x.small) (h:T.at w x.fs b o):Calls Tryz.prog 20 #[.pointer (some ⟨b,o,none⟩)] w fun e w'=>e= .returned (.string (mkS (sesL x)))∧Below w.heap.size w w':=by
 have HAT:=hide h
 obtain⟨hlt0,cs,hr,hc⟩:=h
 obtain⟨v1,v2,v3,v4,v5,rfl,h1,h2,h3,h4,h5⟩:=GSession.yM hr
 clear hr
 have R1:=hide h1;obtain⟨va1,vc1,rfl,vl1,vm1,vx1⟩:=T.yL h1
 have HX1:=hide vx1;clear vx1 h1
 have R2:=hide h2;obtain⟨va2,vc2,rfl,vl2,vm2,vx2⟩:=T.yL h2
 have HX2:=hide vx2;clear vx2 h2
 have h3i:=T.yQ.1 h3;obtain⟨va3,vc3,rfl,vl3,vm3,vx3⟩:=h3i.open_
 have R3:=hide h3i;have HX3:=hide vx3;clear vx3 h3 h3i
 have R4:=hide h4;obtain⟨va4,vc4,rfl,vl4,vm4,vx4⟩:=T.yL h4
 have HX4:=hide vx4;clear vx4 h4
 have R5:=hide h5;obtain⟨va5,vc5,rfl,vl5,vm5,vx5⟩:=T.yL h5
 have HX5:=hide vx5;clear vx5 h5
 have HL:=hide hlt0;have HCC:=hide hc;have HB0:=hide (Below.refl w.heap.size w);clear hlt0 hc
 have HS:=hide hS;have HSM:=hide hs
 obtain⟨y1,y2,y3⟩:=ses_parts hS hg
 have GL:=hide hg.1;have GS:=hide hg.2.1;have GT:=hide hg.2.2.1;have GF:=hide hg.2.2.2.1;have GE:=hide hg.2.2.2.2.1;have GM:=hide (show x.zW.good from hg.2.2.2.2.2);clear hg
 have HY1:=hide (show (lineL (wrdL [115,101,115,115,105,111,110] [x.zE])++x.zM.flatMap (fun s=>lineL (wrdL [115,111,117,114,99,101] s))).length≤528072 from y1);have HY2:=hide y2;have HY3:=hide y3;clear y1 y2 y3
 have HSES:=hide (show sesL x=(lineL (wrdL [115,101,115,115,105,111,110] [x.zE])++x.zM.flatMap (fun s=>lineL (wrdL [115,111,117,114,99,101] s)))++(x.zO.zip x.zU).flatMap trackL++((linesF (mkS (mixL x.zW))).zip x.zP).flatMap strL from rfl)
 have HFD:=hide hS.feed
 have hml:(linesF (mkS (mixL x.zW))).length=x.zP.length:=(mix_lines hS.mixer).trans hS.effect.symm
 have HML:=hide hml;have hmz:=mix_len hS.mixer GM.out;have HMZ:=hide hmz;clear hml hmz
 have HLE:=hide (fun(l:ByteArray) (hl:l ∈ linesF (mkS (mixL x.zW)))=>(Nat.le_trans (line_le hl) (by rw[size_mkS];exact HMZ.out):l.size≤1608))
 have HSPL:=hide (fun W=>c_l32Lines (mkS (mixL x.zW)) W (by rw[size_mkS];exact Nat.le_trans HMZ.out (by decide)))
 generalize linesF (mkS (mixL x.zW))=ml at *
 have HMXT:=hide (fun(W:World) (o':Nat) (h:T.at W x.zW.fs b o')=>c_l26Text x.zW b o' W HS.out.mixer GM.out h)
 generalize mkS (mixL x.zW)=mx at *
 generalize sesL x=tx at *;clear hS hs
 have h7:(⟨#[115,101,115,115,105,111,110]⟩:ByteArray).size=7:=rfl;have h10:(⟨#[10]⟩:ByteArray).size=1:=rfl;have h6:(⟨#[115,111,117,114,99,101]⟩:ByteArray).size=6:=rfl;have h5:(⟨#[116,114,97,99,107]⟩:ByteArray).size=5:=rfl;have h4:(⟨#[99,108,105,112]⟩:ByteArray).size=4:=rfl;have h6':(⟨#[115,116,114,105,112,32]⟩:ByteArray).size=6:=rfl;have h2:(⟨#[58,32]⟩:ByteArray).size=2:=rfl
 have p0:w.cell? ⟨b,o,none⟩=some (.int .i64 x.zE):=(HB0.out.cell HL.out).trans (HCC.out 0 _ rfl)
 have p1:w.cell? ⟨b,o+1,none⟩=some (.slice va1 x.zM.length vc1):=(HB0.out.cell HL.out).trans (HCC.out 1 _ rfl)
 have p2:w.cell? ⟨b,o+2,none⟩=some (.slice va2 x.zO.length vc2):=(HB0.out.cell HL.out).trans (HCC.out 2 _ rfl)
 have p3:w.cell? ⟨b,o+3,none⟩=some (.slice va3 x.zU.length vc3):=(HB0.out.cell HL.out).trans (HCC.out 3 _ rfl)
 have p4:w.cell? ⟨b,o+4,none⟩=some (.slice va4 x.zP.length vc4):=(HB0.out.cell HL.out).trans (HCC.out 4 _ rfl)
 have p5:w.cell? ⟨b,o+5,none⟩=some (.slice va5 x.zW.zH.length vc5):=(HB0.out.cell HL.out).trans (HCC.out 5 _ rfl)
 have lb:b<w.heap.size:=Nat.lt_of_lt_of_le HL.out HB0.out.size
 have hI1: ∀ n ∈ [x.zE],I64 n:=by intro n hn;obtain rfl:=List.mem_singleton.1 hn;exact GL.out
 have HN1:=hide (c_l32Numbers _ [x.zE] _ (rdI_bk (xs:= [x.zE]) (Bk.born w 2 #[.int .i64 x.zE]) rfl (by simp)) hI1 (by simp))
 have zb1:(mkS (blanks [x.zE])).size≤22:=by rw[size_mkS];have:=blanks_len hI1;simpa using this
 clear hI1
 obtain⟨X0,hX0⟩: ∃ X0,((⟨#[115,101,115,115,105,111,110]⟩:ByteArray)++mkS (blanks [x.zE]))++(⟨#[10]⟩:ByteArray)=X0:=⟨_,rfl⟩
 have DX0:=hide (show X0.data.toList=lineL (wrdL [115,101,115,115,105,111,110] [x.zE]) by rw[←hX0];simp[dat_app,dat_mk,lineL,wrdL,clipL])
 have yX0:((⟨#[115,101,115,115,105,111,110]⟩:ByteArray)++mkS (blanks [x.zE])).size≤29:=by rw[ByteArray.size_append];omega
 have zX0:X0.size≤30:=by rw[←hX0,ByteArray.size_append,h10];omega
 generalize lineL (wrdL [115,101,115,115,105,111,110] [x.zE])=l0 at *
 go_enter Tryz.func20,Tryz.ntmps20
 go_wp2_with fail
 refine HN1.out.mono ?_;rintro e w1 ⟨rfl,hb⟩
 have HB1:=hide (show Below w.heap.size w w1 from yH ((Below.refl _ _).alloc (Nat.le_refl _) _) (by simp) hb);clear hb p0 p1 p2 p3 p4 p5 lb
 obtain⟨v2,w2,hcv,ho,hb⟩:=conv_off w1 X0 (by omega)
 have HO2:=hide ho;have HW2:=hide hb;have HB2:=hide (yH HB1.out HB1.out.size hb);clear ho hb
 rw[DX0.out] at HO2
 have p0:w2.cell? ⟨b,o,none⟩=some (.int .i64 x.zE):=(HB2.out.cell HL.out).trans (HCC.out 0 _ rfl)
 have p1:w2.cell? ⟨b,o+1,none⟩=some (.slice va1 x.zM.length vc1):=(HB2.out.cell HL.out).trans (HCC.out 1 _ rfl)
 have p2:w2.cell? ⟨b,o+2,none⟩=some (.slice va2 x.zO.length vc2):=(HB2.out.cell HL.out).trans (HCC.out 2 _ rfl)
 have p3:w2.cell? ⟨b,o+3,none⟩=some (.slice va3 x.zU.length vc3):=(HB2.out.cell HL.out).trans (HCC.out 3 _ rfl)
 have p4:w2.cell? ⟨b,o+4,none⟩=some (.slice va4 x.zP.length vc4):=(HB2.out.cell HL.out).trans (HCC.out 4 _ rfl)
 have p5:w2.cell? ⟨b,o+5,none⟩=some (.slice va5 x.zW.zH.length vc5):=(HB2.out.cell HL.out).trans (HCC.out 5 _ rfl)
 have lb:b<w2.heap.size:=Nat.lt_of_lt_of_le HL.out HB2.out.size
 go_wp2
 clear hcv hX0 yX0 zX0 zb1
 go_loopw [3,4] (fun o i wr=> ∃ k:Nat,k≤x.zM.length∧i= .int .i64 (k:Int)∧OwZ 5 wr w1.heap.size o (l0++(x.zM.take k).flatMap (fun s=>lineL (wrdL [115,111,117,114,99,101] s)))∧Below w1.heap.size w1 wr) (fun _ i _=>x.zM.length - (intOf i).toNat)
 case atStart=>exact⟨0,Nat.zero_le _,rfl,by rw[List.take_zero,List.flatMap_nil,List.append_nil];exact HO2.out,HW2.out⟩
 case round=>
  obtain⟨k,hk,rfl,ho,hbw⟩:=hrel
  have zX:(l0++(x.zM.take k).flatMap (fun s=>lineL (wrdL [115,111,117,114,99,101] s))).length≤1100000:=by rw[List.length_append];have h1:=flat_cut (xs:=x.zM) (fun s=>lineL (wrdL [115,111,117,114,99,101] s)) k;have h2:=HY1.out;rw[List.length_append] at h2;omega
  have HO:=hide ho;have HW:=hide hbw;have HB:=hide (yH HB1.out HB1.out.size hbw);have hsw:=hbw.size;clear ho hbw p0 p1 p2 p3 p4 p5 lb
  have p0:wr.cell? ⟨b,o,none⟩=some (.int .i64 x.zE):=(HB.out.cell HL.out).trans (HCC.out 0 _ rfl)
  have p1:wr.cell? ⟨b,o+1,none⟩=some (.slice va1 x.zM.length vc1):=(HB.out.cell HL.out).trans (HCC.out 1 _ rfl)
  have p2:wr.cell? ⟨b,o+2,none⟩=some (.slice va2 x.zO.length vc2):=(HB.out.cell HL.out).trans (HCC.out 2 _ rfl)
  have p3:wr.cell? ⟨b,o+3,none⟩=some (.slice va3 x.zU.length vc3):=(HB.out.cell HL.out).trans (HCC.out 3 _ rfl)
  have p4:wr.cell? ⟨b,o+4,none⟩=some (.slice va4 x.zP.length vc4):=(HB.out.cell HL.out).trans (HCC.out 4 _ rfl)
  have p5:wr.cell? ⟨b,o+5,none⟩=some (.slice va5 x.zW.zH.length vc5):=(HB.out.cell HL.out).trans (HCC.out 5 _ rfl)
  have lb:b<wr.heap.size:=Nat.lt_of_lt_of_le HL.out HB.out.size
  by_cases hlt:k<x.zM.length
  ·
   have hgk:=List.getElem?_eq_getElem hlt
   obtain⟨b1,off,cs1,rfl,hb1,hcs,hcell⟩:=HX1.out k x.zM[k] hgk
   have hgl:=GS.out x.zM[k] (List.getElem_mem hlt);have hsl:=HSM.out.1.2 x.zM[k] (List.getElem_mem hlt)
   have hs4:x.zM[k].length≤4000:=by have e:=HS.out.sources.each k _ hgk;unfold sigB at e;simp only[Bool.and_eq_true,decide_eq_true_eq] at e;exact e.1
   generalize x.zM[k]=l at *
   have HG:=hide hgk;have GL1:=hide hgl;have SL:=hide hsl;clear hgk hgl hsl
   obtain⟨u3,rfl⟩:=T.rd_one hcs
   have d0:=(HB.out.cell hb1).trans (hcell 0 u3 rfl)
   rw[Nat.mul_one,Nat.add_zero] at d0
   have hb2:b1<wr.heap.size:=Nat.lt_of_lt_of_le hb1 HB.out.size
   have RL:=hide (T.yQ.1 hcs);clear hcs hcell
   obtain⟨A3,c3,rfl,l3,m3,x3⟩:=RL.out.open_;clear x3
   have zb:(mkS (blanks l)).size≤88000:=by rw[size_mkS];have:=blanks_len GL1.out;omega
   obtain⟨ys,hys⟩: ∃ ys,((⟨#[115,111,117,114,99,101]⟩:ByteArray)++mkS (blanks l))++(⟨#[10]⟩:ByteArray)=ys:=⟨_,rfl⟩
   have Dys:=hide (show ys.data.toList=lineL (wrdL [115,111,117,114,99,101] l) by rw[←hys];simp[dat_app,dat_mk,lineL,wrdL,clipL])
   have yys:((⟨#[115,111,117,114,99,101]⟩:ByteArray)++mkS (blanks l)).size≤88006:=by rw[ByteArray.size_append];omega
   have zys:ys.size≤88007:=by rw[←hys,ByteArray.size_append,h10];omega
   go_wp2_with fail
   refine(c_l32Numbers _ l _ (Rd.below RL.out HB.out) GL1.out SL.out).mono ?_;rintro e w3 ⟨rfl,hb⟩
   have HW3:=hide (yH HW.out hsw hb);have HO3:=hide (HO.out.all hb);have hs3:=HW3.out.size;clear hb
   go_wp2_with (at_builtin;refine app_off rfl _ _ _ _ rfl w1.heap.size 5 _ Tryz.underlying104 Tryz.underlying9 info_u8 rfl _ _ rfl HO3.out ys rfl (by omega) hs3 ?_;intro v8 w8 ho8 hg8 hv8;have HO8:=hide ho8;have HW8:=hide (HW3.out.grown hg8 hs3 (fun k hk=>(HO3.out.lt k hk).1));clear ho8 hg8 hv8)
   clear hys
   go_roundw
   case rel=>exact⟨k+1,by omega,by go_num,by rw[flat_take _ HG.out,←List.append_assoc,←Dys.out];exact HO8.out,HW8.out⟩
   case measure=>simp[intOf];omega
  obtain rfl:k=x.zM.length:=by omega
  rw[List.take_length] at HO zX
  generalize hl1:l0++x.zM.flatMap (fun s=>lineL (wrdL [115,111,117,114,99,101] s))=l1 at *;clear hl1
  have HOA:=HO;have HWA:=HW;clear HO HW HB hlt hk zX hsw
  go_wp2
  go_loopw [3,5] (fun o i wr=> ∃ k:Nat,k≤x.zO.length∧i= .int .i64 (k:Int)∧OwZ 5 wr w1.heap.size o (l1++((x.zO.zip x.zU).take k).flatMap trackL)∧Below w1.heap.size w1 wr) (fun _ i _=>x.zO.length - (intOf i).toNat)
  case atStart=>exact⟨0,Nat.zero_le _,rfl,by rw[List.take_zero,List.flatMap_nil,List.append_nil];exact HOA.out,HWA.out⟩
  case round=>
   obtain⟨k,hk,rfl,ho,hbw⟩:=hrel
   have zX:(l1++((x.zO.zip x.zU).take k).flatMap trackL).length≤1100000:=by rw[List.length_append];have h1:=flat_cut (xs:=(x.zO.zip x.zU)) trackL k;have h2:=HY1.out;have h3:=HY2.out;omega
   have HO:=hide ho;have HW:=hide hbw;have HB:=hide (yH HB1.out HB1.out.size hbw);have hsw:=hbw.size;clear ho hbw p0 p1 p2 p3 p4 p5 lb
   have p0:wr.cell? ⟨b,o,none⟩=some (.int .i64 x.zE):=(HB.out.cell HL.out).trans (HCC.out 0 _ rfl)
   have p1:wr.cell? ⟨b,o+1,none⟩=some (.slice va1 x.zM.length vc1):=(HB.out.cell HL.out).trans (HCC.out 1 _ rfl)
   have p2:wr.cell? ⟨b,o+2,none⟩=some (.slice va2 x.zO.length vc2):=(HB.out.cell HL.out).trans (HCC.out 2 _ rfl)
   have p3:wr.cell? ⟨b,o+3,none⟩=some (.slice va3 x.zU.length vc3):=(HB.out.cell HL.out).trans (HCC.out 3 _ rfl)
   have p4:wr.cell? ⟨b,o+4,none⟩=some (.slice va4 x.zP.length vc4):=(HB.out.cell HL.out).trans (HCC.out 4 _ rfl)
   have p5:wr.cell? ⟨b,o+5,none⟩=some (.slice va5 x.zW.zH.length vc5):=(HB.out.cell HL.out).trans (HCC.out 5 _ rfl)
   have lb:b<wr.heap.size:=Nat.lt_of_lt_of_le HL.out HB.out.size
   by_cases hlt:k<x.zO.length
   ·
    have hfl:k<x.zU.length:=by have:=HFD.out;omega
    have hfg:=List.getElem?_eq_getElem hfl
    obtain⟨bf,of,rfl,hbf,hcf⟩:=HX3.out k _ hfg
    have hff:=GF.out _ (List.getElem_mem hfl)
    generalize x.zU[k]=fd at *
    have HFG:=hide hfg;have HFF:=hide hff;clear hfg hff
    have f0:=(HB.out.cell hbf).trans hcf;have hbf2:bf<wr.heap.size:=Nat.lt_of_lt_of_le hbf HB.out.size;clear hcf
    have hgk:=List.getElem?_eq_getElem hlt
    obtain⟨b1,off,csy,hA,hb1,hcs,hcell⟩:=HX2.out k x.zO[k] hgk
    subst hA
    generalize x.zO[k]=y at *
    have HG:=hide hgk;clear hgk
    have HAy:=hide (T.at_elem (o:=off+k) hb1 (show T.rds w y.fs csy by simpa only[GTrack.t,T.rd] using hcs) hcell (by omega));clear hcs hcell
    have HTO:=hide (HS.out.tracks k y HG.out).1;have HGT:=hide (GT.out y (List.mem_of_getElem? HG.out))
    have hc12:y.zR.length≤12:=HTO.out.few
    clear p0 p1 p2 p3 p4 p5 lb
    have p0:wr.cell? ⟨b,o,none⟩=some (.int .i64 x.zE):=(HB.out.cell HL.out).trans (HCC.out 0 _ rfl)
    have p1:wr.cell? ⟨b,o+1,none⟩=some (.slice va1 x.zM.length vc1):=(HB.out.cell HL.out).trans (HCC.out 1 _ rfl)
    have p2:wr.cell? ⟨b,o+2,none⟩=some (.slice (some ⟨b1,off,none⟩) x.zO.length vc2):=(HB.out.cell HL.out).trans (HCC.out 2 _ rfl)
    have p3:wr.cell? ⟨b,o+3,none⟩=some (.slice (some ⟨bf,of,none⟩) x.zU.length vc3):=(HB.out.cell HL.out).trans (HCC.out 3 _ rfl)
    have p4:wr.cell? ⟨b,o+4,none⟩=some (.slice va4 x.zP.length vc4):=(HB.out.cell HL.out).trans (HCC.out 4 _ rfl)
    have p5:wr.cell? ⟨b,o+5,none⟩=some (.slice va5 x.zW.zH.length vc5):=(HB.out.cell HL.out).trans (HCC.out 5 _ rfl)
    have lb:b<wr.heap.size:=Nat.lt_of_lt_of_le HL.out HB.out.size
    have hIf: ∀ n ∈ [fd],I64 n:=by intro n hn;obtain rfl:=List.mem_singleton.1 hn;exact HFF.out
    have HNf:=hide (c_l32Numbers _ [fd] _ (rdI_bk (xs:= [fd]) (Bk.born wr 2 #[.int .i64 fd]) rfl (by simp)) hIf (by simp))
    have zb:(mkS (blanks [fd])).size≤22:=by rw[size_mkS];have:=blanks_len hIf;simpa using this
    clear hIf
    obtain⟨ys,hys⟩: ∃ ys,((⟨#[116,114,97,99,107]⟩:ByteArray)++mkS (blanks [fd]))++(⟨#[10]⟩:ByteArray)=ys:=⟨_,rfl⟩
    have Dys:=hide (show ys.data.toList=lineL (wrdL [116,114,97,99,107] [fd]) by rw[←hys];simp[dat_app,dat_mk,lineL,wrdL,clipL])
    have yys:((⟨#[116,114,97,99,107]⟩:ByteArray)++mkS (blanks [fd])).size≤27:=by rw[ByteArray.size_append];omega
    have zys:ys.size≤28:=by rw[←hys,ByteArray.size_append,h10];omega
    go_wp2_with fail
    refine HNf.out.mono ?_;rintro e w3 ⟨rfl,hb⟩
    have HR3:=hide (show Below wr.heap.size wr w3 from yH ((Below.refl _ _).alloc (Nat.le_refl _) _) (by simp) hb);have HW3:=hide (yH HW.out hsw HR3.out);have HO3:=hide (HO.out.all HR3.out);have hs3:=HW3.out.size;clear hb
    have HB3:=hide (yH HB1.out HB1.out.size HW3.out)
    go_wp2_with (at_builtin;refine app_off rfl _ _ _ _ rfl w1.heap.size 5 _ Tryz.underlying104 Tryz.underlying9 info_u8 rfl _ _ rfl HO3.out ys rfl (by omega) hs3 ?_;intro v8 w8 ho8 hg8 hv8;have HO8:=hide ho8;have HW8:=hide (HW3.out.grown hg8 hs3 (fun k hk=>(HO3.out.lt k hk).1));clear ho8 hg8 hv8)
    clear hys
    rw[Dys.out] at HO8
    clear p0 p1 p2 p3 p4 p5 lb hs3
    have HB8:=hide (yH HB1.out HB1.out.size HW8.out)
    have p0:w8.cell? ⟨b,o,none⟩=some (.int .i64 x.zE):=(HB8.out.cell HL.out).trans (HCC.out 0 _ rfl)
    have p1:w8.cell? ⟨b,o+1,none⟩=some (.slice va1 x.zM.length vc1):=(HB8.out.cell HL.out).trans (HCC.out 1 _ rfl)
    have p2:w8.cell? ⟨b,o+2,none⟩=some (.slice (some ⟨b1,off,none⟩) x.zO.length vc2):=(HB8.out.cell HL.out).trans (HCC.out 2 _ rfl)
    have p3:w8.cell? ⟨b,o+3,none⟩=some (.slice (some ⟨bf,of,none⟩) x.zU.length vc3):=(HB8.out.cell HL.out).trans (HCC.out 3 _ rfl)
    have p4:w8.cell? ⟨b,o+4,none⟩=some (.slice va4 x.zP.length vc4):=(HB8.out.cell HL.out).trans (HCC.out 4 _ rfl)
    have p5:w8.cell? ⟨b,o+5,none⟩=some (.slice va5 x.zW.zH.length vc5):=(HB8.out.cell HL.out).trans (HCC.out 5 _ rfl)
    have lb:b<w8.heap.size:=Nat.lt_of_lt_of_le HL.out HB8.out.size
    go_loopw [3,6] (fun o i wr=> ∃ q:Nat,q≤y.zR.length∧i= .int .i64 (q:Int)∧OwZ 5 wr w1.heap.size o ((l1++((x.zO.zip x.zU).take k).flatMap trackL)++lineL (wrdL [116,114,97,99,107] [fd])++(y.zR.take q).flatMap clipL)∧Below w1.heap.size w1 wr) (fun _ i _=>y.zR.length - (intOf i).toNat)
    case atStart=>exact⟨0,Nat.zero_le _,rfl,by rw[List.take_zero,List.flatMap_nil,List.append_nil];exact HO8.out,HW8.out⟩
    case round=>
     obtain⟨q,hq,rfl,ho,hbw⟩:=hrel
     have zZ:((l1++((x.zO.zip x.zU).take k).flatMap trackL)++lineL (wrdL [116,114,97,99,107] [fd])++(y.zR.take q).flatMap clipL).length≤1110000:=by
      have h1:(lineL (wrdL [116,114,97,99,107] [fd])).length≤28:=by rw[←Dys.out];have e:ys.data.toList.length=ys.size:=Array.length_toList;omega
      rw[List.length_append,List.length_append]
      have h2:=flat_cut (xs:=y.zR) clipL q;have h3:=flat_le (f:=clipL) (c:=115) (xs:=y.zR) (fun c hc=>clip_len (HGT.out c hc))
      omega
     have HOi:=hide ho;have HWi:=hide hbw;have HBi:=hide (yH HB1.out HB1.out.size hbw);have hswi:=hbw.size;clear ho hbw p0 p1 p2 p3 p4 p5 lb
     have p0:wr.cell? ⟨b,o,none⟩=some (.int .i64 x.zE):=(HBi.out.cell HL.out).trans (HCC.out 0 _ rfl)
     have p1:wr.cell? ⟨b,o+1,none⟩=some (.slice va1 x.zM.length vc1):=(HBi.out.cell HL.out).trans (HCC.out 1 _ rfl)
     have p2:wr.cell? ⟨b,o+2,none⟩=some (.slice (some ⟨b1,off,none⟩) x.zO.length vc2):=(HBi.out.cell HL.out).trans (HCC.out 2 _ rfl)
     have p3:wr.cell? ⟨b,o+3,none⟩=some (.slice (some ⟨bf,of,none⟩) x.zU.length vc3):=(HBi.out.cell HL.out).trans (HCC.out 3 _ rfl)
     have p4:wr.cell? ⟨b,o+4,none⟩=some (.slice va4 x.zP.length vc4):=(HBi.out.cell HL.out).trans (HCC.out 4 _ rfl)
     have p5:wr.cell? ⟨b,o+5,none⟩=some (.slice va5 x.zW.zH.length vc5):=(HBi.out.cell HL.out).trans (HCC.out 5 _ rfl)
     have lb:b<wr.heap.size:=Nat.lt_of_lt_of_le HL.out HBi.out.size
     obtain⟨lty,csy',hry,hcy⟩:=HAy.out
     obtain⟨u0,rfl,hu0⟩:=GTrack.yM hry
     obtain⟨ua0,uc0,rfl,ul0,um0,ux0⟩:=T.yL hu0
     have t0:=(HBi.out.cell lty).trans (hcy 0 _ rfl);have lty2:=Nat.lt_of_lt_of_le lty HBi.out.size
     rw[Nat.add_zero] at t0
     have UX0:=hide ux0;clear ux0 hu0 hry hcy
     by_cases hlq:q<y.zR.length
     rotate_left
     ·
      obtain rfl:q=y.zR.length:=by omega
      have HZE:=hide (show OwZ 5 wr w1.heap.size _ (l1++((x.zO.zip x.zU).take (k+1)).flatMap trackL) by have:=HOi.out;rw[List.take_length] at this;rw[flat_take _ (zip_at HG.out HFG.out),show trackL (y,fd)=lineL (wrdL [116,114,97,99,107] [fd])++y.zR.flatMap clipL from rfl];simpa using this)
      go_wp2
      go_roundw
      case rel=>exact⟨k+1,by omega,by go_num,HZE.out,HWi.out⟩
      case measure=>simp[intOf];omega
     have hgq:=List.getElem?_eq_getElem hlq
     obtain⟨b2,off2,cs2,hA2,hb2,hcs2,hcell2⟩:=UX0.out q y.zR[q] hgq
     subst hA2
     have hgc:=HGT.out y.zR[q] (List.getElem_mem hlq)
     generalize y.zR[q]=c at *
     have HGC:=hide hgq;have HCG:=hide hgc;clear hgq hgc
     obtain rfl:=GClip.yM (show T.rds _ _ _ by simpa only[GClip.t,T.rd] using hcs2)
     have s0:=(HBi.out.cell hb2).trans (hcell2 0 (.int .i64 c.zS) rfl)
     have s1:=(HBi.out.cell hb2).trans (hcell2 1 (.int .i64 c.zG) rfl)
     have s2:=(HBi.out.cell hb2).trans (hcell2 2 (.int .i64 c.zE) rfl)
     have s3:=(HBi.out.cell hb2).trans (hcell2 3 (.int .i64 c.yB) rfl)
     have s4:=(HBi.out.cell hb2).trans (hcell2 4 (.int .i64 c.zQ) rfl)
     rw[show off2+(q * 5+0)=off2+q * 5 by omega] at s0
     rw[show off2+(q * 5+1)=off2+q * 5+1 by omega] at s1
     rw[show off2+(q * 5+2)=off2+q * 5+2 by omega] at s2
     rw[show off2+(q * 5+3)=off2+q * 5+3 by omega] at s3
     rw[show off2+(q * 5+4)=off2+q * 5+4 by omega] at s4
     clear hcs2 hcell2
     have lb2:b2<wr.heap.size:=Nat.lt_of_lt_of_le hb2 HBi.out.size
     have HRY:=hide (show Below wr.heap.size wr ((wr.alloc (.cells #[.int .i64 c.zS,.int .i64 c.zG,.int .i64 c.zE,.int .i64 c.yB,.int .i64 c.zQ] 107)).alloc (.cells #[.int .i64 c.zS,.int .i64 c.zG,.int .i64 c.zE,.int .i64 c.yB,.int .i64 c.zQ] 2)) from((Below.refl _ _).alloc (Nat.le_refl _) _).alloc (by simp) _)
     have HRL:=hide (rdI_bk (xs:= [c.zS,c.zG,c.zE,c.yB,c.zQ]) (Bk.born (wr.alloc (.cells #[.int .i64 c.zS,.int .i64 c.zG,.int .i64 c.zE,.int .i64 c.yB,.int .i64 c.zQ] 107)) 2 #[.int .i64 c.zS,.int .i64 c.zG,.int .i64 c.zE,.int .i64 c.yB,.int .i64 c.zQ]) rfl (by simp))
     have hI5: ∀ n ∈ [c.zS,c.zG,c.zE,c.yB,c.zQ],I64 n:=by intro n hn;obtain⟨i1,i2,i3,i4,i5⟩:=HCG.out;simp only[List.mem_cons,List.not_mem_nil,or_false] at hn;rcases hn with rfl|rfl|rfl|rfl|rfl<;>assumption
     have HI5:=hide hI5;clear hI5
     have zb2:(mkS (blanks [c.zS,c.zG,c.zE,c.yB,c.zQ])).size≤110:=by rw[size_mkS];have:=blanks_len HI5.out;simpa using this
     obtain⟨bs,hbs⟩: ∃ bs,mkS (blanks [c.zS,c.zG,c.zE,c.yB,c.zQ])=bs:=⟨_,rfl⟩
     have HCS:=hide (c_l32Numbers _ [c.zS,c.zG,c.zE,c.yB,c.zQ] _ HRL.out HI5.out (by simp));rw[hbs,show (wr.alloc (.cells #[.int .i64 c.zS,.int .i64 c.zG,.int .i64 c.zE,.int .i64 c.yB,.int .i64 c.zQ] 107)).heap.size=wr.heap.size+1 by simp] at HCS
     rw[hbs] at zb2;have HBS:=hide hbs;clear hbs
     obtain⟨zs,hzs⟩: ∃ zs,((⟨#[99,108,105,112]⟩:ByteArray)++bs)++(⟨#[10]⟩:ByteArray)=zs:=⟨_,rfl⟩
     have Dzs:=hide (show zs.data.toList=clipL c by rw[←hzs,←HBS.out];simp[dat_app,dat_mk,lineL,wrdL,clipL])
     have yzs:((⟨#[99,108,105,112]⟩:ByteArray)++bs).size≤114:=by rw[ByteArray.size_append];omega
     have zzs:zs.size≤115:=by rw[←hzs,ByteArray.size_append,h10];omega
     go_wp2_with fail
     refine HCS.out.mono ?_;rintro e w5 ⟨rfl,hb⟩
     have HR5:=hide (yH HRY.out HRY.out.size hb);have HW5:=hide (yH HWi.out hswi HR5.out);have HO5:=hide (HOi.out.all HR5.out);have hs5:=HW5.out.size;clear hb
     go_wp2_with (at_builtin;refine app_off rfl _ _ _ _ rfl w1.heap.size 5 _ Tryz.underlying104 Tryz.underlying9 info_u8 rfl _ _ rfl HO5.out zs rfl (by omega) hs5 ?_;intro v8 w8 ho8 hg8 hv8;have HO8:=hide ho8;have HW8:=hide (HW5.out.grown hg8 hs5 (fun k hk=>(HO5.out.lt k hk).1));clear ho8 hg8 hv8)
     clear hzs
     go_roundw
     case rel=>exact⟨q+1,by omega,by go_num,by rw[flat_take _ HGC.out,←List.append_assoc,←Dzs.out];exact HO8.out,HW8.out⟩
     case measure=>simp[intOf];omega
   obtain rfl:k=x.zO.length:=by omega
   rw[zip_all HFD.out.symm] at HO zX
   have zX2:(l1++(x.zO.zip x.zU).flatMap trackL).length≤540000:=by rw[List.length_append];have:=HY1.out;have:=HY2.out;omega
   generalize l1++(x.zO.zip x.zU).flatMap trackL=l2 at *
   have HOB:=HO;have HWB:=HW;clear HO HW hlt hk zX
   have HMAT:=hide (⟨Nat.lt_of_lt_of_le HL.out HB.out.size,[.slice va5 x.zW.zH.length vc5],GMixer.rd_mk (T.yD R5.out HB.out),fun j u hj=>by(cases j with|zero=>(obtain rfl:Value.slice va5 x.zW.zH.length vc5=u:=(by simpa using hj);exact p5)|succ j=>(simp at hj))⟩:T.at wr x.zW.fs b (o+5))
   go_wp2_with fail
   refine(HMXT.out _ _ HMAT.out).mono ?_;rintro e w4 ⟨rfl,hb4⟩
   have HB4:=hide (yH HB.out HB.out.size hb4);have HW4:=hide (yH HWB.out hsw hb4);have HO4:=hide (HOB.out.all hb4);clear hb4 p0 p1 p2 p3 p4 p5 lb
   go_wp2_with fail
   refine(HSPL.out _).mono ?_;rintro e w5 ⟨v5,rfl,ho5,hb5⟩
   have HR5:=hide ho5.rd;have HST:=hide (fun b hb=>ho5.lt b hb);have HB5:=hide (yH HB4.out HB4.out.size hb5);have HW5:=hide (yH HW4.out HW4.out.size hb5);have HO5:=hide (HO4.out.all hb5);clear hb5 ho5
   obtain⟨A5,c5,rfl,l5,m5,x5⟩:=HR5.out.openS;clear x5
   have p0:w5.cell? ⟨b,o,none⟩=some (.int .i64 x.zE):=(HB5.out.cell HL.out).trans (HCC.out 0 _ rfl)
   have p1:w5.cell? ⟨b,o+1,none⟩=some (.slice va1 x.zM.length vc1):=(HB5.out.cell HL.out).trans (HCC.out 1 _ rfl)
   have p2:w5.cell? ⟨b,o+2,none⟩=some (.slice va2 x.zO.length vc2):=(HB5.out.cell HL.out).trans (HCC.out 2 _ rfl)
   have p3:w5.cell? ⟨b,o+3,none⟩=some (.slice va3 x.zU.length vc3):=(HB5.out.cell HL.out).trans (HCC.out 3 _ rfl)
   have p4:w5.cell? ⟨b,o+4,none⟩=some (.slice va4 x.zP.length vc4):=(HB5.out.cell HL.out).trans (HCC.out 4 _ rfl)
   have p5:w5.cell? ⟨b,o+5,none⟩=some (.slice va5 x.zW.zH.length vc5):=(HB5.out.cell HL.out).trans (HCC.out 5 _ rfl)
   have lb:b<w5.heap.size:=Nat.lt_of_lt_of_le HL.out HB5.out.size
   go_wp2
   clear HB hsw
   go_loopw [3,10] (fun o i wr=> ∃ k:Nat,k≤ml.length∧i= .int .i64 (k:Int)∧OwZ 5 wr w1.heap.size o (l2++((ml.zip x.zP).take k).flatMap strL)∧Below w1.heap.size w1 wr∧RdS wr (.slice A5 ml.length c5) ml∧w5.heap.size≤wr.heap.size∧Apart o w4.heap.size w5.heap.size) (fun _ i _=>ml.length - (intOf i).toNat)
   case atStart=>exact⟨0,Nat.zero_le _,rfl,by rw[List.take_zero,List.flatMap_nil,List.append_nil];exact HO5.out,HW5.out,HR5.out,Nat.le_refl _,fun b hb=> .inl (HO4.out.lt b hb).2⟩
   case round=>
    obtain⟨k,hk,rfl,ho,hbw,hrs,hs5,hap⟩:=hrel
    have zX:(l2++((ml.zip x.zP).take k).flatMap strL).length≤1100000:=by rw[List.length_append];have h1:=flat_cut (xs:=(ml.zip x.zP)) strL k;have h2:=HY3.out;omega
    have HO:=hide ho;have HW:=hide hbw;have HB:=hide (yH HB1.out HB1.out.size hbw);have hsw:=hbw.size;have HRS:=hide hrs;have HAP:=hide hap;clear hbw hrs hap p0 p1 p2 p3 p4 p5 lb
    have p0:wr.cell? ⟨b,o,none⟩=some (.int .i64 x.zE):=(HB.out.cell HL.out).trans (HCC.out 0 _ rfl)
    have p1:wr.cell? ⟨b,o+1,none⟩=some (.slice va1 x.zM.length vc1):=(HB.out.cell HL.out).trans (HCC.out 1 _ rfl)
    have p2:wr.cell? ⟨b,o+2,none⟩=some (.slice va2 x.zO.length vc2):=(HB.out.cell HL.out).trans (HCC.out 2 _ rfl)
    have p3:wr.cell? ⟨b,o+3,none⟩=some (.slice va3 x.zU.length vc3):=(HB.out.cell HL.out).trans (HCC.out 3 _ rfl)
    have p4:wr.cell? ⟨b,o+4,none⟩=some (.slice va4 x.zP.length vc4):=(HB.out.cell HL.out).trans (HCC.out 4 _ rfl)
    have p5:wr.cell? ⟨b,o+5,none⟩=some (.slice va5 x.zW.zH.length vc5):=(HB.out.cell HL.out).trans (HCC.out 5 _ rfl)
    have lb:b<wr.heap.size:=Nat.lt_of_lt_of_le HL.out HB.out.size
    by_cases hlm:k<ml.length
    rotate_left
    ·
     obtain rfl:k=ml.length:=by omega
     rw[zip_all HML.out,←HSES.out] at ho
     have hc:=str_of ho.rd
     obtain⟨_,A2,cap2,rfl,_,_,_⟩:=ho.rd
     clear ho
     go_wp2
     go_ret
     exact⟨ret_str rfl,HB.out⟩
    clear ho
    obtain⟨A',c',e',_,_,x5⟩:=HRS.out.openS;injection e' with e1 e2 e3;subst e1 e3;have HXL:=hide x5;clear x5
    have hgm:=List.getElem?_eq_getElem hlm
    obtain⟨b6,o6,rfl,hb6,m0⟩:=HXL.out k _ hgm
    have zl:=HLE.out ml[k] (List.getElem_mem hlm)
    generalize ml[k]=l at *
    have HGM:=hide hgm;clear hgm HXL
    have hlt:k<x.zP.length:=by have:=HML.out;omega
    have hgk:=List.getElem?_eq_getElem hlt
    obtain⟨b1,off,csy,hA,hb1,hcs,hcell⟩:=HX4.out k x.zP[k] hgk
    subst hA
    generalize x.zP[k]=y at *
    have HG:=hide hgk;clear hgk
    have HAy:=hide (T.at_elem (o:=off+k * 4) hb1 (show T.rds w y.fs csy by simpa only[GPatch.t,T.rd] using hcs) hcell (by omega));clear hcs hcell
    clear p0 p1 p2 p3 p4 p5 lb
    have p0:wr.cell? ⟨b,o,none⟩=some (.int .i64 x.zE):=(HB.out.cell HL.out).trans (HCC.out 0 _ rfl)
    have p1:wr.cell? ⟨b,o+1,none⟩=some (.slice va1 x.zM.length vc1):=(HB.out.cell HL.out).trans (HCC.out 1 _ rfl)
    have p2:wr.cell? ⟨b,o+2,none⟩=some (.slice va2 x.zO.length vc2):=(HB.out.cell HL.out).trans (HCC.out 2 _ rfl)
    have p3:wr.cell? ⟨b,o+3,none⟩=some (.slice va3 x.zU.length vc3):=(HB.out.cell HL.out).trans (HCC.out 3 _ rfl)
    have p4:wr.cell? ⟨b,o+4,none⟩=some (.slice (some ⟨b1,off,none⟩) x.zP.length vc4):=(HB.out.cell HL.out).trans (HCC.out 4 _ rfl)
    have p5:wr.cell? ⟨b,o+5,none⟩=some (.slice va5 x.zW.zH.length vc5):=(HB.out.cell HL.out).trans (HCC.out 5 _ rfl)
    have lb:b<wr.heap.size:=Nat.lt_of_lt_of_le HL.out HB.out.size
    have HEO:=hide (HS.out.effects k y HG.out);have HGP:=hide (GE.out y (List.mem_of_getElem? HG.out));have HSP:=hide (HSM.out.2.2.2.1.2 y (List.mem_of_getElem? HG.out))
    obtain⟨ys,hys⟩: ∃ ys,((⟨#[115,116,114,105,112,32]⟩:ByteArray)++l)++(⟨#[10]⟩:ByteArray)=ys:=⟨_,rfl⟩
    have Dys:=hide (show ys.data.toList= [115,116,114,105,112,32]++l.data.toList++ [10] by rw[←hys];simp[dat_app,dat_mk,lineL,wrdL,clipL])
    have yys:((⟨#[115,116,114,105,112,32]⟩:ByteArray)++l).size≤1614:=by rw[ByteArray.size_append];omega
    have zys:ys.size≤1615:=by rw[←hys,ByteArray.size_append,h10];omega
    by_cases he:y=noPatch
    ·
     have q0:=yV he
     have HEE:=hide (show effL y= [] by rw[eff_pre,if_pos he]);clear he
     go_wp2_with (at_builtin;refine app_off rfl _ _ _ _ rfl w1.heap.size 5 _ Tryz.underlying104 Tryz.underlying9 info_u8 rfl _ _ rfl HO.out ys rfl (by omega) hsw ?_;intro v8 w8 ho8 hg8 hv8;have HO8:=hide ho8;have HW8:=hide (HW.out.grown hg8 hsw (fun k hk=>(HO.out.lt k hk).1));have HRS8:=hide (rds_apart HRS.out HST.out HAP.out hg8);have HAP8:=hide (HAP.out.next hv8 hs5);have hs8:w5.heap.size≤w8.heap.size:=Nat.le_trans hs5 hg8.size;have HB8:=hide (yH HB1.out HB1.out.size HW8.out);clear p0 p1 p2 p3 p4 p5 lb;have p0:w8.cell? ⟨b,o,none⟩=some (.int .i64 x.zE):=(HB8.out.cell HL.out).trans (HCC.out 0 _ rfl);have p1:w8.cell? ⟨b,o+1,none⟩=some (.slice va1 x.zM.length vc1):=(HB8.out.cell HL.out).trans (HCC.out 1 _ rfl);have p2:w8.cell? ⟨b,o+2,none⟩=some (.slice va2 x.zO.length vc2):=(HB8.out.cell HL.out).trans (HCC.out 2 _ rfl);have p3:w8.cell? ⟨b,o+3,none⟩=some (.slice va3 x.zU.length vc3):=(HB8.out.cell HL.out).trans (HCC.out 3 _ rfl);have p4:w8.cell? ⟨b,o+4,none⟩=some (.slice (some ⟨b1,off,none⟩) x.zP.length vc4):=(HB8.out.cell HL.out).trans (HCC.out 4 _ rfl);have p5:w8.cell? ⟨b,o+5,none⟩=some (.slice va5 x.zW.zH.length vc5):=(HB8.out.cell HL.out).trans (HCC.out 5 _ rfl);have lb:b<w8.heap.size:=Nat.lt_of_lt_of_le HL.out HB8.out.size;clear ho8 hg8 hv8)
     refine(c_l27None y b1 (off+k * 4) _ (T.at_below HAy.out HB8.out)).mono ?_;rintro e w9 ⟨rfl,hb⟩;rw[q0]
     have HW9:=hide (yH HW8.out HW8.out.size hb);have HO9:=hide (HO8.out.all hb);have HRS9:=hide (HRS8.out.below hb);have hs9:w5.heap.size≤w9.heap.size:=Nat.le_trans hs8 hb.size;clear hb hys p0 p1 p2 p3 p4 p5 lb m0
     rw[Dys.out] at HO9
     go_wp2
     go_roundw
     case rel=>exact⟨k+1,by omega,by go_num,by have h:=HO9.out;rw[flat_take _ (zip_at HGM.out HG.out),show strL (l,y)= [115,116,114,105,112,32]++l.data.toList++ [10]++effL y from rfl,HEE.out];simpa using h,HW9.out,HRS9.out,hs9,HAP8.out⟩
     case measure=>simp[intOf];omega
    ·
     have q0:=yU he
     have HPO:=hide (HEO.out.resolve_left he).1.formed;have HEE:=hide (show effL y=preL [58,32] (linesF (mkS (patchL y))) by rw[eff_pre,if_neg he]);clear he
     have HPL:=hide (patch_len HPO.out HGP.out);have HEL:=hide (eff_len HEO.out HGP.out)
     have HPT:=hide (fun(W:World) (h:T.at W y.fs b1 (off+k * 4))=>c_l07Text y b1 (off+k * 4) W HPO.out HGP.out HSP.out h)
     have HPF:=hide (fun W=>c_l32Lines (mkS (patchL y)) W (by rw[size_mkS];exact Nat.le_trans HPL.out (by decide)))
     have HLL:=hide (fun(l:ByteArray) (hl:l ∈ linesF (mkS (patchL y)))=>(Nat.le_trans (line_le hl) (by rw[size_mkS];exact HPL.out):l.size≤20000))
     generalize linesF (mkS (patchL y))=ls at *
     generalize mkS (patchL y)=pp at *
     go_wp2_with (at_builtin;refine app_off rfl _ _ _ _ rfl w1.heap.size 5 _ Tryz.underlying104 Tryz.underlying9 info_u8 rfl _ _ rfl HO.out ys rfl (by omega) hsw ?_;intro v8 w8 ho8 hg8 hv8;have HO8:=hide ho8;have HW8:=hide (HW.out.grown hg8 hsw (fun k hk=>(HO.out.lt k hk).1));have HRS8:=hide (rds_apart HRS.out HST.out HAP.out hg8);have HAP8:=hide (HAP.out.next hv8 hs5);have hs8:w5.heap.size≤w8.heap.size:=Nat.le_trans hs5 hg8.size;have HB8:=hide (yH HB1.out HB1.out.size HW8.out);clear p0 p1 p2 p3 p4 p5 lb;have p0:w8.cell? ⟨b,o,none⟩=some (.int .i64 x.zE):=(HB8.out.cell HL.out).trans (HCC.out 0 _ rfl);have p1:w8.cell? ⟨b,o+1,none⟩=some (.slice va1 x.zM.length vc1):=(HB8.out.cell HL.out).trans (HCC.out 1 _ rfl);have p2:w8.cell? ⟨b,o+2,none⟩=some (.slice va2 x.zO.length vc2):=(HB8.out.cell HL.out).trans (HCC.out 2 _ rfl);have p3:w8.cell? ⟨b,o+3,none⟩=some (.slice va3 x.zU.length vc3):=(HB8.out.cell HL.out).trans (HCC.out 3 _ rfl);have p4:w8.cell? ⟨b,o+4,none⟩=some (.slice (some ⟨b1,off,none⟩) x.zP.length vc4):=(HB8.out.cell HL.out).trans (HCC.out 4 _ rfl);have p5:w8.cell? ⟨b,o+5,none⟩=some (.slice va5 x.zW.zH.length vc5):=(HB8.out.cell HL.out).trans (HCC.out 5 _ rfl);have lb:b<w8.heap.size:=Nat.lt_of_lt_of_le HL.out HB8.out.size;clear ho8 hg8 hv8)
     refine(c_l27None y b1 (off+k * 4) _ (T.at_below HAy.out HB8.out)).mono ?_;rintro e w9 ⟨rfl,hb⟩;rw[q0]
     have HW9:=hide (yH HW8.out HW8.out.size hb);have HO9:=hide (HO8.out.all hb);have HRS9:=hide (HRS8.out.below hb);have hs9:w5.heap.size≤w9.heap.size:=Nat.le_trans hs8 hb.size;clear hb hys p0 p1 p2 p3 p4 p5 lb m0
     rw[Dys.out] at HO9
     have HB9:=hide (yH HB1.out HB1.out.size HW9.out)
     have p0:w9.cell? ⟨b,o,none⟩=some (.int .i64 x.zE):=(HB9.out.cell HL.out).trans (HCC.out 0 _ rfl)
     have p1:w9.cell? ⟨b,o+1,none⟩=some (.slice va1 x.zM.length vc1):=(HB9.out.cell HL.out).trans (HCC.out 1 _ rfl)
     have p2:w9.cell? ⟨b,o+2,none⟩=some (.slice va2 x.zO.length vc2):=(HB9.out.cell HL.out).trans (HCC.out 2 _ rfl)
     have p3:w9.cell? ⟨b,o+3,none⟩=some (.slice va3 x.zU.length vc3):=(HB9.out.cell HL.out).trans (HCC.out 3 _ rfl)
     have p4:w9.cell? ⟨b,o+4,none⟩=some (.slice (some ⟨b1,off,none⟩) x.zP.length vc4):=(HB9.out.cell HL.out).trans (HCC.out 4 _ rfl)
     have p5:w9.cell? ⟨b,o+5,none⟩=some (.slice va5 x.zW.zH.length vc5):=(HB9.out.cell HL.out).trans (HCC.out 5 _ rfl)
     have lb:b<w9.heap.size:=Nat.lt_of_lt_of_le HL.out HB9.out.size
     go_wp2_with fail
     refine(HPT.out _ (T.at_below HAy.out HB9.out)).mono ?_;rintro e w10 ⟨rfl,hb⟩
     have HW10:=hide (yH HW9.out HW9.out.size hb);have HO10:=hide (HO9.out.all hb);have HRS10:=hide (HRS9.out.below hb);have hs10:w5.heap.size≤w10.heap.size:=Nat.le_trans hs9 hb.size;clear hb p0 p1 p2 p3 p4 p5 lb
     go_wp2_with fail
     refine(HPF.out _).mono ?_;rintro e w11 ⟨v6,rfl,ho6,hb⟩
     have HR6:=hide ho6.rd;have HST6:=hide (fun b hb=>ho6.lt b hb);have HW11:=hide (yH HW10.out HW10.out.size hb);have HO11:=hide (HO10.out.all hb);have HRS11:=hide (HRS10.out.below hb);have hs11:w10.heap.size≤w11.heap.size:=hb.size;clear hb ho6
     obtain⟨A6,c6,rfl,l6,m6,x6⟩:=HR6.out.openS;clear x6
     go_wp2
     go_loopw [3,13] (fun o i wr=> ∃ q:Nat,q≤ls.length∧i= .int .i64 (q:Int)∧OwZ 5 wr w1.heap.size o (((l2++((ml.zip x.zP).take k).flatMap strL)++([115,116,114,105,112,32]++l.data.toList++ [10]))++preL [58,32] (ls.take q))∧Below w1.heap.size w1 wr∧RdS wr (.slice (some ⟨b6,o6,none⟩) ml.length c5) ml∧RdS wr (.slice A6 ls.length c6) ls∧w11.heap.size≤wr.heap.size∧Apart o w4.heap.size w5.heap.size∧Apart o w10.heap.size w11.heap.size) (fun _ i _=>ls.length - (intOf i).toNat)
     case atStart=>exact⟨0,Nat.zero_le _,rfl,by rw[List.take_zero];unfold preL;rw[List.flatMap_nil,List.append_nil];exact HO11.out,HW11.out,HRS11.out,HR6.out,Nat.le_refl _,HAP8.out,fun b hb=> .inl (HO10.out.lt b hb).2⟩
     case round=>
      obtain⟨q,hq,rfl,ho,hbw,hrs,hr6,hsz,hap,hap6⟩:=hrel
      have hsw2:=hbw.size
      have zZ:(((l2++((ml.zip x.zP).take k).flatMap strL)++([115,116,114,105,112,32]++l.data.toList++ [10]))++preL [58,32] (ls.take q)).length≤1200000:=by
       have h1:=HEL.out;rw[HEE.out] at h1;have h2:=flat_cut (xs:=ls) (fun l=> [58,32]++l.data.toList++ [10]) q
       have h3:(preL [58,32] (ls.take q)).length≤60000:=Nat.le_trans h2 h1
       have h4:([115,116,114,105,112,32]++l.data.toList++ [10]).length≤1615:=by rw[←Dys.out];have e:ys.data.toList.length=ys.size:=Array.length_toList;omega
       rw[List.length_append,List.length_append];omega
      have HOi:=hide ho;have HWi:=hide hbw;have HRSi:=hide hrs;have HR6i:=hide hr6;have HAPi:=hide hap;have HAP6:=hide hap6;clear ho hbw hrs hr6 hap hap6
      by_cases hlq:q<ls.length
      rotate_left
      ·
       obtain rfl:q=ls.length:=by omega
       have HZE:=hide (show OwZ 5 wr w1.heap.size _ (l2++((ml.zip x.zP).take (k+1)).flatMap strL) by have:=HOi.out;rw[List.take_length,←HEE.out] at this;rw[flat_take _ (zip_at HGM.out HG.out),show strL (l,y)= [115,116,114,105,112,32]++l.data.toList++ [10]++effL y from rfl];simpa using this)
       have hs12:w5.heap.size≤wr.heap.size:=by omega
       go_wp2
       go_roundw
       case rel=>exact⟨k+1,by omega,by go_num,HZE.out,HWi.out,HRSi.out,hs12,HAPi.out⟩
       case measure=>simp[intOf];omega
      obtain⟨A',c',e',_,_,x6⟩:=HR6i.out.openS;injection e' with e1 e2 e3;subst e1 e3;have HXL:=hide x6;clear x6
      have hgq:=List.getElem?_eq_getElem hlq
      obtain⟨b7,o7,rfl,hb7,n0⟩:=HXL.out q _ hgq
      have zq:=HLL.out ls[q] (List.getElem_mem hlq)
      generalize ls[q]=lq at *
      have HGQ:=hide hgq;clear hgq HXL
      obtain⟨zs,hzs⟩: ∃ zs,((⟨#[58,32]⟩:ByteArray)++lq)++(⟨#[10]⟩:ByteArray)=zs:=⟨_,rfl⟩
      have Dzs:=hide (show zs.data.toList= [58,32]++lq.data.toList++ [10] by rw[←hzs];simp[dat_app,dat_mk,lineL,wrdL,clipL])
      have yzs:((⟨#[58,32]⟩:ByteArray)++lq).size≤20002:=by rw[ByteArray.size_append];omega
      have zzs:zs.size≤20003:=by rw[←hzs,ByteArray.size_append,h10];omega
      go_wp2_with (at_builtin;refine app_off rfl _ _ _ _ rfl w1.heap.size 5 _ Tryz.underlying104 Tryz.underlying9 info_u8 rfl _ _ rfl HOi.out zs rfl (by omega) hsw2 ?_;intro v8 w8 ho8 hg8 hv8;have HO8:=hide ho8;have HW8:=hide (HWi.out.grown hg8 hsw2 (fun k hk=>(HOi.out.lt k hk).1));have HRS8:=hide (rds_apart HRSi.out HST.out HAPi.out hg8);have HR68:=hide (rds_apart HR6i.out HST6.out HAP6.out hg8);have HAP9:=hide (HAPi.out.next hv8 (by omega));have HAP69:=hide (HAP6.out.next hv8 hsz);have hs13:w11.heap.size≤w8.heap.size:=Nat.le_trans hsz hg8.size;clear ho8 hg8 hv8)
      clear hzs
      go_roundw
      case rel=>exact⟨q+1,by omega,by go_num,by unfold preL;rw[flat_take _ HGQ.out,←List.append_assoc,←Dzs.out];exact HO8.out,HW8.out,HRS8.out,HR68.out,hs13,HAP9.out,HAP69.out⟩
      case measure=>simp[intOf];omega
end Go.Proofs.YtbgedljbgkcpiaaGreatDoor
