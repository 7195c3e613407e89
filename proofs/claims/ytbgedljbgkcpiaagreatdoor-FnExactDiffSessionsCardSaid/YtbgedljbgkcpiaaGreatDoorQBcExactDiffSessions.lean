/- Contracts: the text of a session, by the program. -/
import Derived.Test.YtbgedljbgkcpiaaGreatDoorQArExactDiffSessions
import Derived.Test.YtbgedljbgkcpiaaGreatDoorQBbExactDiffSessions
import Derived.Test.YtbgedljbgkcpiaaGreatDoorQBaExactDiffSessions
set_option linter.unusedVariables false
set_option linter.unusedSimpArgs false
set_option maxHeartbeats 16000000
set_option maxRecDepth 100000
namespace Go.Proofs.YtbgedljbgkcpiaaGreatDoor
open Go.RowKit
theorem zip_at {α β:Type} {xs:List α} {ys:List β} {k:Nat} {x:α} {y:β} (hx:xs[k]?=some x) (hy:ys[k]?=some y):(xs.zip ys)[k]?=some (x,y):=by
 rw[List.getElem?_zip_eq_some];exact⟨hx,hy⟩
theorem zip_all {α β:Type} {xs:List α} {ys:List β} (h:xs.length=ys.length):(xs.zip ys).take xs.length=xs.zip ys:=List.take_of_length_le (by rw[List.length_zip];omega)
theorem c_sessionText (x:GSession) (cs:List Value) (w:World) (hS:SessionOk x) (hg:x.good) (hs:x.small) (ht:TB w) (h:T.rds w x.fs cs):Calls Tryz.prog 28 #[.agg cs.toArray] w fun e w'=>e= .returned (.string (mkS (sesL x)))∧Below w.heap.size w w':=by
 obtain⟨v1,v2,v3,v4,v5,rfl,h1,h2,h3,h4,h5⟩:=GSession.yM h
 clear h
 have R1:=hide h1;obtain⟨va1,vc1,rfl,vl1,vm1,vx1⟩:=T.yL h1
 have HX1:=hide vx1;clear vx1 h1
 have R2:=hide h2;obtain⟨va2,vc2,rfl,vl2,vm2,vx2⟩:=T.yL h2
 have HX2:=hide vx2;clear vx2 h2
 have h3i:=T.yQ.1 h3;obtain⟨va3,vc3,rfl,vl3,vm3,vx3⟩:=h3i.open_
 have R3:=hide h3i;have HX3:=hide vx3;clear vx3 h3 h3i
 have R4:=hide h4;obtain⟨va4,vc4,rfl,vl4,vm4,vx4⟩:=T.yL h4
 have HX4:=hide vx4;clear vx4 h4
 have R5:=hide h5;obtain⟨va5,vc5,rfl,vl5,vm5,vx5⟩:=T.yL h5
 have HX5:=hide vx5;clear vx5 h5
 have HB0:=hide (show Below w.heap.size w (w.alloc (.cells #[.int .i64 x.zE,(.slice va1 x.zM.length vc1),(.slice va2 x.zO.length vc2),(.slice va3 x.zU.length vc3),(.slice va4 x.zP.length vc4),(.slice va5 x.zW.zH.length vc5)] 41)) from(Below.refl _ _).alloc (Nat.le_refl _) _)
 have HK0:=hide (Bk.born w 41 #[.int .i64 x.zE,(.slice va1 x.zM.length vc1),(.slice va2 x.zO.length vc2),(.slice va3 x.zU.length vc3),(.slice va4 x.zP.length vc4),(.slice va5 x.zW.zH.length vc5)])
 have HTB:=hide ht;have HS:=hide hS;have HSM:=hide hs
 obtain⟨y1,y2,y3⟩:=ses_parts hS hg
 have GL:=hide hg.1;have GS:=hide hg.2.1;have GT:=hide hg.2.2.1;have GF:=hide hg.2.2.2.1;have GE:=hide hg.2.2.2.2.1;have GM:=hide (show x.zW.good from hg.2.2.2.2.2);clear hg ht
 have zL:(decS x.zE).size≤21:=by unfold decS;rw[size_mkS];exact dec_len GL.out
 have HY1:=hide (show (lineL (wrdL [115,101,115,115,105,111,110] [x.zE])++x.zM.flatMap (fun s=>lineL (wrdL [115,111,117,114,99,101] s))).length≤528072 from y1);have HY2:=hide y2;have HY3:=hide y3;clear y1 y2 y3
 have HSES:=hide (show sesL x=(lineL (wrdL [115,101,115,115,105,111,110] [x.zE])++x.zM.flatMap (fun s=>lineL (wrdL [115,111,117,114,99,101] s)))++(x.zO.zip x.zU).flatMap trackL++((linesF (mkS (mixL x.zW))).zip x.zP).flatMap strL from rfl)
 have HEF:=hide (hS.effect);have HFD:=hide hS.feed;have HFW:=hide hS.few
 have hml:(linesF (mkS (mixL x.zW))).length=x.zP.length:=(mix_lines hS.mixer).trans hS.effect.symm
 have HML:=hide hml;have hmz:=mix_len hS.mixer GM.out;have HMZ:=hide hmz;clear hml hmz
 have HLE:=hide (fun(l:ByteArray) (hl:l ∈ linesF (mkS (mixL x.zW)))=>(Nat.le_trans (line_le hl) (by rw[size_mkS];exact HMZ.out):l.size≤1608))
 have HSPL:=hide (fun W=>c_splitLines (mkS (mixL x.zW)) W (by rw[size_mkS];exact Nat.le_trans HMZ.out (by decide)))
 generalize linesF (mkS (mixL x.zW))=ml at *
 have HMXT:=hide (fun(W:World) (cs:List Value) (h:T.rds W x.zW.fs cs) (h2:TB W)=>c_MixerText x.zW cs W HS.out.mixer GM.out h2 h)
 have zmx:(mkS (mixL x.zW)).size≤1608:=by rw[size_mkS];exact HMZ.out
 generalize mkS (mixL x.zW)=mx at *
 generalize sesL x=tx at *;clear hS hs
 have h8:(⟨#[115,101,115,115,105,111,110,32]⟩:ByteArray).size=8:=rfl;have h10:(⟨#[10]⟩:ByteArray).size=1:=rfl;have h6:(⟨#[116,114,97,99,107,32]⟩:ByteArray).size=6:=rfl;have h6':(⟨#[115,116,114,105,112,32]⟩:ByteArray).size=6:=rfl
 have HE0:=hide (show ((⟨#[115,101,115,115,105,111,110,32]⟩:ByteArray)++decS x.zE)++(⟨#[10]⟩:ByteArray)=mkS (lineL (wrdL [115,101,115,115,105,111,110] [x.zE])) by apply str_is;simp[dat_app,dat_dec,wrdL,blanks,blankL,lineL])
 have z0:((⟨#[115,101,115,115,105,111,110,32]⟩:ByteArray)++decS x.zE).size≤29:=by rw[ByteArray.size_append,h8];omega
 generalize lineL (wrdL [115,101,115,115,105,111,110] [x.zE])=l0 at *
 go_enter Tryz.func28,Tryz.ntmps28
 go_wp2_with fail
 refine(c_iDec x.zE _ (HTB.out.below HB0.out) GL.out.1 GL.out.2).mono ?_;rintro e w1 ⟨rfl,hd⟩
 have hb:Below (w.alloc (.cells #[.int .i64 x.zE,(.slice va1 x.zM.length vc1),(.slice va2 x.zO.length vc2),(.slice va3 x.zU.length vc3),(.slice va4 x.zP.length vc4),(.slice va5 x.zW.zH.length vc5)] 41)).heap.size (w.alloc (.cells #[.int .i64 x.zE,(.slice va1 x.zM.length vc1),(.slice va2 x.zO.length vc2),(.slice va3 x.zU.length vc3),(.slice va4 x.zP.length vc4),(.slice va5 x.zW.zH.length vc5)] 41)) w1:=by first|exact hd|exact hd.to_below _|exact hd ▸ Below.refl _ _
 have HK1:=hide (HK0.out.below hb HK0.out.lt);have HB1:=hide (yH HB0.out HB0.out.size hb);clear hb hd;have ka:=HK1.out.cell;have la:=HK1.out.lt
 obtain⟨X0,hX0⟩: ∃ X0,((⟨#[115,101,115,115,105,111,110,32]⟩:ByteArray)++decS x.zE)++(⟨#[10]⟩:ByteArray)=X0:=⟨_,rfl⟩
 have HX0e:=hide (show X0=mkS l0 by rw[←hX0,HE0.out])
 go_wp2
 clear hX0 z0
 go_loopw [3,20] (fun o i wr=> ∃ (k:Nat) (X:ByteArray),k≤x.zM.length∧i= .int .i64 (k:Int)∧o= .string X∧X=mkS (l0++(x.zM.take k).flatMap (fun s=>lineL (wrdL [115,111,117,114,99,101] s)))∧Below w1.heap.size w1 wr) (fun _ i _=>x.zM.length - (intOf i).toNat)
 case atStart=>exact⟨0,_,Nat.zero_le _,rfl,rfl,by rw[HX0e.out,List.take_zero,List.flatMap_nil,List.append_nil],Below.refl _ _⟩
 case round=>
  obtain⟨k,X,hk,rfl,rfl,hX,hbw⟩:=hrel
  have zX:X.size≤1100000:=by rw[hX,size_mkS];simp only[List.length_append];have h1:=flat_cut (xs:=x.zM) (fun s=>lineL (wrdL [115,111,117,114,99,101] s)) k;have h2:=HY1.out;simp only[List.length_append] at h2;omega
  have HXX:=hide hX;have HW:=hide hbw;have HB:=hide (yH HB1.out HB1.out.size hbw);have HK:=hide (HK1.out.below hbw HK1.out.lt);clear hX hbw ka la
  have ka:=HK.out.cell;have la:=HK.out.lt
  by_cases hlt:k<x.zM.length
  ·
   have hgk:=List.getElem?_eq_getElem hlt
   obtain⟨b1,off,cs1,rfl,hb1,hcs,hcell⟩:=HX1.out k x.zM[k] hgk
   have hgl:=GS.out x.zM[k] (List.getElem_mem hlt);have hsl:=HSM.out.1.2 x.zM[k] (List.getElem_mem hlt)
   have hs4:x.zM[k].length≤4000:=by have e:=HS.out.sources.each k _ hgk;unfold sigB at e;simp only[Bool.and_eq_true,decide_eq_true_eq] at e;exact e.1
   generalize x.zM[k]=l at *
   have HG:=hide hgk;have GL1:=hide hgl;have SL:=hide hsl;clear hgk hgl hsl
   obtain⟨u3,rfl⟩:=T.rd_one hcs
   have d0:=(HB.out.cell hb1).trans (hcell 0 u3 rfl)
   rw[Nat.mul_one,Nat.add_zero] at d0
   have hb2:b1<wr.heap.size:=Nat.lt_of_lt_of_le hb1 HB.out.size
   have RL:=hide (T.yQ.1 hcs);clear hcs hcell
   obtain⟨A3,c3,rfl,l3,m3,x3⟩:=RL.out.open_;clear x3
   have zw:(mkS (wrdL [115,111,117,114,99,101] l)).size≤88006:=by rw[size_mkS];have:=word_len (p:= [115,111,117,114,99,101]) GL1.out hs4;have:([115,111,117,114,99,101]:List UInt8).length=6:=rfl;omega
   obtain⟨ws,hws⟩: ∃ ws,mkS (wrdL (⟨#[115,111,117,114,99,101]⟩:ByteArray).data.toList l)=ws:=⟨_,rfl⟩
   have zws:ws.size≤88006:=by rw[←hws];exact zw
   have HCS:=hide (show Calls Tryz.prog 72 #[.string ⟨#[115,111,117,114,99,101]⟩,.slice A3 l.length c3] wr fun e w'=>e= .returned (.string ws)∧Below wr.heap.size wr w' by have:=c_spaced ⟨#[115,111,117,114,99,101]⟩ _ l _ (Rd.below RL.out HB.out) GL1.out SL.out (by decide) (HTB.out.below HB.out);rwa [hws] at this)
   have HWS:=hide hws;clear hws zw
   have zw1:(ws++(⟨#[10]⟩:ByteArray)).size≤88007:=by rw[ByteArray.size_append,h10];omega
   go_wp2_with (go_at_call 72;refine HCS.out.mono ?_;rintro e w3 ⟨rfl,hb⟩;have HW3:=hide (yH HW.out HW.out.size hb);clear hb)
   go_roundw
   case rel=>exact⟨k+1,_,by omega,by go_num,rfl,by rw[HXX.out,flat_take _ HG.out,←HWS.out];apply str_is;simp[dat_app,dat_mk,lineL],HW3.out⟩
   case measure=>simp[intOf];omega
  obtain rfl:k=x.zM.length:=by omega
  rw[List.take_length] at HXX
  generalize hl1:l0++x.zM.flatMap (fun s=>lineL (wrdL [115,111,117,114,99,101] s))=l1 at *;clear hl1
  have HXA:=hide (show X=mkS l1 from HXX.out);clear HXX hlt hk zX HB HK
  have HWA:=HW;clear HW
  go_wp2
  go_loopw [3,33] (fun o i wr=> ∃ (k:Nat) (X:ByteArray),k≤x.zO.length∧i= .int .i64 (k:Int)∧o= .string X∧X=mkS (l1++((x.zO.zip x.zU).take k).flatMap trackL)∧Below w1.heap.size w1 wr) (fun _ i _=>x.zO.length - (intOf i).toNat)
  case atStart=>exact⟨0,_,Nat.zero_le _,rfl,rfl,by rw[HXA.out,List.take_zero,List.flatMap_nil,List.append_nil],HWA.out⟩
  case round=>
   obtain⟨k,X,hk,rfl,rfl,hX,hbw⟩:=hrel
   have zX:X.size≤1100000:=by rw[hX,size_mkS];simp only[List.length_append];have h1:=flat_cut (xs:=(x.zO.zip x.zU)) trackL k;have h2:=HY1.out;have h3:=HY2.out;omega
   have HXX:=hide hX;have HW:=hide hbw;have HB:=hide (yH HB1.out HB1.out.size hbw);have HK:=hide (HK1.out.below hbw HK1.out.lt);clear hX hbw ka la
   have ka:=HK.out.cell;have la:=HK.out.lt
   by_cases hlt:k<x.zO.length
   ·
    have hfl:k<x.zU.length:=by have:=HFD.out;omega
    have hfg:=List.getElem?_eq_getElem hfl
    obtain⟨bf,of,rfl,hbf,hcf⟩:=HX3.out k _ hfg
    have hff:=GF.out _ (List.getElem_mem hfl)
    generalize x.zU[k]=fd at *
    have HFG:=hide hfg;have HFF:=hide hff;clear hfg hff
    have f0:=(HB.out.cell hbf).trans hcf;have hbf2:bf<wr.heap.size:=Nat.lt_of_lt_of_le hbf HB.out.size;clear hcf
    have hgk:=List.getElem?_eq_getElem hlt
    obtain⟨b1,off,cs1,hA,hb1,hcs,hcell⟩:=HX2.out k x.zO[k] hgk
    subst hA
    generalize x.zO[k]=y at *
    have HG:=hide hgk;clear hgk
    obtain⟨u0,rfl,hRY0⟩:=GTrack.yM (show T.rds _ _ _ by simpa only[GTrack.t,T.rd] using hcs)
    have d0:=(HB.out.cell hb1).trans (hcell 0 (u0) rfl)
    rw[show off+(k * 1+0)=off+k by omega] at d0
    have RY0:=hide (T.yD hRY0 HB.out);clear hRY0
    clear hcs hcell
    obtain⟨ua0,uc0,rfl,ul0,um0,ux0⟩:=T.yL RY0.out;clear ux0
    have hq1:b1<wr.heap.size:=Nat.lt_of_lt_of_le hb1 HB.out.size
    have UX0:=hide (rd_elems RY0.out)
    have zf:(decS fd).size≤21:=by unfold decS;rw[size_mkS];exact dec_len HFF.out
    have HTO:=hide (HS.out.tracks k y HG.out).1;have HGT:=hide (GT.out y (List.mem_of_getElem? HG.out))
    have hc12:y.zR.length≤12:=HTO.out.few
    have HWX:=hide (show Below w1.heap.size w1 (wr.alloc (.cells #[(.slice ua0 y.zR.length uc0)] 98)) from HW.out.alloc HW.out.size _);have HBX:=hide (show Below w.heap.size w (wr.alloc (.cells #[(.slice ua0 y.zR.length uc0)] 98)) from HB.out.alloc HB.out.size _);have HRX:=hide (show Below wr.heap.size wr (wr.alloc (.cells #[(.slice ua0 y.zR.length uc0)] 98)) from(Below.refl _ _).alloc (Nat.le_refl _) _)
    have HKX:=hide (HK.out.alloc (.cells #[(.slice ua0 y.zR.length uc0)] 98));have HNX:=hide (Bk.born wr 98 #[(.slice ua0 y.zR.length uc0)])
    clear ka la;have ka:=HKX.out.cell;have la:=HKX.out.lt;have kn:=HNX.out.cell;have ln:=HNX.out.lt
    have f1:=(HRX.out.cell hbf2).trans f0;have hbf3:bf<(wr.alloc (.cells #[(.slice ua0 y.zR.length uc0)] 98)).heap.size:=Nat.lt_of_lt_of_le hbf2 HRX.out.size
    have HT0:=hide (show ((⟨#[116,114,97,99,107,32]⟩:ByteArray)++decS fd)++(⟨#[10]⟩:ByteArray)=mkS (lineL (wrdL [116,114,97,99,107] [fd])) by apply str_is;simp[dat_app,dat_dec,wrdL,blanks,blankL,lineL])
    have zt0:((⟨#[116,114,97,99,107,32]⟩:ByteArray)++decS fd).size≤27:=by rw[ByteArray.size_append,h6];omega
    have zt1:(((⟨#[116,114,97,99,107,32]⟩:ByteArray)++decS fd)++(⟨#[10]⟩:ByteArray)).size≤28:=by rw[ByteArray.size_append,h10];omega
    go_wp2_with fail
    refine(c_iDec fd _ (HTB.out.below HBX.out) HFF.out.1 HFF.out.2).mono ?_;rintro e w3 ⟨rfl,hb⟩
    have HR3:=hide (yH HRX.out HRX.out.size hb);have HW3:=hide (yH HWX.out HWX.out.size hb);have HB3:=hide (yH HBX.out HBX.out.size hb);have HK3:=hide (HKX.out.below hb HKX.out.lt);have HN3:=hide (HNX.out.below hb HNX.out.lt);clear hb ka la kn ln f1 hbf3
    have ka:=HK3.out.cell;have la:=HK3.out.lt;have kn:=HN3.out.cell;have ln:=HN3.out.lt
    obtain⟨X3,hX3⟩: ∃ X3,X++(((⟨#[116,114,97,99,107,32]⟩:ByteArray)++decS fd)++(⟨#[10]⟩:ByteArray))=X3:=⟨_,rfl⟩
    have HX3e:=hide (show X3=mkS ((l1++((x.zO.zip x.zU).take k).flatMap trackL)++lineL (wrdL [116,114,97,99,107] [fd])) by rw[←hX3,HXX.out,HT0.out,mkS_append])
    have zX3:X3.size≤1100028:=by rw[←hX3,ByteArray.size_append];omega
    go_wp2
    clear hX3 zt0 zt1
    have HZ3:=hide (show Below w3.heap.size w3 w3 from Below.refl _ _)
    generalize hB1q:wr.heap.size=B1 at *
    have HB1q:=hide hB1q;clear hB1q
    go_loopw [3,51] (fun o i wr=> ∃ (q:Nat) (Z:ByteArray),q≤y.zR.length∧i= .int .i64 (q:Int)∧o= .string Z∧Z=mkS ((l1++((x.zO.zip x.zU).take k).flatMap trackL)++lineL (wrdL [116,114,97,99,107] [fd])++(y.zR.take q).flatMap clipL)∧Below w3.heap.size w3 wr) (fun _ i _=>y.zR.length - (intOf i).toNat)
    case atStart=>exact⟨0,_,Nat.zero_le _,rfl,rfl,by rw[HX3e.out,List.take_zero,List.flatMap_nil,List.append_nil],Below.refl _ _⟩
    case round=>
     obtain⟨q,Z,hq,rfl,rfl,hZ,hb⟩:=hrel
     have zZ:Z.size≤1110000:=by
      have h1:=congrArg ByteArray.size HX3e.out;rw[size_mkS] at h1
      rw[hZ,size_mkS,List.length_append]
      have h2:=flat_cut (xs:=y.zR) clipL q;have h3:=flat_le (f:=clipL) (c:=115) (xs:=y.zR) (fun c hc=>clip_len (HGT.out c hc))
      omega
     have HZZ:=hide hZ;have HC:=hide hb;have HBi:=hide (yH HB3.out HB3.out.size hb);have HWi:=hide (yH HW3.out HW3.out.size hb);have HKi:=hide (HK3.out.below hb HK3.out.lt);have HNi:=hide (HN3.out.below hb HN3.out.lt);have hz3:B1≤w3.heap.size:=Nat.le_of_lt ln;have HRi:=hide (yH HR3.out hz3 hb);clear hZ hb ka la kn
     have ka:=HKi.out.cell;have la:=HKi.out.lt;have kn:=HNi.out.cell;have ln2:=HNi.out.lt
     by_cases hlq:q<y.zR.length
     rotate_left
     ·
      obtain rfl:q=y.zR.length:=by omega
      have HZE:=hide (show Z=mkS (l1++((x.zO.zip x.zU).take (k+1)).flatMap trackL) by rw[HZZ.out,List.take_length,flat_take _ (zip_at HG.out HFG.out)];unfold trackL;simp)
      go_wp2
      go_roundw
      case rel=>exact⟨k+1,_,by omega,by go_num,rfl,HZE.out,HWi.out⟩
      case measure=>simp[intOf];omega
     have hgq:=List.getElem?_eq_getElem hlq
     obtain⟨b2,off2,cs2,hA2,hb2,hcs2,hcell2⟩:=UX0.out q y.zR[q] hgq
     subst hA2
     have hgc:=HGT.out y.zR[q] (List.getElem_mem hlq)
     generalize y.zR[q]=c at *
     have HGC:=hide hgq;have HCG:=hide hgc;clear hgq hgc
     obtain rfl:=GClip.yM (show T.rds _ _ _ by simpa only[GClip.t,T.rd] using hcs2)
     have s0:=(HRi.out.cell hb2).trans (hcell2 0 (.int .i64 c.zS) rfl)
     have s1:=(HRi.out.cell hb2).trans (hcell2 1 (.int .i64 c.zG) rfl)
     have s2:=(HRi.out.cell hb2).trans (hcell2 2 (.int .i64 c.zE) rfl)
     have s3:=(HRi.out.cell hb2).trans (hcell2 3 (.int .i64 c.yB) rfl)
     have s4:=(HRi.out.cell hb2).trans (hcell2 4 (.int .i64 c.zQ) rfl)
     rw[show off2+(q * 5+0)=off2+q * 5 by omega] at s0
     rw[show off2+(q * 5+1)=off2+q * 5+1 by omega] at s1
     rw[show off2+(q * 5+2)=off2+q * 5+2 by omega] at s2
     rw[show off2+(q * 5+3)=off2+q * 5+3 by omega] at s3
     rw[show off2+(q * 5+4)=off2+q * 5+4 by omega] at s4
     clear hcs2 hcell2
     have hb2':b2<wr.heap.size:=by have:=HC.out.size;omega
     have HBY:=hide (show Below w.heap.size w ((wr.alloc (.cells #[.int .i64 c.zS,.int .i64 c.zG,.int .i64 c.zE,.int .i64 c.yB,.int .i64 c.zQ] 107)).alloc (.cells #[.int .i64 c.zS,.int .i64 c.zG,.int .i64 c.zE,.int .i64 c.yB,.int .i64 c.zQ] 2)) from(HBi.out.alloc HBi.out.size _).alloc (by have:=HBi.out.size;simp;omega) _)
     have HCY:=hide (show Below w3.heap.size w3 ((wr.alloc (.cells #[.int .i64 c.zS,.int .i64 c.zG,.int .i64 c.zE,.int .i64 c.yB,.int .i64 c.zQ] 107)).alloc (.cells #[.int .i64 c.zS,.int .i64 c.zG,.int .i64 c.zE,.int .i64 c.yB,.int .i64 c.zQ] 2)) from(HC.out.alloc HC.out.size _).alloc (by have:=HC.out.size;simp;omega) _)
     have HRL:=hide (rdI_bk (xs:= [c.zS,c.zG,c.zE,c.yB,c.zQ]) (Bk.born (wr.alloc (.cells #[.int .i64 c.zS,.int .i64 c.zG,.int .i64 c.zE,.int .i64 c.yB,.int .i64 c.zQ] 107)) 2 #[.int .i64 c.zS,.int .i64 c.zG,.int .i64 c.zE,.int .i64 c.yB,.int .i64 c.zQ]) rfl (by simp))
     have hI5: ∀ n ∈ [c.zS,c.zG,c.zE,c.yB,c.zQ],I64 n:=by intro n hn;obtain⟨i1,i2,i3,i4,i5⟩:=HCG.out;simp only[List.mem_cons,List.not_mem_nil,or_false] at hn;rcases hn with rfl|rfl|rfl|rfl|rfl<;>assumption
     have HI5:=hide hI5;clear hI5
     have zw:(mkS (wrdL [99,108,105,112] [c.zS,c.zG,c.zE,c.yB,c.zQ])).size≤114:=by rw[size_mkS];have:=word_len (p:= [99,108,105,112]) (c:=5) HI5.out (Nat.le_refl _);have:([99,108,105,112]:List UInt8).length=4:=rfl;omega
     obtain⟨ws,hws⟩: ∃ ws,mkS (wrdL (⟨#[99,108,105,112]⟩:ByteArray).data.toList [c.zS,c.zG,c.zE,c.yB,c.zQ])=ws:=⟨_,rfl⟩
     have zws:ws.size≤114:=by rw[←hws];exact zw
     have HCS:=hide (c_spaced ⟨#[99,108,105,112]⟩ _ [c.zS,c.zG,c.zE,c.yB,c.zQ] _ HRL.out HI5.out (by simp) (by decide) (HTB.out.below HBY.out));rw[hws,show (wr.alloc (.cells #[.int .i64 c.zS,.int .i64 c.zG,.int .i64 c.zE,.int .i64 c.yB,.int .i64 c.zQ] 107)).heap.size=wr.heap.size+1 by simp] at HCS
     have HWS:=hide hws;clear hws zw
     have zw1:(ws++(⟨#[10]⟩:ByteArray)).size≤115:=by rw[ByteArray.size_append,h10];omega
     have hsy:=HCY.out.size
     go_wp2_with (go_at_call 72;refine HCS.out.mono ?_;rintro e w5 ⟨rfl,hb⟩;have HC5:=hide (yH HCY.out hsy hb);clear hb)
     go_roundw
     case rel=>exact⟨q+1,_,by omega,by go_num,rfl,by rw[HZZ.out,flat_take _ HGC.out,←HWS.out];apply str_is;simp[dat_app,dat_mk,clipL,lineL],HC5.out⟩
     case measure=>simp[intOf];omega
   obtain rfl:k=x.zO.length:=by omega
   have HXB:=hide (show X=mkS (l1++(x.zO.zip x.zU).flatMap trackL) by rw[HXX.out,zip_all HFD.out.symm]);clear HXX hlt hk zX
   have zX2:(l1++(x.zO.zip x.zU).flatMap trackL).length≤540000:=by rw[List.length_append];have:=HY1.out;have:=HY2.out;omega
   generalize l1++(x.zO.zip x.zU).flatMap trackL=l2 at *
   have HWB:=HW;clear HW
   go_wp2_with fail
   refine(HMXT.out _ _ (GMixer.rd_mk (T.yD R5.out HB.out)) (HTB.out.below HB.out)).mono ?_;rintro e w4 ⟨rfl,hb4⟩
   have HB4:=hide (yH HB.out HB.out.size hb4);have HW4:=hide (yH HWB.out HWB.out.size hb4);clear hb4 ka la
   go_wp2_with fail
   refine(HSPL.out _).mono ?_;rintro e w5 ⟨v5,rfl,ho5,hb5⟩
   have HR5:=hide ho5.rd;have HB5:=hide (yH HB4.out HB4.out.size hb5);have HW5:=hide (yH HW4.out HW4.out.size hb5);clear hb5 ho5
   have HK5:=hide (HK1.out.below HW5.out HK1.out.lt)
   obtain⟨A5,c5,rfl,l5,m5,x5⟩:=HR5.out.openS;have HXL:=hide x5;clear x5
   have ka:=HK5.out.cell;have la:=HK5.out.lt
   go_wp2
   clear ka la HB HK
   go_loopw [3,77] (fun o i wr=> ∃ (k:Nat) (X:ByteArray),k≤ml.length∧i= .int .i64 (k:Int)∧o= .string X∧X=mkS (l2++((ml.zip x.zP).take k).flatMap strL)∧Below w5.heap.size w5 wr) (fun _ i _=>ml.length - (intOf i).toNat)
   case atStart=>exact⟨0,_,Nat.zero_le _,rfl,rfl,by rw[HXB.out,List.take_zero,List.flatMap_nil,List.append_nil],Below.refl _ _⟩
   case round=>
    obtain⟨k,X,hk,rfl,rfl,hX,hbw⟩:=hrel
    have zX:X.size≤1100000:=by rw[hX,size_mkS,List.length_append];have h1:=flat_cut (xs:=ml.zip x.zP) strL k;have h2:=HY3.out;omega
    have HXX:=hide hX;have HV:=hide hbw;have HB:=hide (yH HB5.out HB5.out.size hbw);have HK:=hide (HK5.out.below hbw HK5.out.lt);clear hX hbw
    have ka:=HK.out.cell;have la:=HK.out.lt
    by_cases hlm:k<ml.length
    rotate_left
    ·
     obtain rfl:k=ml.length:=by omega
     have HE:=hide (show X=mkS tx by rw[HXX.out,zip_all HML.out,HSES.out])
     go_wp2
     go_ret
     exact⟨ret_str (by rw[HE.out]),HB.out⟩
    have hgm:=List.getElem?_eq_getElem hlm
    obtain⟨b6,o6,rfl,hb6,hc6⟩:=HXL.out k _ hgm
    have m0:=(HV.out.cell hb6).trans hc6;have hb6':b6<wr.heap.size:=Nat.lt_of_lt_of_le hb6 HV.out.size
    have zl:=HLE.out ml[k] (List.getElem_mem hlm)
    generalize ml[k]=l at *
    have HGM:=hide hgm;clear hgm hc6
    have hlt:k<x.zP.length:=by have:=HML.out;omega
    have hgk:=List.getElem?_eq_getElem hlt
    obtain⟨b1,off,cs1,hA,hb1,hcs,hcell⟩:=HX4.out k x.zP[k] hgk
    subst hA
    generalize x.zP[k]=y at *
    have HG:=hide hgk;clear hgk
    obtain⟨u1,u2,u3,rfl,hRY1,hRY2,hRY3⟩:=GPatch.yM (show T.rds _ _ _ by simpa only[GPatch.t,T.rd] using hcs)
    have d0:=(HB.out.cell hb1).trans (hcell 0 (.int .i64 y.zJ) rfl)
    have d1:=(HB.out.cell hb1).trans (hcell 1 (u1) rfl)
    have d2:=(HB.out.cell hb1).trans (hcell 2 (u2) rfl)
    have d3:=(HB.out.cell hb1).trans (hcell 3 (u3) rfl)
    rw[show off+(k * 4+0)=off+k * 4 by omega] at d0
    rw[show off+(k * 4+1)=off+k * 4+1 by omega] at d1
    rw[show off+(k * 4+2)=off+k * 4+2 by omega] at d2
    rw[show off+(k * 4+3)=off+k * 4+3 by omega] at d3
    have RY1:=hide (T.yD hRY1 HB.out);clear hRY1
    have RY2:=hide (T.yD hRY2 HB.out);clear hRY2
    have RY3:=hide (T.yD hRY3 HB.out);clear hRY3
    clear hcs hcell
    obtain⟨ua1,uc1,rfl,ul1,um1,ux1⟩:=T.yL RY1.out;clear ux1
    obtain⟨ua2,uc2,rfl,ul2,um2,ux2⟩:=T.yL RY2.out;clear ux2
    have RY3i:=hide (T.yQ.1 RY3.out);obtain⟨ua3,uc3,rfl,ul3,um3,ux3⟩:=RY3i.out.open_;clear ux3
    have hq1:b1<wr.heap.size:=Nat.lt_of_lt_of_le hb1 HB.out.size
    have HEO:=hide (HS.out.effects k y HG.out);have HGP:=hide (GE.out y (List.mem_of_getElem? HG.out));have HSP:=hide (HSM.out.2.2.2.1.2 y (List.mem_of_getElem? HG.out))
    have zs1:((⟨#[115,116,114,105,112,32]⟩:ByteArray)++l).size≤1614:=by rw[ByteArray.size_append,h6'];omega
    have zs2:(((⟨#[115,116,114,105,112,32]⟩:ByteArray)++l)++(⟨#[10]⟩:ByteArray)).size≤1615:=by rw[ByteArray.size_append,h10];omega
    have zs3:(X++(((⟨#[115,116,114,105,112,32]⟩:ByteArray)++l)++(⟨#[10]⟩:ByteArray))).size≤1101615:=by rw[ByteArray.size_append];omega
    have HRD:=hide (fun(W:World) (hb:Below wr.heap.size wr W)=>(GPatch.rd_mk (T.yD RY1.out hb) (T.yD RY2.out hb) (T.yD RY3.out hb):T.rds W y.fs [.int .i64 y.zJ,(.slice ua1 y.zN.length uc1),(.slice ua2 y.zD.length uc2),(.slice ua3 y.zK.length uc3)]))
    by_cases he:y=noPatch
    ·
     have q0:=yV he
     have HEE:=hide (show effL y= [] by rw[eff_pre,if_pos he]);clear he
     go_wp2_with fail
     refine(c_isEmpty y _ _ (HRD.out _ (Below.refl _ _))).mono ?_;rintro e w6 ⟨rfl,hb⟩;rw[q0]
     have HV6:=hide (yH HV.out HV.out.size hb);clear hb ka la
     go_wp2
     go_roundw
     case rel=>exact⟨k+1,_,by omega,by go_num,rfl,by rw[HXX.out,flat_take _ (zip_at HGM.out HG.out)];apply str_is;unfold strL;rw[HEE.out];simp[dat_app,dat_mk],HV6.out⟩
     case measure=>simp[intOf];omega
    ·
     have q0:=yU he
     have HPO:=hide (HEO.out.resolve_left he).1.formed;have HEE:=hide (show effL y=preL [58,32] (linesF (mkS (patchL y))) by rw[eff_pre,if_neg he]);clear he
     have HPL:=hide (patch_len HPO.out HGP.out);have HEL:=hide (eff_len HEO.out HGP.out)
     have HPT:=hide (fun(W:World) (hb:Below wr.heap.size wr W)=>c_patchText y _ W HPO.out HGP.out HSP.out (HTB.out.below (yH HB.out HB.out.size hb)) (HRD.out W hb))
     have HPF:=hide (fun W=>c_prefixed (mkS (patchL y)) (⟨#[58,32]⟩:ByteArray) W (by rw[size_mkS];exact Nat.le_trans HPL.out (by decide)) (by decide))
     obtain⟨pp,hpp⟩: ∃ pp,mkS (patchL y)=pp:=⟨_,rfl⟩
     rw[hpp] at HPT HPF HEE
     obtain⟨pf,hpf⟩: ∃ pf,mkS (preL ((⟨#[58,32]⟩:ByteArray)).data.toList (linesF pp))=pf:=⟨_,rfl⟩
     rw[hpf] at HPF
     have zpf:pf.size≤60000:=by rw[←hpf,size_mkS];have:=HEL.out;rw[HEE.out] at this;exact this
     have HEF2:=hide (show mkS (effL y)=pf by rw[HEE.out];exact hpf);clear hpf hpp
     go_wp2_with fail
     refine(c_isEmpty y _ _ (HRD.out _ (Below.refl _ _))).mono ?_;rintro e w6 ⟨rfl,hb⟩;rw[q0]
     have HV6:=hide (yH HV.out HV.out.size hb);have HR6:=hide hb;have HK6:=hide (HK.out.below hb HK.out.lt);clear hb ka la
     have ka:=HK6.out.cell;have la:=HK6.out.lt
     have d0':=(HR6.out.cell hq1).trans d0
     have d1':=(HR6.out.cell hq1).trans d1
     have d2':=(HR6.out.cell hq1).trans d2
     have d3':=(HR6.out.cell hq1).trans d3
     have hq6:b1<w6.heap.size:=Nat.lt_of_lt_of_le hq1 HR6.out.size
     go_wp2_with fail
     refine(HPT.out _ HR6.out).mono ?_;rintro e w7 ⟨rfl,hb⟩
     have HV7:=hide (yH HV6.out HV6.out.size hb);clear hb ka la
     go_wp2_with (go_at_call 75;refine(HPF.out _).mono ?_;rintro e w8 ⟨rfl,hb⟩;have HV8:=hide (yH HV7.out HV7.out.size hb);clear hb)
     go_roundw
     case rel=>exact⟨k+1,_,by omega,by go_num,rfl,by rw[HXX.out,flat_take _ (zip_at HGM.out HG.out),←HEF2.out];apply str_is;unfold strL;simp[dat_app,dat_mk],HV8.out⟩
     case measure=>simp[intOf];omega
end Go.Proofs.YtbgedljbgkcpiaaGreatDoor
