/- Arguments that are structs of slices of structs read as nested data. No program is named here. Arguments that are structs read as nested data. Contracts: how much nested data there is. Contracts on whole structs. Contracts: the state of a patch at the beginning, both sides. Contracts: an effect is rendered, by the program. Contracts: an effect is rendered, by the program: blocks. Contract: the signal of a track, by the program. Contract: entry times of a mixer, by the reference. Contract: entry times of a mixer, by the program. Contracts: the latency of a mixer, both sides. Contracts: what the sends of a mixer wait, both sides. Contract: the outputs of all strips, by the program. -/
import Derived.Test.YtdcofkabaigjpaaGreatQAoEdits
import Derived.Deep.Slices
import Derived.ChangeSame
import Derived.ChangeArms
set_option linter.unusedVariables false
set_option linter.unusedSimpArgs false
set_option maxHeartbeats 8000000
set_option maxRecDepth 100000
namespace Go.Proofs.YtdcofkabaigjpaaGreat
section
open Go.RowKit Go.ChangeShapes Go.WideShapes Go.Deep
end
section
open Go.RowKit Go.ChangeShapes Go.WideShapes Go.Deep
end
section
open Go.RowKit
end
section
open Go.RowKit
theorem T.rds_below {w w':World} {x:List T} {cs:List Value} (h:T.rds w x cs) (hb:Below w.heap.size w w'):T.rds w' x cs:=T.rds_keep hb.size hb.block x cs h
end
section
open Go.RowKit
theorem node_h6 {x:xR} {n:Int} (h:yCz x n) (e:x.zD=6):0≤x.fA∧x.fA≤16:=by
 have ha:=h.a;rw[e] at ha;simp[uF,kndL] at ha;have:=xK.1 ha;omega
theorem node_h17 {x:xR} {n:Int} (h:yCz x n) (e:x.zD=17):0≤x.fB∧x.fB≤16:=by
 have hb:=h.b;rw[e] at hb;simp[uF,kndL] at hb;have:=xK.1 hb;omega
theorem c_l08Start (x:xQ) (b o:Nat) (w:World) (hF:wDz x) (h:T.at w x.fs b o):Calls Tryz.prog 144 #[.pointer (some ⟨b,o,none⟩)] w fun e w'=> ∃ v F,e= .returned (.agg #[v])∧Own w.heap.size w' (T.sl 26 1 ((x.zF.map wW).map (T.ints 2))) F v∧Below w.heap.size w w':=by
 have HAT:=xN h;obtain⟨hlt0,cs,hr,hc⟩:=h;obtain⟨v1,v2,v3,rfl,h1,h2,h3⟩:=xQ.yT hr;clear hr;obtain⟨va1,vc1,rfl,vl1,vm1,R1,HX1⟩:=oG h1;clear h1;obtain⟨va2,vc2,rfl,vl2,vm2,R2,HX2⟩:=oG h2;clear h2;obtain⟨va3,vc3,rfl,vl3,vm3,R3,HX3⟩:=oI h3;clear h3;have HL:=xN hlt0;have HCC:=xN hc;have HB0:=xN (Below.refl w.heap.size w);clear hlt0 hc;have HF:=xN hF;have hn24:x.zF.length≤24:=hF.few;clear hF;obtain⟨D,hD⟩: ∃ D,(x.zF.map wW)=D:=⟨_,rfl⟩;have HDq:=xN (show D.length=x.zF.length by rw[←hD,List.length_map]);have HDA:=xN (fun k y (h:x.zF[k]?=some y)=>(show D[k]?=some (wW y) by rw[←hD,List.getElem?_map,h];rfl));rw[hD];clear hD;have hDl:D.length=x.zF.length:=HDq.o;have HSa:=xN (Bk.born2 w (.cells #[.slice none 0 0] 184) (.cells #[] 26) 184 #[.slice (some ⟨w.heap.size+1,0,none⟩) 0 0]);have HRa:=xN (((Bk.born w 184 #[.slice none 0 0]).alloc (.cells #[] 26)).alloc (.cells #[.slice (some ⟨w.heap.size+1,0,none⟩) 0 0] 184));have HBa:=xN ((((Below.refl w.heap.size w).alloc zJ (.cells #[.slice none 0 0] 184)).alloc (by simp) (.cells #[] 26)).alloc (by simp;omega) (.cells #[.slice (some ⟨w.heap.size+1,0,none⟩) 0 0] 184));have HOa:=xN (show Own (w.heap.size+1) (((w.alloc (.cells #[.slice none 0 0] 184)).alloc (.cells #[] 26)).alloc (.cells #[.slice (some ⟨w.heap.size+1,0,none⟩) 0 0] 184)) (T.sl 26 1 []) [w.heap.size+1] (.slice (some ⟨w.heap.size+1,0,none⟩) 0 0) from by have h:=Own.born (B:=(w.alloc (.cells #[.slice none 0 0] 184)).heap.size) (World.ownsRow_made (w.alloc (.cells #[.slice none 0 0] 184)) #[] 0 zJ (by decide) rfl:((w.alloc (.cells #[.slice none 0 0] 184)).alloc (.cells #[] 26)).ownsRow (w.alloc (.cells #[.slice none 0 0] 184)).heap.size 26 1 (.slice (some ⟨(w.alloc (.cells #[.slice none 0 0] 184)).heap.size,0,none⟩) 0 0) 0 []);have h2:=h.all (zR.alloc zJ (.cells #[.slice (some ⟨w.heap.size+1,0,none⟩) 0 0] 184));simpa[Value.ownBlock] using h2);obtain⟨p0,p1,p2,p3⟩:=pc4 HB0.o HL.o HCC.o;have lb:b<w.heap.size:=zW HL.o HB0.o.size;have HBs:=xN (show Below w.heap.size w (((w.alloc (.cells #[.slice none 0 0] 184)).alloc (.cells #[] 26)).alloc (.cells #[.slice (some ⟨w.heap.size+1,0,none⟩) 0 0] 184)) from HBa.o)
 go_enter Tryz.func144,Tryz.ntmps144
 go_wp2
 go_loopw [4] (fun i wr=> ∃ k F r,k≤x.zF.length∧i= .int .i64 (k:Int)∧Own (w.heap.size+1) wr (T.sl 26 1 ((D.take k).map (T.ints 2))) F r∧Bk wr (w.heap.size+2) 184 #[r]∧Bk wr (w.heap.size) 184 #[.slice none 0 0]∧(w.heap.size+2) ∉ F∧Below w.heap.size w wr∧w.heap.size+3≤wr.heap.size) (fun i _=>x.zF.length - (intOf i).toNat)
 case atStart=>exact⟨0,_,_,Nat.zero_le _,rfl,by rw[List.take_zero];simpa using HOa.o,by simpa using HSa.o,by simpa using HRa.o,by simp,by simpa using HBa.o,by simp⟩
 case round=>
  obtain⟨k,F,r,hk,rfl,ho,hks,hkr,hnf,hbw,hsz⟩:=hrel;have HO:=xN ho;have HSb:=xN hks;have HRb:=xN hkr;have HNF:=xN hnf;have HB:=xN hbw;clear ho hks hkr hnf hbw;clear p0 p1 p2 p3 lb;obtain⟨p0,p1,p2,p3⟩:=pc4 HB.o HL.o HCC.o;have lb:b<wr.heap.size:=zW HL.o HB.o.size;by_cases hlt:k<x.zF.length
  rotate_left
  ·
   obtain rfl:k=x.zF.length:=by omega
   have HO2:=xN (show Own (w.heap.size+1) wr (T.sl 26 1 (D.map (T.ints 2))) F r from by have h:=HO.o;rw[List.take_of_length_le (by rw[HDq.o];omega)] at h;exact h);obtain⟨A8,l8,c8,rfl⟩:=T.xD (T.ow_rd _ _ _ HO2.o.ow);have ks:=HSb.o.cell;have kr:=HRb.o.cell;have fr:=HRb.o.free;have lr:=HRb.o.lt;have ls:=HSb.o.lt;go_wp2;refine bodyPost_ret (v:= .agg #[.slice A8 l8 c8]) (by simp[results,Tryz.results144,go_sem,kr,fr,lr]) rfl ?_;exact⟨_,F,rfl,(HO2.o.trn (Trn.set_ (F:= [w.heap.size]) (g:=w.heap.size) (by simp) 0 (.slice A8 l8 c8)) (fun b hb hm=>by simp at hm;subst hm;have h1:=HO2.o.lo _ hb;omega)).more zM,HB.o.setCell (p:=⟨w.heap.size,0,none⟩) (by simp) (.slice A8 l8 c8)⟩
  have hgk:=gE hlt;obtain⟨b1,off,csy,hA,hb1,hcs,hcell⟩:=HX2.o k x.zF[k] hgk;subst hA;generalize x.zF[k]=y at *;have HG:=xN hgk;clear hgk;have HAy:=xN (T.at_elem (o:=off+k * 4) hb1 (show T.rds w y.fs csy by simpa only[xR.t,T.rd] using hcs) hcell zM);clear hcs hcell;clear p0 p1 p2 p3 lb;obtain⟨p0,p1,p2,p3⟩:=pc4 HB.o HL.o HCC.o;have lb:b<wr.heap.size:=zW HL.o HB.o.size;have HCK:=xN (HDA.o k y HG.o);have HN_:=xN (HF.o.nodes k y HG.o).1;have ks:=HSb.o.cell;have ls:=HSb.o.lt;obtain⟨A7,l7,c7,rfl⟩:=T.xD (T.ow_rd _ _ _ HO.o.ow);have HAY:=xN (T.at_below HAy.o HB.o);go_wp2;have HP2:=xN p2;have HDr:=xN ((Below.refl wr.heap.size wr).drew);have HWd:=xN (show wr.drew.cell? ⟨w.heap.size+2,0,none⟩=some (.slice A7 l7 c7)∧wr.drew.cell? ⟨b,o+2,none⟩=some (.slice (some ⟨b1,off,none⟩) x.zF.length vc2) from⟨ks 0,p2⟩);have HPK:=xN (fun(w':World) (hw:Below w.heap.size w w')=>((hw.cell HL.o).trans ((HB.o.cell HL.o).symm.trans HP2.o):w'.cell? ⟨b,o+2,none⟩=some (.slice (some ⟨b1,off,none⟩) x.zF.length vc2)));clear p0 p1 p2 p3 lb ks ls;refine zEz (fun w'=>w'.cell? ⟨w.heap.size+2,0,none⟩=some (.slice A7 l7 c7)∧w'.cell? ⟨b,o+2,none⟩=some (.slice (some ⟨b1,off,none⟩) x.zF.length vc2)) 12 (by kernel_rfl) ?_ (fun hS0=>?_)
  ·exact HWd.o
  generalize hwd:wr.drew=wd at *;clear hwd;refine zE 0 hS0 ?_;refine zE 1 hS0 ?_;refine zE 2 hS0 ?_;refine zE 3 hS0 ?_;refine zE 4 hS0 ?_;refine zE 5 hS0 ?_;refine zE 6 hS0 ?_;refine zE 7 hS0 ?_;refine pE 8 (fun K hK=>?_);go_simp;go_wp2_with (go_at_call 164;refine(c_l06Start y b1 (off+k * 4) _ (node_h6 HN_.o) (node_h17 HN_.o) (T.at_below HAY.o HDr.o)).mono ?_;rintro e w4 ⟨nv,rfl,ho,hb⟩;rw[startL_eq] at ho)
  have HN4:=xN (Nv.ints ho hb);obtain⟨nA,nl,nc,rfl⟩: ∃ A l c,nv= .slice A l c:=by obtain⟨A,c,e,_⟩:=(T.xB.1 (T.ow_rd _ _ _ HN4.o.ow)).open_;exact⟨A,_,c,e⟩
  have HD4:=xN (yO HDr.o HDr.o.size hb);clear ho hb;refine uE hK ?_ (fun hS1=>?_)
  ·exact⟨(HSb.o.below HD4.o HSb.o.lt).cell 0,HPK.o _ (yO HB.o HB.o.size HD4.o)⟩
  clear hK K hS0;have HA6:=xN (show Below w4.heap.size w4 (w4.alloc (.cells #[.slice nA nl nc] 26)) from zR.alloc zJ _);have HD6:=xN (yO HD4.o HD4.o.size HA6.o);refine pE 9 (fun K hK=>?_);go_simp;refine hK.out _ _ ?_ (fun hS2=>?_)
  ·exact⟨(HSb.o.below HD6.o HSb.o.lt).cell 0,HPK.o _ (yO HB.o HB.o.size HD6.o)⟩
  clear hK K hS1;have hdl:(D.take k).length≤24:=by rw[List.length_take];omega
  have hz6:=HD6.o.size;have hz4:=HD4.o.size;have hzd:=HDr.o.size;refine pE 10 (fun K hK=>?_);refine wBz rfl _ _ _ rfl (w.heap.size+1) _ _ 1 24 Tryz.underlying24 zDz rfl zM rfl (HO.o.all HD6.o) rfl (Bk.born _ _ _) (x:=T.ints 2 (wW y)) (T.ow_all HN4.o.ow HA6.o) HN4.o.nodup (fun b hb=>by have h1:=HN4.o.lo b hb;omega) (fun b hb hb2=>by have h1:=HO.o.lt b hb;have h2:=HN4.o.lo b hb2;omega) rfl (by rw[List.length_map];omega) (by rw[List.length_map];unfold maxLen;omega) zM ?_;intro v8 w8 F8 ho hg hv;have HO8:=xN ho;have HB8:=xN (((HO.o.all HD6.o).more (show w.heap.size≤w.heap.size+1 by omega)).below (yO HB.o HB.o.size HD6.o) zM hg);have HS8:=xN ((HSb.o.below HD6.o HSb.o.lt).grown hg (fun e=>HNF.o (HO.o.mem _ e.symm)));have HR8:=xN ((HRb.o.below HD6.o HRb.o.lt).grown hg (fun e=>by have h1:=HO.o.row _ e.symm;omega));have HNF8:=xN (show (w.heap.size+2) ∉ F8 from fun hm=>by rcases hv _ hm with h|h|h<;>first|exact HNF.o h|(have h1:=HN4.o.lo _ h;have h2:=HSb.o.lt;omega)|(have h2:=HSb.o.lt;omega));have hz8:=hg.size;clear ho hg hv;refine hK.out _ _ ?_ (fun hS3=>?_)
  ·exact⟨HS8.o.cell 0,HPK.o _ HB8.o⟩
  clear hK K hS2;refine zE 11 hS3 ?_;refine qE ?_;have ks:=HS8.o.cell;have fs:=HS8.o.free;have ls:=HS8.o.lt;obtain⟨A9,l9,c9,rfl⟩:=T.xD (T.ow_rd _ _ _ HO8.o.ow);go_wp2
  go_roundw
  case rel=>exact⟨k+1,F8,_,by omega,by go_num,by rw[vG HCK.o,List.map_append];exact HO8.o.trn (Trn.set_ (F:= [w.heap.size+2]) (g:=w.heap.size+2) (by simp) 0 (.slice A9 l9 c9)) (fun b hb hm=>by simp at hm;subst hm;exact HNF8.o hb),by have:=HS8.o.set_ 0 (.slice A9 l9 c9);simpa using this,HR8.o.far (p:=⟨w.heap.size+2,0,none⟩) (by simp) _,HNF8.o,HB8.o.setCell (p:=⟨w.heap.size+2,0,none⟩) (by simp) _,by simp[World.setCell];omega⟩
  case measure=>simp[intOf];omega
end
section
open Go.RowKit
theorem rd_row1 {w:World} {g:Nat} {t E:TypeId} {v:Value} {xs:List Int} (hb:Bk w g t #[v]) (hr:RdI w v xs):T.rd w (T.sl t 1 [T.ints E xs]) [.slice (some ⟨g,0,none⟩) 1 1]:=by
 simp only[T.rd];exact⟨_,[v],rfl,by simp[T.ints,T.wide],Bk.rd1 (ys:= [v]) hb,by simp only[T.rds];exact⟨[v],[],rfl,T.xB.2 hr,rfl⟩⟩
theorem own_trnF {E:TypeId} {w w':World} {B:Nat} {F:List Nat} {v:Value} {xs:List Int} (h:OwI E w B v xs) (k:Trn F w w') (hd: ∀ b ∈ F,b<B):OwI E w' B v xs:=
 yBz (fun b hb=>k.block _ (h.lt b hb).2 (fun hm=>by have h1:=hd b hm;have h2:=(h.lt b hb).1;omega)) h
end
section
open Go.RowKit
end
section
open Go.RowKit
theorem src_smp {ss:List (List Int)} (h:xGz ss) {i:Nat} {l:List Int} (hl:ss[i]?=some l): ∀ x ∈ l,Smp x:=by
 have e:=h.each i l hl;unfold sigB at e;simp only[Bool.and_eq_true,smpB,decide_eq_true_eq] at e;exact e.2
end
section
open Go.RowKit
theorem uOz (x:vF) (b o:Nat) (w:World) (hM:zSz x) (hg:x.good) (h:T.at w x.fs b o):Calls Tryz.prog 108 #[.pointer (some ⟨b,o,none⟩)] w fun e w'=> ∃ v,e= .returned v∧OwI 2 w' w.heap.size v (wK x)∧Below w.heap.size w w':=by
 have HAT:=xN h;obtain⟨hlt0,cs,hr,hc⟩:=h;obtain⟨v0,rfl,h0⟩:=vF.yT hr;clear hr;obtain⟨va0,vc0,rfl,vl0,vm0,R0,HX0⟩:=oG h0;clear h0;have HL:=xN hlt0;have HCC:=xN hc;have HB0:=xN (Below.refl w.heap.size w);clear hlt0 hc;have HM:=xN hM;have HGD:=xN hg;have hn8:x.zC.length≤8:=hM.few;clear hM hg;have HUP:=xN (fun k=>zFy (l:=x.zC) (fun y hy=>by obtain⟨i,hi⟩:=List.mem_iff_getElem?.1 hy;exact wY.1 (HM.o.each i y hi).1.latency) (fun i y hy s hs e=>by obtain⟨k,hk⟩:=List.mem_iff_getElem?.1 hs;have:=(xBz HM.o hy k s hk).1;omega) k);have p0:=pc1 HB0.o HL.o HCC.o;have lb:b<w.heap.size:=zW HL.o HB0.o.size;obtain⟨i0,hi,hz0,hz1,hz2⟩:=info_parts vPz
 go_enter Tryz.func108,Tryz.ntmps108
 go_wp2_with (at_make;refine wpList_make_full _ rfl _ _ _ rfl w.heap.size 2 i0 _ 1 Tryz.underlying26 hi hz0 hz1 .i64 .i64 _ _ x.zC.length rfl rfl rfl rfl (by rw[hz2];omega) (by unfold maxLen;omega) zJ ?_;intro w1 hown1 hg1)
 have HO1:=xN (show OwI 2 w1 w.heap.size (.slice (some ⟨w.heap.size,0,none⟩) x.zC.length x.zC.length) (uX x.zC 0) from OwI.made _ w1 (n:=x.zC.length) hg1.size (by unfold maxLen;omega) 0 hown1);have HB1:=xN (show Below w.heap.size w w1 from zR.grown hg1 zJ (by simp));clear hown1 hg1 p0 lb hi hz0 hz1 hz2;have p0:=pc1 HB1.o HL.o HCC.o;have lb:b<w1.heap.size:=zW HL.o HB1.o.size;go_wp2
 go_loopw [4] (fun i wr=> ∃ k:Nat,k≤x.zC.length∧i= .int .i64 (k:Int)∧OwI 2 wr w.heap.size (.slice (some ⟨w.heap.size,0,none⟩) x.zC.length x.zC.length) (uX x.zC k)∧Below w.heap.size w wr) (fun i _=>x.zC.length - (intOf i).toNat)
 case atStart=>exact⟨0,Nat.zero_le _,rfl,HO1.o,HB1.o⟩
 case round=>
  obtain⟨k,hk,rfl,ho,hbw⟩:=hrel;have HO:=xN ho;have HB:=xN hbw;clear ho hbw p0 lb;have p0:=pc1 HB.o HL.o HCC.o;have lb:b<wr.heap.size:=zW HL.o HB.o.size;by_cases hlt:k<x.zC.length
  rotate_left
  ·
   obtain rfl:k=x.zC.length:=by omega
   go_wp2;go_ret
   exact⟨_,rfl,HO.o,HB.o⟩
  have hgk:=gE hlt;obtain⟨b1,off,csy,hA,hb1,hcs,hcell⟩:=HX0.o k x.zC[k] hgk;subst hA;generalize x.zC[k]=y at *;have HG:=xN hgk;clear hgk;have HAy:=xN (T.at_elem (o:=off+k * 3) hb1 (show T.rds w y.fs csy by simpa only[xP.t,T.rd] using hcs) hcell zM);clear hcs hcell;clear p0 lb;have p0:=pc1 HB.o HL.o HCC.o;have lb:b<wr.heap.size:=zW HL.o HB.o.size;obtain⟨lty,csy',hry,hcy⟩:=HAy.o;obtain⟨u2,rfl,hu2⟩:=xP.yT hry;have Ru2:=xN hu2;obtain⟨ua2,uc2,rfl,ul2,um2,ux2⟩:=T.yS hu2;have HXu2:=xN ux2;clear ux2 hu2;have HCy:=xN hcy;clear hry hcy;obtain⟨cy0,cy1,cy2⟩:=pc3 HB.o lty HCy.o;have HNM:=xN (HM.o.each k y HG.o).1;have hlat:=wY.1 HNM.o.latency;have lb1:b1<wr.heap.size:=zW hb1 HB.o.size;have HUk:=xN (show uX x.zC (k+1)=xSz k y.zZ (uX x.zC k) y.zT y.zT.length by show (match x.zC[k]? with|some x=>_|none=>_)=_;rw[HG.o]);go_wp2
  go_loopw [6] (fun i wr=> ∃ q:Nat,q≤y.zT.length∧i= .int .i64 (q:Int)∧OwI 2 wr w.heap.size (.slice (some ⟨w.heap.size,0,none⟩) x.zC.length x.zC.length) (xSz k y.zZ (uX x.zC k) y.zT q)∧Below w.heap.size w wr) (fun i _=>y.zT.length - (intOf i).toNat)
  case atStart=>exact⟨0,Nat.zero_le _,rfl,HO.o,HB.o⟩
  case round=>
   obtain⟨q,hq,rfl,ho,hbw⟩:=hrel;have HOi:=xN ho;have HBi:=xN hbw;clear ho hbw p0 lb cy0 cy1 cy2;have p0:=pc1 HBi.o HL.o HCC.o;have lb:b<wr.heap.size:=zW HL.o HBi.o.size;obtain⟨cy0,cy1,cy2⟩:=pc3 HBi.o lty HCy.o;have lb1':b1<wr.heap.size:=zW hb1 HBi.o.size;by_cases hlq:q<y.zT.length
   rotate_left
   ·
    obtain rfl:q=y.zT.length:=by omega
    go_wp2
    go_roundw
    case rel=>exact⟨k+1,by omega,by go_num,by rw[HUk.o];exact HOi.o,HBi.o⟩
    case measure=>simp[intOf];omega
   have hgq:=gE hlq;obtain⟨b2,off2,cs2,hA2,hb2,hcs2,hcell2⟩:=HXu2.o q y.zT[q] hgq;subst hA2;generalize y.zT[q]=z at *;have HGZ:=xN hgq;clear hgq;obtain rfl:=xV.yT (show T.rds _ _ _ by simpa only[xV.t,T.rd] using hcs2);obtain⟨s0,s1⟩:=oc2 HBi.o hb2 hcell2;clear hcs2 hcell2;have lb2:b2<wr.heap.size:=zW hb2 HBi.o.size;obtain⟨t0,t1,_⟩:=xBz HM.o HG.o q z HGZ.o;have n0:0≤z.yI:=by omega
   have HES:=xN (show xSz k y.zZ (uX x.zC k) y.zT (q+1)=(xSz k y.zZ (uX x.zC k) y.zT q).set z.yI.toNat (max ((xSz k y.zZ (uX x.zC k) y.zT q).getD z.yI.toNat 0) ((xSz k y.zZ (uX x.zC k) y.zT q).getD k 0+y.zZ)) by show (match y.zT[q]? with|some s=>_|none=>_)=_;rw[HGZ.o]);have hUq:=((yLy (i:=k) (lat:=y.zZ) (out:=uX x.zC k) (l:=y.zT) (B:=32 * ((k+1:Nat):Int)) (fun j=>(HUP.o k j).1) (by have:=(HUP.o k k).2;omega) hlat.1 ((HUP.o k).mono zM) (fun s hs e=>by obtain⟨j,hj⟩:=List.mem_iff_getElem?.1 hs;have:=(xBz HM.o HG.o j s hj).1;omega) q).1) k;have HUq:=xN hUq;clear hUq;have hlen:(xSz k y.zZ (uX x.zC k) y.zT q).length=x.zC.length:=by rw[wMz,xOz]
   generalize hR:xSz k y.zZ (uX x.zC k) y.zT q=R at *;have hzt:z.yI.toNat<R.length:=by omega
   have hkt:k<R.length:=by omega
   have HgA:=xN (gE hzt);have HgB:=xN (gE hkt);have ca:=HOi.o.cellN HgA.o;have cb:=HOi.o.cellN HgB.o;have fr:=HOi.o.freeN z.yI.toNat;have HDA:=xN (show R.getD z.yI.toNat 0=R[z.yI.toNat] by rw[List.getD_eq_getElem?_getD,HgA.o];rfl);have HDB:=xN (show R.getD k 0=R[k] by rw[List.getD_eq_getElem?_getD,HgB.o];rfl);generalize R[z.yI.toNat]=ta at *;generalize R[k]=tb at *;have hbd:0≤tb∧tb≤1000:=by have h:=HUq.o;rw[HDB.o] at h;omega
   have hw:IntKind.i64.wrap (tb+y.zZ)=tb+y.zZ:=IntWalk.i64_in _ zM;have la:=HOi.o.lt w.heap.size rfl;have la2:=la.2;go_wp2;have HWd:=xN (show (wr.drew.cell? ⟨w.heap.size,z.yI.toNat,none⟩=some (.int .i64 ta))∧(wr.drew.cell? ⟨w.heap.size,k,none⟩=some (.int .i64 tb))∧(wr.drew.cell? ⟨b1,off+k * 3+1,none⟩=some (.int .i64 y.zZ)) from⟨ca,cb,cy1⟩);have HOd:=xN (show OwI 2 wr.drew w.heap.size (.slice (some ⟨w.heap.size,0,none⟩) x.zC.length x.zC.length) R from uM HOi.o (Below.refl wr.heap.size wr).drew);have HBd:=xN HBi.o.drew;have frd:wr.drew.frozen? ⟨w.heap.size,z.yI.toNat,none⟩=false:=fr;clear ca cb cy0 cy1 cy2 p0 lb fr s0 s1 la la2;refine zEz (fun w'=>(w'.cell? ⟨w.heap.size,z.yI.toNat,none⟩=some (.int .i64 ta))∧(w'.cell? ⟨w.heap.size,k,none⟩=some (.int .i64 tb))∧(w'.cell? ⟨b1,off+k * 3+1,none⟩=some (.int .i64 y.zZ))) 17 (by kernel_rfl) ?_ (fun hS0=>?_)
   ·exact HWd.o
   generalize hwd:wr.drew=wd at *;clear hwd;refine zE 0 hS0 ?_;refine zE 1 hS0 ?_;refine zE 2 hS0 ?_;refine zE 3 hS0 ?_;refine zE 4 hS0 ?_;refine zE 5 hS0 ?_;refine zE 6 hS0 ?_;refine zE 7 hS0 ?_;refine zE 8 hS0 ?_;refine zE 9 hS0 ?_;refine zE 10 hS0 ?_;refine zE 11 hS0 ?_;refine zE 12 hS0 ?_;refine zE 13 hS0 ?_;refine zE 14 hS0 ?_;refine pE 15 (fun K hK=>?_);go_simp;go_wp2_with (go_at_call 116;refine(c_qMax _ _ _).mono ?_;rintro e w' ⟨rfl,rfl⟩)
   refine uE hK ?_ (fun hS1=>?_)
   ·exact HWd.o
   clear hK K hS0;refine zE 16 hS1 ?_;refine qE ?_;have ck:=HWd.o.1;go_wp2;have HO2:=xN (HOd.o.setN z.yI.toNat (max ta (tb+y.zZ)));have HG2:=xN (HOd.o.grownN z.yI.toNat (.int .i64 (max ta (tb+y.zZ))))
   go_roundw
   case rel=>exact⟨q+1,by omega,by go_num,by rw[HES.o,HDA.o,HDB.o];exact HO2.o,HBd.o.grown HG2.o HBd.o.size (fun j hj=>by injection hj with hj;omega)⟩
   case measure=>simp[intOf];omega
end
section
open Go.RowKit
end
section
open Go.RowKit
theorem total_facts {x:vF} (h:zSz x): ∃ (a:Int) (y:xP),x.zC[x.zC.length - 1]?=some y∧(wK x)[x.zC.length - 1]?=some a∧0≤a∧a≤256∧0≤y.zZ∧y.zZ≤32∧zHz x=a+y.zZ∧1≤x.zC.length∧x.zC.length≤8:=by
 have h1:=h.some_;have h8:=h.few;have hl:x.zC.length - 1<x.zC.length:=by omega
 have hg:=gE hl;have hl2:x.zC.length - 1<(wK x).length:=by rw[zPz];exact hl
 have hg2:=gE hl2;have hu:=zYz h (x.zC.length - 1);have hlat:=wY.1 (h.each _ _ hg).1.latency;rw[List.getD_eq_getElem?_getD,hg2] at hu;refine⟨_,_,hg,hg2,hu.1,hu.2,hlat.1,hlat.2,?_,h1,h8⟩;unfold zHz;rw[List.getD_eq_getElem?_getD,hg2,List.getD_eq_getElem?_getD,hg]
 rfl
theorem c_l26Total (x:vF) (b o:Nat) (w:World) (hM:zSz x) (hg:x.good) (h:T.at w x.fs b o):Calls Tryz.prog 75 #[.pointer (some ⟨b,o,none⟩)] w fun e w'=>e= .returned (.int .i64 (zHz x))∧Below w.heap.size w w':=by
 have HAT:=xN h;obtain⟨hlt0,cs,hr,hc⟩:=h;obtain⟨v0,rfl,h0⟩:=vF.yT hr;clear hr;obtain⟨va0,vc0,rfl,vl0,vm0,R0,HX0⟩:=oG h0;clear h0;have HL:=xN hlt0;have HCC:=xN hc;have HB0:=xN (Below.refl w.heap.size w);clear hlt0 hc;obtain⟨ta,y,hgy,hga,a0,a1,l0,l1,ht,n1,n8⟩:=total_facts hM;have HT:=xN ht;have HGA:=xN hga;clear ht hga;have HCE:=xN (fun(W:World) (h:T.at W x.fs b o)=>uOz x b o W hM hg h);obtain⟨b1,off,cs1,rfl,hb1,hcs,hcell⟩:=HX0.o _ y hgy;obtain⟨v9,rfl,hv9⟩:=xP.yT (show T.rds _ _ _ by simpa only[xP.t,T.rd] using hcs);have e1:=hcell 1 _ rfl;obtain⟨m,hm⟩: ∃ m:Nat,x.zC.length - 1=m:=⟨_,rfl⟩;rw[hm] at e1 HGA;rw[show off+(m * 3+1)=off+m * 3+1 by omega] at e1;have hm1:(x.zC.length:Int) - 1=(m:Int):=by omega
 have hw0:IntKind.i64.wrap ((x.zC.length:Int) - 1)=(m:Int):=by rw[hm1];exact IntWalk.i64_in _ zM
 have hw:IntKind.i64.wrap (ta+y.zZ)=ta+y.zZ:=IntWalk.i64_in _ zM;have hml:(m:Int)<(x.zC.length:Int):=by omega
 have HMM:=xN hm;have HM1:=xN hm1;clear hm hm1 hcell hcs hv9 hgy hM hg;have p0:=pc1 HB0.o HL.o HCC.o;have lb:b<w.heap.size:=zW HL.o HB0.o.size;generalize zHz x=OO at *
 go_enter Tryz.func75,Tryz.ntmps75
 go_wp2;have HWd:=xN (show w.drew.cell? ⟨b,o,none⟩=some (.slice (some ⟨b1,off,none⟩) x.zC.length vc0)∧w.drew.cell? ⟨b1,off+m * 3+1,none⟩=some (.int .i64 y.zZ) from⟨p0,e1⟩);have HBd:=xN (Below.refl w.heap.size w).drew;have HATd:=xN (T.at_below HAT.o (Below.refl w.heap.size w).drew);refine wG (fun w'=>w'.cell? ⟨b,o,none⟩=some (.slice (some ⟨b1,off,none⟩) x.zC.length vc0)∧w'.cell? ⟨b1,off+m * 3+1,none⟩=some (.int .i64 y.zZ)) [] (by kernel_rfl) ?_ (fun hS0=>?_)
 ·exact HWd.o
 have hdz:w.drew.heap.size=w.heap.size:=rfl;clear p0 e1 lb;generalize w.drew=wd at *;refine zN 0 hS0 ?_;refine zN 2 hS0 ?_;refine zN 3 hS0 ?_;refine zN 6 hS0 ?_;refine zN 7 hS0 ?_;refine zN 8 hS0 ?_;refine zN 9 hS0 ?_;refine zN 10 hS0 ?_;refine zN 11 hS0 ?_;refine zN 12 hS0 ?_;refine zN 13 hS0 ?_;refine zN 14 hS0 ?_;refine pN 1 (fun K hK=>?_);go_simp;go_wp2_with (go_at_call 108;refine(HCE.o _ HATd.o).mono ?_;rintro e w3 ⟨v3,rfl,ho,hb⟩)
 obtain⟨g,cp,rfl,hcp,hgg,hgw⟩:=OwI.form ho (by rw[zPz];omega);have ck:=OwI.cellN ho HGA.o;have HB3:=xN (yO HBd.o zM hb);have HW3:=xN (show w3.cell? ⟨b,o,none⟩=some (.slice (some ⟨b1,off,none⟩) x.zC.length vc0)∧w3.cell? ⟨b1,off+m * 3+1,none⟩=some (.int .i64 y.zZ) from⟨(hb.cell (World.block_lt_of_cell? _ _ HWd.o.1)).trans HWd.o.1,(hb.cell (World.block_lt_of_cell? _ _ HWd.o.2)).trans HWd.o.2⟩);clear ho hb;have hel:(wK x).length=x.zC.length:=zPz x;refine uN hK ?_ (fun hS1=>?_)
 ·exact HW3.o
 clear hK K hS0;refine pN 4 (fun K hK=>?_);go_simp;refine uN hK ?_ (fun hS2=>?_)
 ·exact HW3.o
 clear hK K hS1;refine pN 5 (fun K hK=>?_);go_simp;refine uN hK ?_ (fun hS3=>?_)
 ·exact HW3.o
 clear hK K hS2;refine pN 15 (fun K hK=>?_);go_simp;refine uN hK ?_ (fun hS4=>?_)
 ·exact HW3.o
 clear hK K hS3;refine pN 16 (fun K hK=>?_);go_simp;refine uN hK ?_ (fun hS5=>?_)
 ·exact HW3.o
 clear hK K hS4;refine qN ?_;clear hS5;go_wp2;go_ret
 exact⟨vN (by rw[HT.o]),HB3.o⟩
end
section
open Go.RowKit
theorem zKy (x:vF):(zKz x).length=x.zC.length:=by simp[zKz]
theorem delays_at {x:vF} {k:Nat} {y:xP} (h:x.zC[k]?=some y):(zKz x)[k]?=some (y.zT.map (xPz (wK x) k y)):=by
 unfold zKz;rw[List.getElem?_mapIdx,h];rfl
theorem ent_at {x:vF} (h:zSz x) {j:Nat} (hj:j<x.zC.length): ∃ t,(wK x)[j]?=some t∧(wK x).getD j 0=t∧0≤t∧t≤256:=by
 have hg:=gE (show j<(wK x).length by rw[zPz];exact hj);have hu:=zYz h j;rw[List.getD_eq_getElem?_getD,hg] at hu;exact⟨_,hg,by rw[List.getD_eq_getElem?_getD,hg];rfl,hu.1,hu.2⟩
theorem c_l26Delays (x:vF) (b o:Nat) (w:World) (hM:zSz x) (hg:x.good) (h:T.at w x.fs b o):Calls Tryz.prog 109 #[.pointer (some ⟨b,o,none⟩)] w fun e w'=> ∃ v F,e= .returned v∧Own w.heap.size w' (T.sl 26 1 ((zKz x).map (T.ints 2))) F v∧Below w.heap.size w w':=by
 have HAT:=xN h;obtain⟨hlt0,cs,hr,hc⟩:=h;obtain⟨v0,rfl,h0⟩:=vF.yT hr;clear hr;obtain⟨va0,vc0,rfl,vl0,vm0,R0,HX0⟩:=oG h0;clear h0;have HL:=xN hlt0;have HCC:=xN hc;have HB0:=xN (Below.refl w.heap.size w);clear hlt0 hc;have HM:=xN hM;have HGD:=xN hg;have hn8:x.zC.length≤8:=hM.few;have hn1:1≤x.zC.length:=hM.some_;clear hM hg;have HDL:=xN (zKy x);have HDA:=xN (fun k y (h:x.zC[k]?=some y)=>delays_at h);have p0:=pc1 HB0.o HL.o HCC.o;have lb:b<w.heap.size:=zW HL.o HB0.o.size
 go_enter Tryz.func109,Tryz.ntmps109
 go_wp2_with fail
 refine(uOz x _ _ _ HM.o HGD.o HAT.o).mono ?_;rintro e w1 ⟨vT,rfl,ho,hd⟩;have hel:(wK x).length=x.zC.length:=zPz x;obtain⟨bT,oT,cT,rfl,hc1,hc2,hbT,hcT⟩:=wP (OwI.rd ho) zM;rw[hel] at hc1;have HTC:=xN hcT;have HB1:=xN hd;clear hcT ho hd p0 lb;have p0:=pc1 HB1.o HL.o HCC.o;have lb:b<w1.heap.size:=zW HL.o HB1.o.size;have HO0:=xN (Own.born (World.ownsRow_made w1 #[] 0 zJ (by decide) rfl:(w1.alloc (.cells #[] 26)).ownsRow w1.heap.size 26 1 (.slice (some ⟨w1.heap.size,0,none⟩) 0 0) 0 []));have HB1':=xN (show Below w1.heap.size w1 (w1.alloc (.cells #[] 26)) from zR.alloc zJ _);generalize hD:zKz x=D at *;have HDq:=xN hD;clear hD;have hDl:D.length=x.zC.length:=HDL.o;go_wp2
 go_loopw [4,5] (fun r i wr=> ∃ k F,k≤x.zC.length∧i= .int .i64 (k:Int)∧Own w1.heap.size wr (T.sl 26 1 ((D.take k).map (T.ints 2))) F r∧Below w1.heap.size w1 wr) (fun _ i _=>x.zC.length - (intOf i).toNat)
 case atStart=>exact⟨0,_,Nat.zero_le _,rfl,by rw[List.take_zero];exact HO0.o,HB1'.o⟩
 case round=>
  obtain⟨k,F,hk,rfl,ho,hbw⟩:=hrel;have HO:=xN ho;have HBr:=xN hbw;have hs0:=hbw.size;have HB:=xN (yO HB1.o HB1.o.size hbw);clear ho hbw p0 lb;have p0:=pc1 HB.o HL.o HCC.o;have lb:b<wr.heap.size:=zW HL.o HB.o.size;by_cases hlt:k<x.zC.length
  rotate_left
  ·
   obtain rfl:k=x.zC.length:=by omega
   go_wp2;go_ret
   exact⟨_,F,rfl,by have h:=HO.o;rw[List.take_of_length_le zM] at h;rw[HDq.o];exact h.more HB1.o.size,HB.o⟩
  have hgk:=gE hlt;obtain⟨b1,off,csy,hA,hb1,hcs,hcell⟩:=HX0.o k x.zC[k] hgk;subst hA;generalize x.zC[k]=y at *;have HG:=xN hgk;clear hgk;have HAy:=xN (T.at_elem (o:=off+k * 3) hb1 (show T.rds w y.fs csy by simpa only[xP.t,T.rd] using hcs) hcell zM);clear hcs hcell;clear p0 lb;have p0:=pc1 HB.o HL.o HCC.o;have lb:b<wr.heap.size:=zW HL.o HB.o.size;obtain⟨lty,csy',hry,hcy⟩:=HAy.o;obtain⟨u2,rfl,hu2⟩:=xP.yT hry;have Ru2:=xN hu2;obtain⟨ua2,uc2,rfl,ul2,um2,ux2⟩:=T.yS hu2;have HXu2:=xN ux2;clear ux2 hu2;have HCy:=xN hcy;clear hry hcy;obtain⟨cy0,cy1,cy2⟩:=pc3 HB.o lty HCy.o;have HNM:=xN (HM.o.each k y HG.o).1;have hlat:=wY.1 HNM.o.latency;have lb1:b1<wr.heap.size:=zW hb1 HB.o.size;have HRG:=xN (HDA.o k y HG.o);go_wp2;obtain⟨WX,hWX⟩: ∃ WX,WX=wr:=⟨_,rfl⟩;subst hWX
  go_loopw [7,8] (fun l i wr=> ∃ q:Nat,q≤y.zT.length∧i= .int .i64 (q:Int)∧OwI 2 wr WX.heap.size l ((y.zT.take q).map (xPz (wK x) k y))∧Below WX.heap.size WX wr) (fun _ i _=>y.zT.length - (intOf i).toNat)
  case atStart=>exact⟨0,Nat.zero_le _,rfl,vP WX,zR.alloc zJ _⟩
  case round=>
   obtain⟨q,hq,rfl,ho,hbw⟩:=hrel;have HOi:=xN ho;have HWi:=xN hbw;have hsi:=hbw.size;clear ho hbw p0 lb cy0 cy1 cy2;have HBi:=xN (yO HB1.o HB1.o.size (yO HBr.o HBr.o.size HWi.o));have p0:=pc1 HBi.o HL.o HCC.o;have lb:b<wr.heap.size:=zW HL.o HBi.o.size;obtain⟨cy0,cy1,cy2⟩:=pc3 HBi.o lty HCy.o;have lb1':b1<wr.heap.size:=zW hb1 HBi.o.size;by_cases hlq:q<y.zT.length
   rotate_left
   ·
    obtain rfl:q=y.zT.length:=by omega
    obtain⟨A1,c1,hl1,-,-,-⟩:=HOi.o.rd.open_;rw[show ((y.zT.take y.zT.length).map (xPz (wK x) k y)).length=y.zT.length by rw[List.take_length,List.length_map]] at hl1;subst hl1;have HN1:=xN (Nv.ints HOi.o HWi.o);have HOX:=xN (HO.o.all HWi.o);have HB1r:=xN (yO HBr.o HBr.o.size HWi.o);rw[List.take_length] at HN1;go_wp2_with (at_builtin;refine yJz rfl _ _ _ rfl w1.heap.size 26 _ 1 24 Tryz.underlying24 zDz rfl zM rfl HOX.o HN1.o.ow HN1.o.nodup (fun b hb=>Nat.le_trans hs0 (HN1.o.lo b hb)) (fun b hb hb2=>by have h1:=HO.o.lt b hb;have h2:=HN1.o.lo b hb2;omega) rfl rfl (by rw[List.length_map,List.length_take];omega) (by rw[List.length_map,List.length_take];omega) HB1r.o.size ?_;intro v8 w8 F8 ho8 hg8 hv8;have HO8:=xN ho8;have HB8:=xN (HOX.o.below HB1r.o HB1r.o.size hg8);clear ho8 hg8 hv8)
    go_roundw
    case rel=>exact⟨k+1,F8,by omega,by go_num,by rw[vG HRG.o,List.map_append];exact HO8.o,HB8.o⟩
    case measure=>simp[intOf];omega
   have hgq:=gE hlq;obtain⟨b2,off2,cs2,hA2,hb2,hcs2,hcell2⟩:=HXu2.o q y.zT[q] hgq;subst hA2;generalize y.zT[q]=z at *;have HGZ:=xN hgq;clear hgq;obtain rfl:=xV.yT (show T.rds _ _ _ by simpa only[xV.t,T.rd] using hcs2);obtain⟨s0,s1⟩:=oc2 HBi.o hb2 hcell2;clear hcs2 hcell2;have lb2:b2<wr.heap.size:=zW hb2 HBi.o.size;obtain⟨t0,t1,_⟩:=xBz HM.o HG.o q z HGZ.o;have n0:0≤z.yI:=by omega
   obtain⟨ta,ga,da,a0,a1⟩:=ent_at HM.o (show z.yI.toNat<x.zC.length by omega);obtain⟨tb,gb,db,c0,c1⟩:=ent_at HM.o hlt;have HWN:=xN (show xPz (wK x) k y z=ta - tb - y.zZ by unfold xPz;rw[da,db]);clear da db;have HCA:=xN (HTC.o _ _ ga);have HCB:=xN (HTC.o _ _ gb);clear ga gb;have hzl:z.yI<(x.zC.length:Int):=t1;have hw1:IntKind.i64.wrap (ta - tb)=ta - tb:=IntWalk.i64_in _ zM;have hw2:IntKind.i64.wrap (ta - tb - y.zZ)=ta - tb - y.zZ:=IntWalk.i64_in _ zM;have lT:bT<WX.heap.size:=zW hbT HBr.o.size;have HCX:=xN (And.intro ((HBr.o.cell hbT).trans HCA.o) ((HBr.o.cell hbT).trans HCB.o));have HCAz:=xN ((HWi.o.cell lT).trans HCX.o.1);have HCBz:=xN ((HWi.o.cell lT).trans HCX.o.2);have hsf:y.zT.length≤4:=(by by_cases e:(k:Int)=(x.zC.length:Int) - 1;(· have:=HNM.o.sends.last e;omega);(· exact(HNM.o.sends.few e).2));have hll:((y.zT.take q).map (xPz (wK x) k y)).length+1≤8796093022208:=by rw[List.length_map,List.length_take];omega
   go_wp2;have HWd:=xN (show wr.drew.cell? ⟨b1,off+k * 3+1,none⟩=some (.int .i64 y.zZ)∧wr.drew.cell? ⟨b1,off+k * 3+2,none⟩=some (.slice (some ⟨b2,off2,none⟩) y.zT.length uc2)∧wr.drew.cell? ⟨b2,off2+q * 2,none⟩=some (.int .i64 z.yI)∧wr.drew.cell? ⟨bT,oT+z.yI.toNat,none⟩=some (.int .i64 ta)∧wr.drew.cell? ⟨bT,oT+k,none⟩=some (.int .i64 tb) from⟨cy1,cy2,s0,HCAz.o,HCBz.o⟩);have HOd:=xN (show OwI 2 wr.drew WX.heap.size _ _ from uM HOi.o (Below.refl wr.heap.size wr).drew);have HBd:=xN HWi.o.drew;refine wG (fun w'=>w'.cell? ⟨b1,off+k * 3+1,none⟩=some (.int .i64 y.zZ)∧w'.cell? ⟨b1,off+k * 3+2,none⟩=some (.slice (some ⟨b2,off2,none⟩) y.zT.length uc2)∧w'.cell? ⟨b2,off2+q * 2,none⟩=some (.int .i64 z.yI)∧w'.cell? ⟨bT,oT+z.yI.toNat,none⟩=some (.int .i64 ta)∧w'.cell? ⟨bT,oT+k,none⟩=some (.int .i64 tb)) [] (by kernel_rfl) ?_ (fun hS0=>?_)
   ·exact HWd.o
   have k1:b1<WX.heap.size:=zW hb1 HB.o.size;have k2:b2<WX.heap.size:=zW hb2 HB.o.size;have HKP:=xN (show ∀ w',Below WX.heap.size WX w'→w'.cell? ⟨b1,off+k * 3+1,none⟩=some (.int .i64 y.zZ)∧w'.cell? ⟨b1,off+k * 3+2,none⟩=some (.slice (some ⟨b2,off2,none⟩) y.zT.length uc2)∧w'.cell? ⟨b2,off2+q * 2,none⟩=some (.int .i64 z.yI)∧w'.cell? ⟨bT,oT+z.yI.toNat,none⟩=some (.int .i64 ta)∧w'.cell? ⟨bT,oT+k,none⟩=some (.int .i64 tb) from fun w' hw=>⟨(hw.cell k1).trans ((HWi.o.cell k1).symm.trans cy1),(hw.cell k1).trans ((HWi.o.cell k1).symm.trans cy2),(hw.cell k2).trans ((HWi.o.cell k2).symm.trans s0),(hw.cell lT).trans HCX.o.1,(hw.cell lT).trans HCX.o.2⟩);clear s0 s1 cy0 cy1 cy2 p0 lb;generalize hwd:wr.drew=wd at *;clear hwd;refine zN 0 hS0 ?_;refine zN 1 hS0 ?_;refine zN 2 hS0 ?_;refine zN 3 hS0 ?_;refine zN 4 hS0 ?_;refine zN 5 hS0 ?_;refine zN 6 hS0 ?_;refine zN 7 hS0 ?_;refine zN 8 hS0 ?_;refine zN 9 hS0 ?_;refine zN 10 hS0 ?_;refine zN 11 hS0 ?_;refine zN 12 hS0 ?_;refine zN 13 hS0 ?_;refine zN 14 hS0 ?_;refine zN 15 hS0 ?_;refine zN 16 hS0 ?_;refine zN 17 hS0 ?_;refine zN 18 hS0 ?_;refine zN 19 hS0 ?_;refine zN 20 hS0 ?_;refine zN 21 hS0 ?_;have hsd:=HBd.o.size;have HA4:=xN (show Below wd.heap.size wd (wd.alloc (.cells #[.int .i64 (ta - tb - y.zZ)] 2)) from zR.alloc zJ _);have HO4:=xN (uM HOd.o HA4.o);have HB4:=xN (yO HBd.o hsd HA4.o);have HL4:=xN (OwI.rd (lit1 wd (ta - tb - y.zZ)));have hs4:=HB4.o.size;refine pN 22 (fun K hK=>?_);go_simp;refine uN hK ?_ (fun hS1=>?_)
   ·exact HKP.o _ HB4.o
   clear hK K hS0;refine pN 23 (fun K hK=>?_);refine zFz rfl _ _ rfl rfl HO4.o (ys:= [ta - tb - y.zZ]) rfl HL4.o (by simp only[List.length_cons,List.length_nil];omega) hs4 ?_;intro v8 w8 ho hg hv;have HB8:=xN (zOz HB4.o HO4.o hg zJ hs4);have HO8:=xN ho;clear ho hg hv;refine uN hK ?_ (fun hS2=>?_)
   ·exact HKP.o _ HB8.o
   clear hK K hS1;refine pN 24 (fun K hK=>?_);go_simp;refine uN hK ?_ (fun hS3=>?_)
   ·exact HKP.o _ HB8.o
   clear hK K hS2;refine qN ?_;clear hS3;go_wp2
   go_roundw
   case rel=>exact⟨q+1,by omega,by go_num,by rw[vG HGZ.o,List.map_append,List.map_cons,List.map_nil,HWN.o];exact HO8.o,HB8.o⟩
   case measure=>simp[intOf];omega
end
section
open Go.RowKit
end
end Go.Proofs.YtdcofkabaigjpaaGreat
