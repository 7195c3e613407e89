/- Contracts: the state of a patch at the beginning, both sides. Contracts: an effect is rendered, by the program. Contracts: an effect is rendered, by the program: blocks. -/
import Derived.Test.YtoibekfhepnedaaGreatQApExactMakeCache
import Derived.Test.YtoibekfhepnedaaGreatQAvExactMakeCache
import Derived.Test.YtoibekfhepnedaaGreatQAtExactMakeCache
import Derived.Test.YtoibekfhepnedaaGreatQAxExactMakeCache
import Derived.Test.YtoibekfhepnedaaGreatQAuExactMakeCache
import Derived.Test.YtoibekfhepnedaaGreatQAfExactMakeCache
set_option linter.unusedVariables false
set_option linter.unusedSimpArgs false
set_option maxHeartbeats 8000000
set_option maxRecDepth 100000
namespace Go.Proofs.YtoibekfhepnedaaGreat
section
open Go.RowKit
theorem node_h6 {x:xJ} {n:Int} (h:NodeOk x n) (e:x.zD=6):0≤x.fA∧x.fA≤16:=by
 have ha:=h.a;rw[e] at ha;simp[kndF,kndL] at ha;have:=xC.1 ha;omega
theorem node_h17 {x:xJ} {n:Int} (h:NodeOk x n) (e:x.zD=17):0≤x.fB∧x.fB≤16:=by
 have hb:=h.b;rw[e] at hb;simp[kndF,kndL] at hb;have:=xC.1 hb;omega
theorem c_startState (x:xG) (cs:List Value) (w:World) (hF:FormedOk x) (h:T.rds w x.fs cs):Calls Tryz.prog 244 #[.agg cs.toArray] w fun e w'=> ∃ v F,e= .returned (.agg #[v])∧Own w.heap.size w' (T.sl 26 1 ((x.zB.map wD).map (T.ints 2))) F v∧Below w.heap.size w w':=by
 obtain⟨v1,v2,v3,rfl,h1,h2,h3⟩:=xG.yO h
 clear h
 have R1:=hide h1;obtain⟨va1,vc1,rfl,vl1,vm1,vx1⟩:=T.yN h1
 have HX1:=hide vx1;clear vx1 h1
 have R2:=hide h2;obtain⟨va2,vc2,rfl,vl2,vm2,vx2⟩:=T.yN h2
 have HX2:=hide vx2;clear vx2 h2
 have h3i:=T.yT.1 h3;obtain⟨va3,vc3,rfl,vl3,vm3,vx3⟩:=h3i.open_
 have R3:=hide h3i;have HX3:=hide vx3;clear vx3 h3 h3i
 have HB0:=hide (show Below w.heap.size w (w.alloc (.cells #[.int .i64 x.zJ,(.slice va1 x.zN.length vc1),(.slice va2 x.zB.length vc2),(.slice va3 x.zK.length vc3)] 108)) from(Below.refl _ _).alloc (Nat.le_refl _) _)
 have HK0:=hide (Bk.born w 108 #[.int .i64 x.zJ,(.slice va1 x.zN.length vc1),(.slice va2 x.zB.length vc2),(.slice va3 x.zK.length vc3)])
 have HF:=hide hF;have hn24:x.zB.length≤24:=hF.few;clear hF
 obtain⟨D,hD⟩: ∃ D,(x.zB.map wD)=D:=⟨_,rfl⟩
 have HDq:=hide (show D.length=x.zB.length by rw[←hD,List.length_map]);have HDA:=hide (fun k y (h:x.zB[k]?=some y)=>(show D[k]?=some (wD y) by rw[←hD,List.getElem?_map,h];rfl));rw[hD];clear hD
 have hDl:D.length=x.zB.length:=HDq.out
 have HSa:=hide (Bk.born2 w (.cells #[.int .i64 x.zJ,(.slice va1 x.zN.length vc1),(.slice va2 x.zB.length vc2),(.slice va3 x.zK.length vc3)] 108) (.cells #[.slice none 0 0] 270) 270 #[.slice none 0 0]);have HRa:=hide ((Bk.born1' w (.cells #[.int .i64 x.zJ,(.slice va1 x.zN.length vc1),(.slice va2 x.zB.length vc2),(.slice va3 x.zK.length vc3)] 108) 270 #[.slice none 0 0]).alloc (.cells #[.slice none 0 0] 270));have HBa:=hide ((HB0.out.alloc (by simp) (.cells #[.slice none 0 0] 270)).alloc (by simp;omega) (.cells #[.slice none 0 0] 270))
 go_enter Tryz.func244,Tryz.ntmps244
 go_wp2
 go_loopw [10] (fun i wr=> ∃ k F r,k≤x.zB.length∧i= .int .i64 (k:Int)∧Own (w.heap.size+3) wr (T.sl 26 1 ((D.take k).map (T.ints 2))) F r∧Bk wr (w.heap.size+2) 270 #[r]∧Bk wr (w.heap.size+1) 270 #[.slice none 0 0]∧(w.heap.size+2) ∉ F∧Below w.heap.size w wr∧w.heap.size+3≤wr.heap.size) (fun i _=>x.zB.length - (intOf i).toNat)
 case atStart=>exact⟨0,[],_,Nat.zero_le _,rfl,by rw[List.take_zero];exact Own.nil _ _ _ _,by simpa using HSa.out,by simpa using HRa.out,by simp,by simpa using HBa.out,by simp⟩
 case round=>
  obtain⟨k,F,r,hk,rfl,ho,hks,hkr,hnf,hbw,hsz⟩:=hrel
  have HO:=hide ho;have HSb:=hide hks;have HRb:=hide hkr;have HNF:=hide hnf;have HB:=hide hbw;clear ho hks hkr hnf hbw
  by_cases hlt:k<x.zB.length
  rotate_left
  ·
   obtain rfl:k=x.zB.length:=by omega
   have HO2:=hide (show Own (w.heap.size+3) wr (T.sl 26 1 (D.map (T.ints 2))) F r from by have h:=HO.out;rw[List.take_of_length_le (by rw[HDq.out];omega)] at h;exact h)
   obtain⟨A8,l8,c8,rfl⟩:=T.yV (T.ow_rd _ _ _ HO2.out.ow)
   have ks:=HSb.out.cell;have kr:=HRb.out.cell;have fr:=HRb.out.free;have lr:=HRb.out.lt;have ls:=HSb.out.lt
   go_wp2
   refine bodyPost_ret (v:= .agg #[.slice A8 l8 c8]) (by simp[results,Tryz.results244,go_sem,kr,fr,lr]) rfl ?_
   exact⟨_,F,rfl,(HO2.out.trn (Trn.set_ (F:= [w.heap.size+1]) (g:=w.heap.size+1) (by simp) 0 (.slice A8 l8 c8)) (fun b hb hm=>by simp at hm;subst hm;have h1:=HO2.out.lo _ hb;omega)).more (by omega),HB.out.setCell (p:=⟨w.heap.size+1,0,none⟩) (by simp) (.slice A8 l8 c8)⟩
  have hgk:=gE hlt
  obtain⟨b1,off,cs1,hA,hb1,hcs,hcell⟩:=HX2.out k x.zB[k] hgk
  subst hA
  generalize x.zB[k]=y at *
  have HG:=hide hgk;clear hgk
  obtain⟨u3,rfl,hRY3⟩:=xJ.yO (show T.rds _ _ _ by simpa only[xJ.t,T.rd] using hcs)
  have d0:=(HB.out.cell hb1).trans (hcell 0 (.int .i64 y.zD) rfl)
  have d1:=(HB.out.cell hb1).trans (hcell 1 (.int .i64 y.fA) rfl)
  have d2:=(HB.out.cell hb1).trans (hcell 2 (.int .i64 y.fB) rfl)
  have d3:=(HB.out.cell hb1).trans (hcell 3 (u3) rfl)
  rw[show off+(k * 4+0)=off+k * 4 by omega] at d0
  rw[show off+(k * 4+1)=off+k * 4+1 by omega] at d1
  rw[show off+(k * 4+2)=off+k * 4+2 by omega] at d2
  rw[show off+(k * 4+3)=off+k * 4+3 by omega] at d3
  have RY3:=hide (T.yF hRY3 HB.out);clear hRY3
  clear hcs hcell
  have RY3i:=hide (T.yT.1 RY3.out);obtain⟨ua3,uc3,rfl,ul3,um3,ux3⟩:=RY3i.out.open_;clear ux3
  have hq1:b1<wr.heap.size:=lL hb1 HB.out.size
  have HCK:=hide (HDA.out k y HG.out)
  have HN_:=hide (HF.out.nodes k y HG.out).1
  have HRX:=hide (show Below wr.heap.size wr (wr.alloc (.cells #[.int .i64 y.zD,.int .i64 y.fA,.int .i64 y.fB,(.slice ua3 y.zH.length uc3)] 167)) from(Below.refl _ _).alloc (Nat.le_refl _) _)
  have HNX:=hide (Bk.born wr 167 #[.int .i64 y.zD,.int .i64 y.fA,.int .i64 y.fB,(.slice ua3 y.zH.length uc3)]);have HSX:=hide (HSb.out.alloc (.cells #[.int .i64 y.zD,.int .i64 y.fA,.int .i64 y.fB,(.slice ua3 y.zH.length uc3)] 167))
  have hBX:wr.heap.size<(wr.alloc (.cells #[.int .i64 y.zD,.int .i64 y.fA,.int .i64 y.fB,(.slice ua3 y.zH.length uc3)] 167)).heap.size:=HNX.out.lt
  have kn:=HNX.out.cell;have ln:=HNX.out.lt;have ks:=HSX.out.cell;have ls:=HSX.out.lt
  obtain⟨A7,l7,c7,rfl⟩:=T.yV (T.ow_rd _ _ _ HO.out.ow)
  go_wp2
  generalize hWX:(wr.alloc (.cells #[.int .i64 y.zD,.int .i64 y.fA,.int .i64 y.fB,(.slice ua3 y.zH.length uc3)] 167))=WX at *;clear hWX
  have HB1q:=hide hsz;generalize hB1:wr.heap.size=B1 at *;have HB1:=hide hB1;clear hB1 kn ln ks ls
  have HDr:=hide (show Below B1 wr WX.drew from HRX.out.drew);have HNd:=hide (Bk.drew HNX.out)
  have HYd:=hide (show T.rds WX.drew y.fs [.int .i64 y.zD,.int .i64 y.fA,.int .i64 y.fB,.slice ua3 y.zH.length uc3] from xJ.rd_mk (T.yF RY3.out (by rw[HB1.out];exact HDr.out)))
  have HWd:=hide (show WX.drew.cell? ⟨w.heap.size+2,0,none⟩=some (.slice A7 l7 c7)∧(∀ i,WX.drew.cell? ⟨B1,i,none⟩= #[.int .i64 y.zD,.int .i64 y.fA,.int .i64 y.fB,(.slice ua3 y.zH.length uc3)][i]?) from⟨HSX.out.cell 0,HNd.out.cell⟩)
  refine wK (fun w'=>w'.cell? ⟨w.heap.size+2,0,none⟩=some (.slice A7 l7 c7)∧(∀ i,w'.cell? ⟨B1,i,none⟩= #[.int .i64 y.zD,.int .i64 y.fA,.int .i64 y.fB,(.slice ua3 y.zH.length uc3)][i]?)) 7 (by kernel_rfl) ?_ (fun hS0=>?_)
  ·exact HWd.out
  generalize hwd:WX.drew=wd at *;clear hwd
  replace HDr:=hide (show Below wr.heap.size wr wd from by rw[HB1.out];exact HDr.out)
  refine tE 0 hS0 ?_
  refine tE 1 hS0 ?_
  refine tE 2 hS0 ?_
  clear hBX
  refine oE 3 (fun K hK=>?_)
  go_simp
  go_wp2_with (go_at_call 228;refine(c_start y _ _ (node_h6 HN_.out) (node_h17 HN_.out) HYd.out).mono ?_;rintro e w4 ⟨nv,rfl,ho,hb⟩;rw[startL_eq] at ho;have HK4:=hide hb)
  have HN4:=hide (Nv.ints ho hb);obtain⟨nA,nl,nc,rfl⟩: ∃ A l c,nv= .slice A l c:=by obtain⟨A,c,e,_⟩:=(T.yT.1 (T.ow_rd _ _ _ HN4.out.ow)).open_;exact⟨A,_,c,e⟩
  have HD4:=hide (yJ HDr.out HDr.out.size hb);clear ho hb
  refine uE hK ?_ (fun hS1=>?_)
  ·exact⟨(HSb.out.below HD4.out HSb.out.lt).cell 0,(HNd.out.below (HK4.out) HNd.out.lt).cell⟩
  clear hK K hS0
  have HA6:=hide (show Below w4.heap.size w4 (w4.alloc (.cells #[.slice nA nl nc] 26)) from(Below.refl _ _).alloc (Nat.le_refl _) _);have HD6:=hide (yJ HD4.out HD4.out.size HA6.out);have HK6:=hide (yJ HK4.out HK4.out.size HA6.out)
  refine oE 4 (fun K hK=>?_)
  go_simp
  refine hK.out _ _ ?_ (fun hS2=>?_)
  ·exact⟨(HSb.out.below HD6.out HSb.out.lt).cell 0,(HNd.out.below (HK6.out) HNd.out.lt).cell⟩
  clear hK K hS1
  have hdl:(D.take k).length≤24:=by rw[List.length_take];omega
  have hz6:=HD6.out.size;have hz4:=HD4.out.size;have hzd:=HDr.out.size;have hzB:=HB1.out
  refine oE 5 (fun K hK=>?_)
  refine step1_T rfl _ _ _ rfl (w.heap.size+3) _ _ 1 24 Tryz.underlying24 wU rfl (by omega) rfl (HO.out.all HD6.out) rfl (Bk.born _ _ _) (x:=T.ints 2 (wD y)) (T.ow_all HN4.out.ow HA6.out) HN4.out.nodup (fun b hb=>by have h1:=HN4.out.lo b hb;omega) (fun b hb hb2=>by have h1:=HO.out.lt b hb;have h2:=HN4.out.lo b hb2;omega) rfl (by rw[List.length_map];omega) (by rw[List.length_map];unfold maxLen;omega) (by omega) ?_;intro v8 w8 F8 ho hg hv
  have HO8:=hide ho;have HB8:=hide (((HO.out.all HD6.out).more (show w.heap.size≤w.heap.size+3 by omega)).below (yJ HB.out HB.out.size HD6.out) (by omega) hg)
  have HS8:=hide ((HSb.out.below HD6.out HSb.out.lt).grown hg (fun e=>HNF.out (HO.out.mem _ e.symm)));have HR8:=hide ((HRb.out.below HD6.out HRb.out.lt).grown hg (fun e=>by have h1:=HO.out.row _ e.symm;omega))
  have HNF8:=hide (show (w.heap.size+2) ∉ F8 from fun hm=>by rcases hv _ hm with h|h|h<;>first|exact HNF.out h|(have h1:=HN4.out.lo _ h;have h2:=HSb.out.lt;omega)|(have h2:=HSb.out.lt;omega))
  have hz8:=hg.size
  have HN8:=hide ((HNd.out.below HK6.out HNd.out.lt).grown hg (fun e=>by have h1:=HO.out.lt _ (HO.out.mem _ e.symm);have h2:=HB1.out;omega))
  clear ho hg hv
  refine hK.out _ _ ?_ (fun hS3=>?_)
  ·exact⟨HS8.out.cell 0,HN8.out.cell⟩
  clear hK K hS2
  refine tE 6 hS3 ?_
  refine wJ (o:=_) (by kernel_rfl) rfl (by kernel_rfl) ?_
  have ks:=HS8.out.cell;have fs:=HS8.out.free;have ls:=HS8.out.lt
  obtain⟨A9,l9,c9,rfl⟩:=T.yV (T.ow_rd _ _ _ HO8.out.ow)
  go_wp2
  go_roundw
  case rel=>exact⟨k+1,F8,_,by omega,by go_num,by rw[xQ HCK.out,List.map_append];exact HO8.out.trn (Trn.set_ (F:= [w.heap.size+2]) (g:=w.heap.size+2) (by simp) 0 (.slice A9 l9 c9)) (fun b hb hm=>by simp at hm;subst hm;exact HNF8.out hb),by have:=HS8.out.set_ 0 (.slice A9 l9 c9);simpa using this,HR8.out.far (p:=⟨w.heap.size+2,0,none⟩) (by simp) _,HNF8.out,HB8.out.setCell (p:=⟨w.heap.size+2,0,none⟩) (by simp) _,by simp[World.setCell];omega⟩
  case measure=>simp[intOf];omega
theorem c_l08Start (x:xG) (b o:Nat) (w:World) (hF:FormedOk x) (h:T.at w x.fs b o):Calls Tryz.prog 240 #[.pointer (some ⟨b,o,none⟩)] w fun e w'=> ∃ v F,e= .returned (.agg #[v])∧Own w.heap.size w' (T.sl 26 1 ((x.zB.map wD).map (T.ints 2))) F v∧Below w.heap.size w w':=by
 have HAT:=hide h
 obtain⟨hlt0,cs,hr,hc⟩:=h
 obtain⟨v1,v2,v3,rfl,h1,h2,h3⟩:=xG.yO hr
 clear hr
 have R1:=hide h1;obtain⟨va1,vc1,rfl,vl1,vm1,vx1⟩:=T.yN h1
 have HX1:=hide vx1;clear vx1 h1
 have R2:=hide h2;obtain⟨va2,vc2,rfl,vl2,vm2,vx2⟩:=T.yN h2
 have HX2:=hide vx2;clear vx2 h2
 have h3i:=T.yT.1 h3;obtain⟨va3,vc3,rfl,vl3,vm3,vx3⟩:=h3i.open_
 have R3:=hide h3i;have HX3:=hide vx3;clear vx3 h3 h3i
 have HL:=hide hlt0;have HCC:=hide hc;have HB0:=hide (Below.refl w.heap.size w);clear hlt0 hc
 have HF:=hide hF;have hn24:x.zB.length≤24:=hF.few;clear hF
 obtain⟨D,hD⟩: ∃ D,(x.zB.map wD)=D:=⟨_,rfl⟩
 have HDq:=hide (show D.length=x.zB.length by rw[←hD,List.length_map]);have HDA:=hide (fun k y (h:x.zB[k]?=some y)=>(show D[k]?=some (wD y) by rw[←hD,List.getElem?_map,h];rfl));rw[hD];clear hD
 have hDl:D.length=x.zB.length:=HDq.out
 have HSa:=hide (Bk.born2 w (.cells #[.slice none 0 0] 270) (.cells #[] 26) 270 #[.slice (some ⟨w.heap.size+1,0,none⟩) 0 0]);have HRa:=hide (((Bk.born w 270 #[.slice none 0 0]).alloc (.cells #[] 26)).alloc (.cells #[.slice (some ⟨w.heap.size+1,0,none⟩) 0 0] 270));have HBa:=hide ((((Below.refl w.heap.size w).alloc (Nat.le_refl _) (.cells #[.slice none 0 0] 270)).alloc (by simp) (.cells #[] 26)).alloc (by simp;omega) (.cells #[.slice (some ⟨w.heap.size+1,0,none⟩) 0 0] 270))
 have HOa:=hide (show Own (w.heap.size+1) (((w.alloc (.cells #[.slice none 0 0] 270)).alloc (.cells #[] 26)).alloc (.cells #[.slice (some ⟨w.heap.size+1,0,none⟩) 0 0] 270)) (T.sl 26 1 []) [w.heap.size+1] (.slice (some ⟨w.heap.size+1,0,none⟩) 0 0) from by have h:=Own.born (B:=(w.alloc (.cells #[.slice none 0 0] 270)).heap.size) (World.ownsRow_made (w.alloc (.cells #[.slice none 0 0] 270)) #[] 0 (Nat.le_refl _) (by decide) rfl:((w.alloc (.cells #[.slice none 0 0] 270)).alloc (.cells #[] 26)).ownsRow (w.alloc (.cells #[.slice none 0 0] 270)).heap.size 26 1 (.slice (some ⟨(w.alloc (.cells #[.slice none 0 0] 270)).heap.size,0,none⟩) 0 0) 0 []);have h2:=h.all ((Below.refl _ _).alloc (Nat.le_refl _) (.cells #[.slice (some ⟨w.heap.size+1,0,none⟩) 0 0] 270));simpa[Value.ownBlock] using h2)
 have p0:w.cell? ⟨b,o,none⟩=some (.int .i64 x.zJ):=(HB0.out.cell HL.out).trans (HCC.out 0 _ rfl)
 have p1:w.cell? ⟨b,o+1,none⟩=some (.slice va1 x.zN.length vc1):=(HB0.out.cell HL.out).trans (HCC.out 1 _ rfl)
 have p2:w.cell? ⟨b,o+2,none⟩=some (.slice va2 x.zB.length vc2):=(HB0.out.cell HL.out).trans (HCC.out 2 _ rfl)
 have p3:w.cell? ⟨b,o+3,none⟩=some (.slice va3 x.zK.length vc3):=(HB0.out.cell HL.out).trans (HCC.out 3 _ rfl)
 have lb:b<w.heap.size:=lL HL.out HB0.out.size
 have HBs:=hide (show Below w.heap.size w (((w.alloc (.cells #[.slice none 0 0] 270)).alloc (.cells #[] 26)).alloc (.cells #[.slice (some ⟨w.heap.size+1,0,none⟩) 0 0] 270)) from HBa.out)
 go_enter Tryz.func240,Tryz.ntmps240
 go_wp2
 go_loopw [4] (fun i wr=> ∃ k F r,k≤x.zB.length∧i= .int .i64 (k:Int)∧Own (w.heap.size+1) wr (T.sl 26 1 ((D.take k).map (T.ints 2))) F r∧Bk wr (w.heap.size+2) 270 #[r]∧Bk wr (w.heap.size) 270 #[.slice none 0 0]∧(w.heap.size+2) ∉ F∧Below w.heap.size w wr∧w.heap.size+3≤wr.heap.size) (fun i _=>x.zB.length - (intOf i).toNat)
 case atStart=>exact⟨0,_,_,Nat.zero_le _,rfl,by rw[List.take_zero];simpa using HOa.out,by simpa using HSa.out,by simpa using HRa.out,by simp,by simpa using HBa.out,by simp⟩
 case round=>
  obtain⟨k,F,r,hk,rfl,ho,hks,hkr,hnf,hbw,hsz⟩:=hrel
  have HO:=hide ho;have HSb:=hide hks;have HRb:=hide hkr;have HNF:=hide hnf;have HB:=hide hbw;clear ho hks hkr hnf hbw
  clear p0 p1 p2 p3 lb
  have p0:wr.cell? ⟨b,o,none⟩=some (.int .i64 x.zJ):=(HB.out.cell HL.out).trans (HCC.out 0 _ rfl)
  have p1:wr.cell? ⟨b,o+1,none⟩=some (.slice va1 x.zN.length vc1):=(HB.out.cell HL.out).trans (HCC.out 1 _ rfl)
  have p2:wr.cell? ⟨b,o+2,none⟩=some (.slice va2 x.zB.length vc2):=(HB.out.cell HL.out).trans (HCC.out 2 _ rfl)
  have p3:wr.cell? ⟨b,o+3,none⟩=some (.slice va3 x.zK.length vc3):=(HB.out.cell HL.out).trans (HCC.out 3 _ rfl)
  have lb:b<wr.heap.size:=lL HL.out HB.out.size
  by_cases hlt:k<x.zB.length
  rotate_left
  ·
   obtain rfl:k=x.zB.length:=by omega
   have HO2:=hide (show Own (w.heap.size+1) wr (T.sl 26 1 (D.map (T.ints 2))) F r from by have h:=HO.out;rw[List.take_of_length_le (by rw[HDq.out];omega)] at h;exact h)
   obtain⟨A8,l8,c8,rfl⟩:=T.yV (T.ow_rd _ _ _ HO2.out.ow)
   have ks:=HSb.out.cell;have kr:=HRb.out.cell;have fr:=HRb.out.free;have lr:=HRb.out.lt;have ls:=HSb.out.lt
   go_wp2
   refine bodyPost_ret (v:= .agg #[.slice A8 l8 c8]) (by simp[results,Tryz.results240,go_sem,kr,fr,lr]) rfl ?_
   exact⟨_,F,rfl,(HO2.out.trn (Trn.set_ (F:= [w.heap.size]) (g:=w.heap.size) (by simp) 0 (.slice A8 l8 c8)) (fun b hb hm=>by simp at hm;subst hm;have h1:=HO2.out.lo _ hb;omega)).more (by omega),HB.out.setCell (p:=⟨w.heap.size,0,none⟩) (by simp) (.slice A8 l8 c8)⟩
  have hgk:=gE hlt
  obtain⟨b1,off,csy,hA,hb1,hcs,hcell⟩:=HX2.out k x.zB[k] hgk
  subst hA
  generalize x.zB[k]=y at *
  have HG:=hide hgk;clear hgk
  have HAy:=hide (T.at_elem (o:=off+k * 4) hb1 (show T.rds w y.fs csy by simpa only[xJ.t,T.rd] using hcs) hcell (by omega));clear hcs hcell
  clear p0 p1 p2 p3 lb
  have p0:wr.cell? ⟨b,o,none⟩=some (.int .i64 x.zJ):=(HB.out.cell HL.out).trans (HCC.out 0 _ rfl)
  have p1:wr.cell? ⟨b,o+1,none⟩=some (.slice va1 x.zN.length vc1):=(HB.out.cell HL.out).trans (HCC.out 1 _ rfl)
  have p2:wr.cell? ⟨b,o+2,none⟩=some (.slice (some ⟨b1,off,none⟩) x.zB.length vc2):=(HB.out.cell HL.out).trans (HCC.out 2 _ rfl)
  have p3:wr.cell? ⟨b,o+3,none⟩=some (.slice va3 x.zK.length vc3):=(HB.out.cell HL.out).trans (HCC.out 3 _ rfl)
  have lb:b<wr.heap.size:=lL HL.out HB.out.size
  have HCK:=hide (HDA.out k y HG.out)
  have HN_:=hide (HF.out.nodes k y HG.out).1
  have ks:=HSb.out.cell;have ls:=HSb.out.lt
  obtain⟨A7,l7,c7,rfl⟩:=T.yV (T.ow_rd _ _ _ HO.out.ow)
  have HAY:=hide (T.at_below HAy.out HB.out)
  go_wp2
  have HP2:=hide p2;have HDr:=hide ((Below.refl wr.heap.size wr).drew);have HWd:=hide (show wr.drew.cell? ⟨w.heap.size+2,0,none⟩=some (.slice A7 l7 c7)∧wr.drew.cell? ⟨b,o+2,none⟩=some (.slice (some ⟨b1,off,none⟩) x.zB.length vc2) from⟨ks 0,p2⟩)
  have HPK:=hide (fun(w':World) (hw:Below w.heap.size w w')=>((hw.cell HL.out).trans ((HB.out.cell HL.out).symm.trans HP2.out):w'.cell? ⟨b,o+2,none⟩=some (.slice (some ⟨b1,off,none⟩) x.zB.length vc2)))
  clear p0 p1 p2 p3 lb ks ls
  refine wK (fun w'=>w'.cell? ⟨w.heap.size+2,0,none⟩=some (.slice A7 l7 c7)∧w'.cell? ⟨b,o+2,none⟩=some (.slice (some ⟨b1,off,none⟩) x.zB.length vc2)) 12 (by kernel_rfl) ?_ (fun hS0=>?_)
  ·exact HWd.out
  generalize hwd:wr.drew=wd at *;clear hwd
  refine tE 0 hS0 ?_
  refine tE 1 hS0 ?_
  refine tE 2 hS0 ?_
  refine tE 3 hS0 ?_
  refine tE 4 hS0 ?_
  refine tE 5 hS0 ?_
  refine tE 6 hS0 ?_
  refine tE 7 hS0 ?_
  refine oE 8 (fun K hK=>?_)
  go_simp
  go_wp2_with (go_at_call 270;refine(c_l06Start y b1 (off+k * 4) _ (node_h6 HN_.out) (node_h17 HN_.out) (T.at_below HAY.out HDr.out)).mono ?_;rintro e w4 ⟨nv,rfl,ho,hb⟩;rw[startL_eq] at ho)
  have HN4:=hide (Nv.ints ho hb);obtain⟨nA,nl,nc,rfl⟩: ∃ A l c,nv= .slice A l c:=by obtain⟨A,c,e,_⟩:=(T.yT.1 (T.ow_rd _ _ _ HN4.out.ow)).open_;exact⟨A,_,c,e⟩
  have HD4:=hide (yJ HDr.out HDr.out.size hb);clear ho hb
  refine uE hK ?_ (fun hS1=>?_)
  ·exact⟨(HSb.out.below HD4.out HSb.out.lt).cell 0,HPK.out _ (yJ HB.out HB.out.size HD4.out)⟩
  clear hK K hS0
  have HA6:=hide (show Below w4.heap.size w4 (w4.alloc (.cells #[.slice nA nl nc] 26)) from(Below.refl _ _).alloc (Nat.le_refl _) _);have HD6:=hide (yJ HD4.out HD4.out.size HA6.out)
  refine oE 9 (fun K hK=>?_)
  go_simp
  refine hK.out _ _ ?_ (fun hS2=>?_)
  ·exact⟨(HSb.out.below HD6.out HSb.out.lt).cell 0,HPK.out _ (yJ HB.out HB.out.size HD6.out)⟩
  clear hK K hS1
  have hdl:(D.take k).length≤24:=by rw[List.length_take];omega
  have hz6:=HD6.out.size;have hz4:=HD4.out.size;have hzd:=HDr.out.size
  refine oE 10 (fun K hK=>?_)
  refine step1_T rfl _ _ _ rfl (w.heap.size+1) _ _ 1 24 Tryz.underlying24 wU rfl (by omega) rfl (HO.out.all HD6.out) rfl (Bk.born _ _ _) (x:=T.ints 2 (wD y)) (T.ow_all HN4.out.ow HA6.out) HN4.out.nodup (fun b hb=>by have h1:=HN4.out.lo b hb;omega) (fun b hb hb2=>by have h1:=HO.out.lt b hb;have h2:=HN4.out.lo b hb2;omega) rfl (by rw[List.length_map];omega) (by rw[List.length_map];unfold maxLen;omega) (by omega) ?_;intro v8 w8 F8 ho hg hv
  have HO8:=hide ho;have HB8:=hide (((HO.out.all HD6.out).more (show w.heap.size≤w.heap.size+1 by omega)).below (yJ HB.out HB.out.size HD6.out) (by omega) hg)
  have HS8:=hide ((HSb.out.below HD6.out HSb.out.lt).grown hg (fun e=>HNF.out (HO.out.mem _ e.symm)));have HR8:=hide ((HRb.out.below HD6.out HRb.out.lt).grown hg (fun e=>by have h1:=HO.out.row _ e.symm;omega))
  have HNF8:=hide (show (w.heap.size+2) ∉ F8 from fun hm=>by rcases hv _ hm with h|h|h<;>first|exact HNF.out h|(have h1:=HN4.out.lo _ h;have h2:=HSb.out.lt;omega)|(have h2:=HSb.out.lt;omega))
  have hz8:=hg.size
  clear ho hg hv
  refine hK.out _ _ ?_ (fun hS3=>?_)
  ·exact⟨HS8.out.cell 0,HPK.out _ HB8.out⟩
  clear hK K hS2
  refine tE 11 hS3 ?_
  refine wJ (o:=_) (by kernel_rfl) rfl (by kernel_rfl) ?_
  have ks:=HS8.out.cell;have fs:=HS8.out.free;have ls:=HS8.out.lt
  obtain⟨A9,l9,c9,rfl⟩:=T.yV (T.ow_rd _ _ _ HO8.out.ow)
  go_wp2
  go_roundw
  case rel=>exact⟨k+1,F8,_,by omega,by go_num,by rw[xQ HCK.out,List.map_append];exact HO8.out.trn (Trn.set_ (F:= [w.heap.size+2]) (g:=w.heap.size+2) (by simp) 0 (.slice A9 l9 c9)) (fun b hb hm=>by simp at hm;subst hm;exact HNF8.out hb),by have:=HS8.out.set_ 0 (.slice A9 l9 c9);simpa using this,HR8.out.far (p:=⟨w.heap.size+2,0,none⟩) (by simp) _,HNF8.out,HB8.out.setCell (p:=⟨w.heap.size+2,0,none⟩) (by simp) _,by simp[World.setCell];omega⟩
  case measure=>simp[intOf];omega
end
section
open Go.RowKit
theorem rd_row1 {w:World} {g:Nat} {t E:TypeId} {v:Value} {xs:List Int} (hb:Bk w g t #[v]) (hr:RdI w v xs):T.rd w (T.sl t 1 [T.ints E xs]) [.slice (some ⟨g,0,none⟩) 1 1]:=by
 simp only[T.rd]
 exact⟨_,[v],rfl,by simp[T.ints,T.wide],Bk.rd1 (ys:= [v]) hb,by simp only[T.rds];exact⟨[v],[],rfl,T.yT.2 hr,rfl⟩⟩
theorem madeOne (z:Value):(madeCells (#[z]:Array Value) (1 * 1)).toList.toArray= #[z]:=by rw[Nat.mul_one,toList_madeCells_one];rfl
theorem own_bkN {w:World} {B g n:Nat} {e:TypeId} {es:List Value} (h:w.ownsRow B e 1 (.slice (some ⟨g,0,none⟩) n n) n es):Bk w g e es.toArray:=by
 rcases h.2 with ⟨h',_⟩|⟨g',cap,cur,h',hb,hg,hn,hm,hs,ht⟩
 ·cases h'
 ·injection h' with h1 h2 h3
  injection h1 with h1
  injection h1 with h1
  subst h1 h3
  have hc:cur.toList=es:=by rw[←ht,List.take_of_length_le (by rw[Array.length_toList];omega)]
  unfold Bk
  rw[hg,←hc]
theorem own_trnF {E:TypeId} {w w':World} {B:Nat} {F:List Nat} {v:Value} {xs:List Int} (h:OwI E w B v xs) (k:Trn F w w') (hd: ∀ b ∈ F,b<B):OwI E w' B v xs:=
 zDz (fun b hb=>k.block _ (h.lt b hb).2 (fun hm=>by have h1:=hd b hm;have h2:=(h.lt b hb).1;omega)) h
/-- A player that a call has made. -/
def PlayerAt (x:xG) (cells:List (List Int)) (w w':World) (b:Nat):Prop:= ∃ w0 bv bc cv cc pv ordV ca,T.rds w0 x.fs pv∧RdI w0 ordV (xR x.zB)∧x.zB.length≤cv∧x.zB.length≤cc∧Plr w0 w' x.zB.length b bv bc [bv,bc] cv cc pv ordV (List.replicate x.zB.length 0) cells ca∧Below w.heap.size w w0
theorem c_playerOf (x:xG) (cs:List Value) (cells:List (List Int)) (vc:Value) (w:World) (hn0:0<x.zB.length) (hn:x.zB.length≤24) (hw:Each x.zB fun _ y=>Idx y.zH (x.zB.length:Int)) (hcl:cells.length=x.zB.length) (hsm:smL (fun l:List Int=>l.length≤1048576) cells) (hr:T.rds w x.fs cs) (hc:T.rd w (T.sl 26 1 (cells.map (T.ints 2))) [vc]):
  Calls Tryz.prog 243 #[.agg cs.toArray,.agg #[vc]] w fun e w'=> ∃ b,e= .returned (.pointer (some ⟨b,0,none⟩))∧PlayerAt x cells w w' b:=by
 have HRX:=hide hr;have HCX:=hide hc;have HSM:=hide hsm;have HWN:=hide hw;clear hsm hw
 obtain⟨v1,v2,v3,rfl,h1,h2,h3⟩:=xG.yO hr
 clear hr
 have R1:=hide h1;obtain⟨va1,vc1,rfl,vl1,vm1,vx1⟩:=T.yN h1
 have HX1:=hide vx1;clear vx1 h1
 have R2:=hide h2;obtain⟨va2,vc2,rfl,vl2,vm2,vx2⟩:=T.yN h2
 have HX2:=hide vx2;clear vx2 h2
 have h3i:=T.yT.1 h3;obtain⟨va3,vc3,rfl,vl3,vm3,vx3⟩:=h3i.open_
 have R3:=hide h3i;have HX3:=hide vx3;clear vx3 h3 h3i
 obtain⟨SA,scap,rfl,sl_,sm_,sx_⟩:=T.yN hc
 have HCL:=hide (show (fun l:List (List Int)=>l.length) cells=x.zB.length from hcl)
 clear sx_ hc;rw[hcl] at *
 have HK0:=hide ((Bk.born w 108 #[.int .i64 x.zJ,.slice va1 x.zN.length vc1,.slice va2 x.zB.length vc2,.slice va3 x.zK.length vc3]).alloc (.cells #[.slice SA x.zB.length scap] 270));have HK1:=hide (Bk.born1' w (.cells #[.int .i64 x.zJ,.slice va1 x.zN.length vc1,.slice va2 x.zB.length vc2,.slice va3 x.zK.length vc3] 108) 270 #[.slice SA x.zB.length scap]);have HBa:=hide (((Below.refl w.heap.size w).alloc (Nat.le_refl _) (.cells #[.int .i64 x.zJ,.slice va1 x.zN.length vc1,.slice va2 x.zB.length vc2,.slice va3 x.zK.length vc3] 108)).alloc (by simp) (.cells #[.slice SA x.zB.length scap] 270))
 have HBa:Sec (Below w.heap.size w ((w.alloc (.cells #[.int .i64 x.zJ,.slice va1 x.zN.length vc1,.slice va2 x.zB.length vc2,.slice va3 x.zK.length vc3] 108)).alloc (.cells #[.slice SA x.zB.length scap] 270))):=HBa
 go_enter Tryz.func243,Tryz.ntmps243
 go_wp2
 generalize hW2:((w.alloc (.cells #[.int .i64 x.zJ,.slice va1 x.zN.length vc1,.slice va2 x.zB.length vc2,.slice va3 x.zK.length vc3] 108)).alloc (.cells #[.slice SA x.zB.length scap] 270))=W2 at *;clear hW2
 have HDr:=hide ((Below.refl W2.heap.size W2).drew)
 have HKP:=hide (fun(w':World) (hw:Below W2.heap.size W2 w')=>(⟨(HK0.out.below hw HK0.out.lt).cell,(HK1.out.below hw HK1.out.lt).cell⟩:(∀ i,w'.cell? ⟨w.heap.size,i,none⟩= #[.int .i64 x.zJ,.slice va1 x.zN.length vc1,.slice va2 x.zB.length vc2,.slice va3 x.zK.length vc3][i]?)∧(∀ i,w'.cell? ⟨w.heap.size+1,i,none⟩= #[.slice SA x.zB.length scap][i]?)))
 refine wE (fun w'=>(∀ i,w'.cell? ⟨w.heap.size,i,none⟩= #[.int .i64 x.zJ,.slice va1 x.zN.length vc1,.slice va2 x.zB.length vc2,.slice va3 x.zK.length vc3][i]?)∧(∀ i,w'.cell? ⟨w.heap.size+1,i,none⟩= #[.slice SA x.zB.length scap][i]?)) [] (by kernel_rfl) ?_ (fun hS0=>?_)
 ·exact HKP.out _ HDr.out
 generalize hwd:W2.drew=wd at *;clear hwd
 refine tN 0 hS0 ?_
 refine tN 1 hS0 ?_
 refine tN 3 hS0 ?_
 refine tN 4 hS0 ?_
 refine tN 7 hS0 ?_
 refine tN 8 hS0 ?_
 have HBd:=hide (yJ HBa.out HBa.out.size HDr.out)
 refine oN 2 (fun K hK=>?_)
 go_simp
 go_wp2_with (go_at_call 223;refine(c_order x _ _ (by omega) HWN.out (T.rds_below HRX.out HBd.out)).mono ?_;rintro e w3 ⟨vo,rfl,ho,hb⟩)
 have HO3:=hide (OwI.rd ho);have HD3:=hide (yJ HDr.out HDr.out.size hb);have HB3:=hide (yJ HBd.out HBd.out.size hb);clear ho hb
 refine uN hK ?_ (fun hS1=>?_)
 ·exact HKP.out _ HD3.out
 clear hK K hS0
 try simp only[Act.put,List.setIfInBounds_toArray,List.set_cons_zero,List.set_cons_succ]
 refine oN 5 (fun K hK=>?_)
 go_simp
 go_wp2_with (go_at_call 260;refine(c_sizeNode _ _ _ _ (by omega)).mono ?_;rintro e _ ⟨rfl,rfl⟩)
 refine uN hK ?_ (fun hS2=>?_)
 ·exact HKP.out _ HD3.out
 clear hK K hS1
 try simp only[Act.put,List.setIfInBounds_toArray,List.set_cons_zero,List.set_cons_succ]
 refine oN 6 (fun K hK=>?_)
 go_simp
 go_wp2_with (go_at_call 193;refine(c_zeros0 x.zB.length _ (by omega)).mono ?_;rintro e w4 ⟨rfl,ho,hb⟩)
 have HV4:=hide ho;have HD4:=hide (yJ HD3.out HD3.out.size hb);have HB4:=hide (yJ HB3.out HB3.out.size hb);have HE4:=hide hb;clear ho hb
 refine uN hK ?_ (fun hS3=>?_)
 ·exact HKP.out _ HD4.out
 clear hK K hS2
 try simp only[Act.put,List.setIfInBounds_toArray,List.set_cons_zero,List.set_cons_succ]
 refine oN 9 (fun K hK=>?_)
 go_simp
 go_wp2_with (go_at_call 111;refine(c_clones _ cells _ HSM.out (T.yF HCX.out HB4.out)).mono ?_;rintro e w5 ⟨vl,F5,rfl,ho,hb⟩)
 have HC5:=hide ho;have HD5:=hide (yJ HD4.out HD4.out.size hb);have HB5:=hide (yJ HB4.out HB4.out.size hb);have HE5:=hide (yJ HE4.out HE4.out.size hb);have HV5:=hide (wO HV4.out hb);clear ho hb
 refine uN hK ?_ (fun hS4=>?_)
 ·exact HKP.out _ HD5.out
 clear hK K hS3
 try simp only[Act.put,List.setIfInBounds_toArray,List.set_cons_zero,List.set_cons_succ]
 have hcl2:cells.length=x.zB.length:=HCL.out
 obtain⟨bc,cc,ca,rfl,hcc,hbc,hbk,hrows⟩:=HC5.out.rows (by omega)
 rw[hcl2] at *
 obtain⟨oA,ol_,oc,rfl⟩: ∃ A l c,vo= .slice A l c:=by obtain⟨A,c,e,_⟩:=HO3.out.open_;exact⟨A,_,c,e⟩
 refine tN 10 hS4 ?_
 have HA6:=hide (show Below w5.heap.size w5 (w5.alloc (.cells #[.int .i64 x.zJ,.slice va1 x.zN.length vc1,.slice va2 x.zB.length vc2,.slice va3 x.zK.length vc3,.slice oA ol_ oc,.slice (some ⟨w3.heap.size,0,none⟩) x.zB.length x.zB.length,.slice (some ⟨bc,0,none⟩) x.zB.length cc] 299)) from(Below.refl _ _).alloc (Nat.le_refl _) _)
 have HD6:=hide (yJ HD5.out HD5.out.size HA6.out)
 refine oN 11 (fun K hK=>?_)
 go_simp
 refine uN hK ?_ (fun hS5=>?_)
 ·exact HKP.out _ HD6.out
 clear hK K hS4
 refine oN 12 (fun K hK=>?_)
 go_simp
 refine uN hK ?_ (fun hS6=>?_)
 ·exact HKP.out _ HD6.out
 clear hK K hS5
 refine xY (by kernel_rfl) ?_
 clear hS6
 go_wp2
 go_ret
 have hv3:=(HV4.out.lt w3.heap.size rfl).2;have h45:=HE5.out.size;have hz5:=hbk.lt;have hE:=HC5.out.lo
 have hz4:w4.heap.size≤bc:=hbc
 refine⟨w5.heap.size,rfl,w3,w3.heap.size,bc,x.zB.length,cc,[.int .i64 x.zJ,.slice va1 x.zN.length vc1,.slice va2 x.zB.length vc2,.slice va3 x.zK.length vc3],.slice oA ol_ oc,ca,T.rds_below HRX.out HB3.out,HO3.out,Nat.le_refl _,hcc,⟨yJ HE5.out HE5.out.size HA6.out,⟨by omega,Nat.le_refl _,by omega⟩,⟨by omega,by omega,by omega⟩,by simp,by simp,fun q hq=>?_,Bk.born _ _ _,wO HV5.out HA6.out,⟨hbk.alloc _,fun i l hl=>?_⟩⟩,HB3.out⟩
 ·have hs:(w5.alloc (.cells #[.int .i64 x.zJ,.slice va1 x.zN.length vc1,.slice va2 x.zB.length vc2,.slice va3 x.zK.length vc3,.slice oA ol_ oc,.slice (some ⟨w3.heap.size,0,none⟩) x.zB.length x.zB.length,.slice (some ⟨bc,0,none⟩) x.zB.length cc] 299)).heap.size=w5.heap.size+1:=by simp
  simp at hq;rcases hq with rfl|rfl<;>omega
 ·obtain⟨u,u1,u2,u3,u4⟩:=hrows i l hl
  refine⟨u,u1,RdI.below (OwI.rd u2) HA6.out,fun q hq e=>?_,fun k hk=>lL (u4 k hk).2 HA6.out.size⟩
  simp at hq
  rcases hq with rfl|rfl
  ·have:=(u4 _ e).1;omega
  ·exact u3 e
end
section
open Go.RowKit
theorem c_block (x:xG) (w0:World) (b bv bc cv cc:Nat) (pv:List Value) (ordV vin:Value) (cs:Array Value) (a:List Int) (n:Nat) (w:World) (hP:wZ x) (h1:x.zJ=1) (h2:x.zK.length=1) (hA: ∀ y ∈ a,Smp y) (hn:n≤1048576) (hr:T.rds w0 x.fs pv) (ho:RdI w0 ordV (xR x.zB)) (hcv:x.zB.length≤cv) (hcc:x.zB.length≤cc) (hin:T.rd w0 (T.sl 26 1 ([a].map (T.ints 2))) [vin]) (h:Plr w0 w x.zB.length b bv bc [bv,bc] cv cc pv ordV (List.replicate x.zB.length 0) (x.zB.map wD) cs):
  Calls Tryz.prog 245 #[.pointer (some ⟨b,0,none⟩),vin,.int .i64 0,.int .i64 (n:Int)] w fun e w'=> ∃ v,e= .returned v∧T.rd w' (T.sl 26 1 ([rowF x a n].map (T.ints 2))) [v]∧Below w0.heap.size w0 w':=by
 have HPO:=hide hP;have HPL0:=hide h;have HRX:=hide hr;have HOR:=hide ho
 have HAS:=hide (show ∀ l ∈ [a],∀ y ∈ l,Smp y from fun l hl=>by simp at hl;subst hl;exact hA)
 have HCA:=hide (fun t=>cellsAt_ok hP HAS.out t);have HFS:=hide (fun t=>frameF_smp HAS.out t);have HVS:=hide (fun t=>valsAt_smp hP HAS.out t)
 obtain⟨o1,ho1⟩:=len1 h2
 have hO:=hP.formed.outputs;rw[ho1] at hO;have hO1:=hO 0 o1 rfl
 have hlr:=h.bk;have hlb:=h.bk.lt;have hlv:=(h.vals.lt bv rfl).2;have hlc:=h.cel.bk.lt;have hne:=h.ne
 have HROW:=hide (fun t=>rowF_snoc x a t);have HRW0:=hide (show rowF x a 0= [] from rfl)
 have HD0:=hide (show x.zK.getD 0 0=o1 by rw[ho1];rfl)
 have HOUT:=hide (show Idx x.zK (x.zB.length:Int) from hP.formed.outputs)
 obtain⟨v1,v2,v3,rfl,h1,h2,h3⟩:=xG.yO hr
 clear hr hA h ho hP hO hlr
 have R1:=hide h1;obtain⟨va1,vc1,rfl,vl1,vm1,vx1⟩:=T.yN h1
 have HX1:=hide vx1;clear vx1 h1
 have R2:=hide h2;obtain⟨va2,vc2,rfl,vl2,vm2,vx2⟩:=T.yN h2
 have HX2:=hide vx2;clear vx2 h2
 have h3i:=T.yT.1 h3;obtain⟨va3,vc3,rfl,vl3,vm3,vx3⟩:=h3i.open_
 have R3:=hide h3i;have HX3:=hide vx3;clear vx3 h3 h3i
 rw[h2] at *
 obtain⟨IA,ic,rfl,il,im,ix⟩:=T.yN hin
 obtain⟨bi,oi,c9,hAi,hbi,hcsi,hcelli⟩:=ix 0 a rfl
 subst hAi
 obtain⟨va,rfl⟩:=T.rd_one hcsi
 have e0:=hcelli 0 va rfl
 have RA:=hide (T.yT.1 hcsi);have HE0:=hide (show w0.cell? ⟨bi,oi,none⟩=some va by simpa using e0);clear hcsi hcelli e0 ix hin
 generalize hpv:([.int .i64 x.zJ,.slice va1 x.zN.length vc1,.slice va2 x.zB.length vc2,.slice va3 1 vc3]:List Value)=pv at *
 have HBK:=hide (fun(W:World) (A:List Nat) (V:List Int) (C:List (List Int)) (cs:Array Value) (h:Plr w0 W x.zB.length b bv bc A cv cc pv ordV V C cs)=>(by have:=h.bk;rw[←hpv] at this;exact this:Bk W b 299 #[.int .i64 x.zJ,.slice va1 x.zN.length vc1,.slice va2 x.zB.length vc2,.slice va3 1 vc3,ordV,.slice (some ⟨bv,0,none⟩) x.zB.length cv,.slice (some ⟨bc,0,none⟩) x.zB.length cc]));clear hpv
 have kb:=(HBK.out _ _ _ _ _ HPL0.out).cell;have lb:=HPL0.out.bk.lt
 obtain⟨i1,hi1,hz10,hz11,hz12⟩:=info_parts wU
 go_enter Tryz.func245,Tryz.ntmps245
 go_wp2_with (at_make;refine wpList_make_full _ rfl _ _ _ rfl w.heap.size 26 i1 _ 1 Tryz.underlying24 hi1 hz10 hz11 .i64 .i64 _ _ 1 rfl rfl (by first|rfl|omega) (by first|rfl|omega) (by rw[hz12];omega) (by unfold maxLen;omega) (Nat.le_refl _) ?_;intro w1 hown1 hg1;have HBo:=hide (own_bkN hown1);have HG1:=hide ((Below.refl w.heap.size w).grown hg1 (Nat.le_refl _) (by simp));clear hown1 hg1;have HPL1:=hide (HPL0.out.add HG1.out (Nat.le_refl _) HBo.out.lt);clear kb lb;have kb:=(HBK.out _ _ _ _ _ HPL1.out).cell;have lb:=HPL1.out.bk.lt)
 clear hi1 hz10 hz11 hz12
 have HZI:=hide (show Calls Tryz.prog 193 #[.int .i64 1] w1 fun e w'=>e= .returned (.slice (some ⟨w1.heap.size,0,none⟩) 1 1)∧OwI 2 w' w1.heap.size (.slice (some ⟨w1.heap.size,0,none⟩) 1 1) (List.replicate 1 0)∧Below w1.heap.size w1 w' from c_zeros0 1 w1 (by omega))
 go_wp2_with fail
 refine HZI.out.mono ?_;rintro e w2 ⟨rfl,hf,hd⟩
 have HBo1:=hide (HBo.out.below hd HBo.out.lt);have HPL2:=hide (HPL1.out.add hd (Nat.le_refl _) (hf.lt w1.heap.size rfl).2);have hs1:=HBo.out.lt;have hs2:=(hf.lt w1.heap.size rfl).2;have HF2:=hide hf;clear hf hd HBo HPL1 HZI kb lb
 have HBf:=hide (show Bk w2 w1.heap.size 2 #[.int .i64 0] from own_bkN HF2.out)
 have kb:=(HBK.out _ _ _ _ _ HPL2.out).cell;have lb:=HPL2.out.bk.lt
 have hB1:w1.heap.size≤w2.heap.size:=by omega
 have hwn:IntKind.i64.wrap (0+(n:Int))=(n:Int):=by rw[Int.zero_add];exact IntWalk.i64_in _ (by omega)
 go_wp2
 have HBo2:=hide (show Bk w2 w.heap.size 26 #[.slice none 0 0] from by have h:Bk w2 w.heap.size 26 (madeCells (#[.slice none 0 0]:Array Value) (1 * 1)).toList.toArray:=HBo1.out;rw[madeOne] at h;exact h)
 go_loopw [11] (fun i wr=> ∃ (k:Nat) (A:List Nat) (V:List Int) (cs:Array Value) (y:Int) (r:Value),k≤n∧i= .int .i64 (k:Int)∧(∀ z ∈ V,Smp z)∧V.length=x.zB.length∧Plr w0 wr x.zB.length b bv bc A cv cc pv ordV V (cellsAt x [a] k) cs∧Bk wr w.heap.size 26 #[r]∧Bk wr w1.heap.size 2 #[.int .i64 y]∧OwI 2 wr w2.heap.size r (rowF x a k)∧w2.heap.size≤wr.heap.size∧(w1.heap.size ∈ A∧w.heap.size ∈ A∧ ∀ g,r.ownBlock=some g→g ∈ A)) (fun i _=>n - (intOf i).toNat)
 case atStart=>exact⟨0,_,_,cs,0,_,Nat.zero_le _,rfl,smp_zeros,List.length_replicate,HPL2.out,HBo2.out,HBf.out,by rw[HRW0.out];exact OwI.nil_ _ _ _,Nat.le_refl _,by simp,by simp,fun g hg=>by simp[Value.ownBlock] at hg⟩
 case round=>
  obtain⟨k,A,V,cs',y,r,hk,rfl,hVs,hVl,hpl,hbo,hbf,hro,hsz,hA1,hA2,hA3⟩:=hrel
  have HV:=hide hVs;have HPL:=hide hpl;have HBO:=hide hbo;have HBF:=hide hbf;have HRO:=hide hro;have HA3:=hide hA3;clear hVs hpl hbo hbf hro hA3 kb lb
  have kb:=(HBK.out _ _ _ _ _ HPL.out).cell;have lb:=HPL.out.bk.lt
  have hwk:IntKind.i64.wrap ((k:Int)+1)=(k:Int)+1:=IntWalk.i64_in _ (by omega)
  obtain⟨rA,rl,rc,rfl⟩: ∃ A l c,r= .slice A l c:=by obtain⟨A,c,e,_⟩:=(OwI.rd HRO.out).open_;exact⟨A,_,c,e⟩
  by_cases hlt:k<n
  rotate_left
  ·
   obtain rfl:k=n:=by omega
   go_wp2
   go_ret
   exact⟨_,rfl,rd_row1 HBO.out (OwI.rd HRO.out),HPL.out.bel⟩
  have ei:=(HPL.out.bel.cell hbi).trans HE0.out;have li:bi<wr.heap.size:=lL hbi HPL.out.bel.size;have RAi:=hide (RdI.below RA.out HPL.out.bel)
  have kf:=HBF.out.cell;have ff:=HBF.out.free;have lf:=HBF.out.lt;have ko:=HBO.out.cell;have lo:=HBO.out.lt
  go_wp2
  refine wp_loop_rounds 2 ?_
  rw[rounds_succ]
  go_wp2_with (go_at_call 198;refine(c_at _ a (k:Int) _ (by omega) RAi.out).mono ?_;rintro e _ ⟨rfl,rfl⟩)
  rw[rounds_succ]
  go_wp2_with fail
  have hw0:w0.heap.size≤w.heap.size:=HPL0.out.bel.size
  have HPL3:=hide (HPL.out.setG hA1 (show w0.heap.size≤w1.heap.size by omega) (by omega) (by omega) (by omega) 0 (.int .i64 (wR a (k:Int))));have HBF3:=hide (show Bk (wr.setCell ⟨w1.heap.size,0,none⟩ (.int .i64 (wR a (k:Int)))) w1.heap.size 2 #[(.int .i64 (wR a (k:Int)))] from by have h:=HBF.out.set_ 0 (.int .i64 (wR a (k:Int)));simpa using h);have HBO3:=hide (HBO.out.far (p:=⟨w1.heap.size,0,none⟩) (show w.heap.size≠w1.heap.size by omega) (.int .i64 (wR a (k:Int))));have HRO3:=hide (HRO.out.far (p:=⟨w1.heap.size,0,none⟩) (fun q hq=>by have h:=(HRO.out.lt q hq).1;show q≠w1.heap.size;omega) (.int .i64 (wR a (k:Int))))
  have hs3:wr.heap.size=(wr.setCell ⟨w1.heap.size,0,none⟩ (.int .i64 (wR a (k:Int)))).heap.size:=by simp[World.setCell]
  rw[hs3] at hsz
  clear kb lb ei li RAi kf ff lf ko lo HPL HBF HBO HRO hs3
  generalize (wr.setCell ⟨w1.heap.size,0,none⟩ (.int .i64 (wR a (k:Int))))=w3 at *
  have HFR:=hide (show RdI w3 (.slice (some ⟨w1.heap.size,0,none⟩) 1 1) (frameF [a] k) from rdI_bk HBF3.out rfl (by simp[frameF]))
  refine(c_frame x w0 b bv bc A cv cc pv ordV _ V (frameF [a] k) (cellsAt x [a] k) cs' _ HPO.out (HCA.out k) (HFS.out k) (by rw[h1];rfl) HV.out hVl HRX.out HOR.out hcv hcc HPL3.out HFR.out (by simp[Value.ownBlock];omega) (by simp[Value.ownBlock];omega)).mono ?_;rintro e w4 ⟨rfl,cs4,hpl,htr⟩
  have HPL4:=hide hpl;have hs4:=htr.size;have HBF4:=hide (HBF3.out.trn htr (by simp;omega));have HBO4:=hide (HBO3.out.trn htr (by simp;omega));have HRO4:=hide (own_trnF HRO3.out htr (fun q hq=>by simp at hq;rcases hq with rfl|rfl<;>omega));clear hpl htr HPL3 HBF3 HBO3 HRO3 HFR
  have kb:=(HBK.out _ _ _ _ _ HPL4.out).cell;have lb:=HPL4.out.bk.lt
  go_wp2_with fail
  refine(c_outputs b x.zK (valsAt x [a] k) _ _ _ (by rw[length_valsAt];exact HOUT.out) (by rw[ho1];simp) (kb 3) (kb 5) (RdI.below R3.out HPL4.out.bel) (OwI.rd HPL4.out.vals)).mono ?_;rintro e w5 ⟨vr,rfl,ho5,hb⟩
  obtain⟨z,hz⟩: ∃ z,(valsAt x [a] k).getD o1.toNat 0=z:=⟨_,rfl⟩
  have HML:=hide (show (x.zK.map fun i=>(valsAt x [a] k).getD i.toNat 0)= [z] by rw[ho1,←hz];rfl)
  rw[HML.out] at ho5
  have HRK:=hide (show rowF x a (k+1)=rowF x a k++ [z] by rw[HROW.out k,HD0.out,hz]);clear hz
  obtain⟨b9,o9,c9,rfl,hc9,hm9,hb9,hx9⟩:=xO (OwI.rd ho5) (by simp)
  have e9:=hx9 0 z rfl;rw[Nat.add_zero] at e9
  have HPL5:=hide (HPL4.out.below hb);have HBF5:=hide (HBF4.out.below hb HBF4.out.lt);have HBO5:=hide (HBO4.out.below hb HBO4.out.lt);have HRO5:=hide (wO HRO4.out hb);have hs5:=hb.size;clear hb ho5 hx9 kb lb HPL4 HBF4 HBO4 HRO4
  have kb:=(HBK.out _ _ _ _ _ HPL5.out).cell;have lb:=HPL5.out.bk.lt;have ko:=HBO5.out.cell;have lo:=HBO5.out.lt
  have hlen:(rowF x a k).length+1≤17592186044416:=by rw[uV];omega
  have hsz5:w2.heap.size≤w5.heap.size:=by omega
  go_wp2
  refine wp_loop_rounds 2 ?_
  rw[rounds_succ]
  go_wp2_with (at_builtin;refine uQ (n:=z) rfl _ _ rfl rfl HRO5.out rfl hlen hsz5 ?_;intro v8 w8 ho8 hg8 hv8;obtain⟨A8,l8,c8,rfl⟩: ∃ A l c,v8= .slice A l c:=(by obtain⟨A,c,e,_⟩:=(OwI.rd ho8).open_;exact⟨A,_,c,e⟩);have HO8:=hide ho8;have HG8:=hide hg8;have HV8:=hide hv8;have HBO8:=hide (HBO5.out.grown hg8 (fun e=>by have h:=(HRO5.out.lt _ e.symm).1;omega));have ko8:=HBO8.out.cell;have fo8:=HBO8.out.free;have lo8:=HBO8.out.lt;clear ho8 hg8 hv8)
  rw[rounds_succ]
  go_wp2
  have HPL8:=hide (HPL5.out.grow HG8.out (v':= .slice A8 l8 c8) (fun g hg=>⟨HA3.out g hg,by have h:=(HRO5.out.lt g hg).1;omega,by have h:=(HRO5.out.lt g hg).1;omega,by have h:=(HRO5.out.lt g hg).1;omega,by have h:=(HRO5.out.lt g hg).1;omega⟩) (fun g hg=>⟨HV8.out g hg,(HO8.out.lt g hg).2⟩))
  have HBF8:=hide (HBF5.out.grown HG8.out (fun e=>by have h:=(HRO5.out.lt _ e.symm).1;omega))
  have HPL9:=hide (HPL8.out.setG (g:=w.heap.size) (List.mem_append_right _ hA2) hw0 (by omega) (by omega) (by omega) 0 (.slice A8 l8 c8))
  have hs8:=HG8.out.size
  go_roundw
  case rel=>exact⟨k+1,_,_,cs4,wR a (k:Int),.slice A8 l8 c8,by omega,by go_num,HVS.out k,length_valsAt _ _ _,HPL9.out,by have h:=HBO8.out.set_ 0 (.slice A8 l8 c8);simpa using h,HBF8.out.far (p:=⟨w.heap.size,0,none⟩) (show w1.heap.size≠w.heap.size by omega) _,by rw[HRK.out];exact HO8.out.far (fun q hq=>by have h:=(HO8.out.lt q hq).1;show q≠w.heap.size;omega) _,by simp[World.setCell];omega,List.mem_append_right _ hA1,List.mem_append_right _ hA2,fun g hg=>List.mem_append_left _ (by rw[hg];simp)⟩
  case measure=>simp[intOf];omega
theorem startSt_len {x:xJ} {n:Int} (h:NodeOk x n):(wD x).length≤16:=by
 unfold wD
 split
 ·next e=>have:=node_h6 h e;rw[List.length_replicate];omega
 split
 ·next e=>have:=node_h17 h e;rw[List.length_replicate];omega
 split
 ·simp
 split
 ·simp
 ·simp
theorem start_sm {x:xG} (h:FormedOk x):smL (fun l:List Int=>l.length≤1048576) (x.zB.map wD):=
 ⟨by rw[List.length_map];have:=h.few;omega,fun l hl=>by
  obtain⟨y,hy,rfl⟩:=List.mem_map.1 hl
  obtain⟨i,hi⟩:=List.mem_iff_getElem?.1 hy
  have:=startSt_len (h.nodes i y hi).1
  omega⟩
theorem c_render (x:xG) (cs:List Value) (a:List Int) (vin:Value) (n:Nat) (w:World) (hP:wZ x) (h1:x.zJ=1) (h2:x.zK.length=1) (hA: ∀ y ∈ a,Smp y) (hn:n≤1048576) (hr:T.rds w x.fs cs) (hin:T.rd w (T.sl 26 1 ([a].map (T.ints 2))) [vin]):
  Calls Tryz.prog 197 #[.agg cs.toArray,vin,.int .i64 (n:Int)] w fun e w'=> ∃ v,e= .returned v∧T.rd w' (T.sl 26 1 ([rowF x a n].map (T.ints 2))) [v]∧Below w.heap.size w w':=by
 have HPO:=hide hP;have HRX:=hide hr;have HIN:=hide hin;have HAA:=hide hA;have hnn:=hn;have HI1:=hide h1;have HI2:=hide h2;clear hin hA h1 h2 hn
 have hO:=hP.formed.outputs;obtain⟨o1,ho1⟩:=len1 HI2.out;rw[ho1] at hO;have hO1:=hO 0 o1 rfl;clear hO
 have hN0:0<x.zB.length:=by omega
 have HFW:=hide (show Each x.zB fun _ y=>Idx y.zH (x.zB.length:Int) from fun i y hy=>(hP.formed.nodes i y hy).2.1);have hn24:=hP.formed.few;have HFO:=hide hP.formed;clear hP ho1 hO1
 obtain⟨v1,v2,v3,rfl,h1,h2,h3⟩:=xG.yO hr
 clear hr
 have R1:=hide h1;obtain⟨va1,vc1,rfl,vl1,vm1,vx1⟩:=T.yN h1
 have HX1:=hide vx1;clear vx1 h1
 have R2:=hide h2;obtain⟨va2,vc2,rfl,vl2,vm2,vx2⟩:=T.yN h2
 have HX2:=hide vx2;clear vx2 h2
 have h3i:=T.yT.1 h3;obtain⟨va3,vc3,rfl,vl3,vm3,vx3⟩:=h3i.open_
 have R3:=hide h3i;have HX3:=hide vx3;clear vx3 h3 h3i
 obtain⟨IA,il,ic,rfl⟩:=T.yV HIN.out
 have HK0:=hide (Bk.born w 108 #[.int .i64 x.zJ,.slice va1 x.zN.length vc1,.slice va2 x.zB.length vc2,.slice va3 x.zK.length vc3]);have HBa:=hide (show Below w.heap.size w (w.alloc (.cells #[.int .i64 x.zJ,.slice va1 x.zN.length vc1,.slice va2 x.zB.length vc2,.slice va3 x.zK.length vc3] 108)) from(Below.refl w.heap.size w).alloc (Nat.le_refl _) _)
 go_enter Tryz.func197,Tryz.ntmps197
 go_wp2
 generalize hW2:(w.alloc (.cells #[.int .i64 x.zJ,.slice va1 x.zN.length vc1,.slice va2 x.zB.length vc2,.slice va3 x.zK.length vc3] 108))=W2 at *;clear hW2
 have HDr:=hide ((Below.refl W2.heap.size W2).drew)
 have HKP:=hide (fun(w':World) (hw:Below W2.heap.size W2 w')=>((HK0.out.below hw HK0.out.lt).cell:(∀ i,w'.cell? ⟨w.heap.size,i,none⟩= #[.int .i64 x.zJ,.slice va1 x.zN.length vc1,.slice va2 x.zB.length vc2,.slice va3 x.zK.length vc3][i]?)))
 refine wE (fun w'=>(∀ i,w'.cell? ⟨w.heap.size,i,none⟩= #[.int .i64 x.zJ,.slice va1 x.zN.length vc1,.slice va2 x.zB.length vc2,.slice va3 x.zK.length vc3][i]?)) [] (by kernel_rfl) ?_ (fun hS0=>?_)
 ·exact HKP.out _ HDr.out
 generalize hwd:W2.drew=wd at *;clear hwd
 have HBd:=hide (yJ HBa.out HBa.out.size HDr.out)
 refine tN 0 hS0 ?_
 refine tN 1 hS0 ?_
 refine tN 4 hS0 ?_
 refine tN 5 hS0 ?_
 refine oN 2 (fun K hK=>?_)
 go_simp
 go_wp2_with (go_at_call 244;refine(c_startState x _ _ HFO.out (T.rds_below HRX.out HBd.out)).mono ?_;rintro e w3 ⟨vs,F3,rfl,ho,hb⟩)
 have HO3:=hide (T.ow_rd _ _ _ ho.ow);have HD3:=hide (yJ HDr.out HDr.out.size hb);have HB3:=hide (yJ HBd.out HBd.out.size hb);clear ho hb
 refine uN hK ?_ (fun hS1=>?_)
 ·exact HKP.out _ HD3.out
 clear hK K hS0
 try simp only[Act.put,List.setIfInBounds_toArray,List.set_cons_zero,List.set_cons_succ]
 refine oN 3 (fun K hK=>?_)
 go_simp
 go_wp2_with (go_at_call 243;refine(c_playerOf x _ (x.zB.map wD) _ _ hN0 hn24 HFW.out (by rw[List.length_map]) (start_sm HFO.out) (T.rds_below HRX.out HB3.out) HO3.out).mono ?_;rintro e w4 ⟨b,rfl,w0,bv,bc,cv,cc,pv,ordV,ca,hr,ho,hcv,hcc,hpl,hb⟩)
 have HR4:=hide hr;have HO4:=hide ho;have HP4:=hide hpl;have HB0:=hide hb;have HD4:=hide (yJ HD3.out HD3.out.size (yJ hb hb.size hpl.bel));have HW0:=hide (yJ HB3.out HB3.out.size hb);clear hr ho hpl hb
 refine uN hK ?_ (fun hS2=>?_)
 ·exact HKP.out _ HD4.out
 clear hK K hS1
 try simp only[Act.put,List.setIfInBounds_toArray,List.set_cons_zero,List.set_cons_succ]
 refine oN 6 (fun K hK=>?_)
 go_simp
 go_wp2_with (go_at_call 245;refine(c_block x w0 b bv bc cv cc pv ordV _ ca a n _ HPO.out HI1.out HI2.out HAA.out hnn HR4.out HO4.out hcv hcc (T.yF HIN.out HW0.out) HP4.out).mono ?_;rintro e w5 ⟨vr,rfl,hr,hb⟩)
 have HR5:=hide hr;have HD5:=hide (yJ HD3.out HD3.out.size (yJ HB0.out HB0.out.size hb));have HW5:=hide (yJ HW0.out HW0.out.size hb);clear hr hb
 refine uN hK ?_ (fun hS3=>?_)
 ·exact HKP.out _ HD5.out
 clear hK K hS2
 try simp only[Act.put,List.setIfInBounds_toArray,List.set_cons_zero,List.set_cons_succ]
 refine oN 7 (fun K hK=>?_)
 go_simp
 refine uN hK ?_ (fun hS4=>?_)
 ·exact HKP.out _ HD5.out
 clear hK K hS3
 refine xY (by kernel_rfl) ?_
 clear hS4
 go_wp2
 go_ret
 exact⟨_,rfl,HR5.out,HW5.out⟩
end
end Go.Proofs.YtoibekfhepnedaaGreat
