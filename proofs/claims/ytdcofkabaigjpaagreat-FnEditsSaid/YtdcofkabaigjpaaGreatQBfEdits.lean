/- Contract: the program's InvertEdit. The law Undone. Plain: a valid session's numbers are all in range; the length of its mix. -/
import Derived.Test.YtdcofkabaigjpaaGreatQBcEdits
import Derived.Test.YtdcofkabaigjpaaGreatQBeEdits
set_option linter.unusedVariables false
set_option linter.unusedSimpArgs false
set_option maxHeartbeats 8000000
set_option maxRecDepth 100000
namespace Go.Proofs.YtdcofkabaigjpaaGreat
section
open Go.RowKit
def noEdit:wV:=⟨0,0,0,0,yXz⟩
noncomputable def invF (s:xO) (e:wV):wV × Int:=if (wQ s e).2=0 then (uI s e,0) else (noEdit,(wQ s e).2)
def wV.cs (x:wV):Array Value:= #[.int .i64 x.zD,.int .i64 x.yD,.int .i64 x.yG,.int .i64 x.yF,.int .i64 x.yC.zV,.int .i64 x.yC.zO,.int .i64 x.yC.zB,.int .i64 x.yC.yE,.int .i64 x.yC.yB]
theorem c_iInvertEdit (x:xO) (cs:List Value) (ed:wV) (w:World) (hs:x.small) (h:T.rds w x.fs cs):Calls Tryz.prog 8 #[.agg cs.toArray,.agg #[.int .i64 ed.zD,.int .i64 ed.yD,.int .i64 ed.yG,.int .i64 ed.yF,.int .i64 ed.yC.zV,.int .i64 ed.yC.zO,.int .i64 ed.yC.zB,.int .i64 ed.yC.yE,.int .i64 ed.yC.yB]] w fun e w'=>e= .returned (.tuple #[.agg (invF x ed).1.cs,.int .i64 (invF x ed).2])∧Below w.heap.size w w':=by
 obtain⟨ek,et,ec,ev,ns,nf,nl,na,ng⟩:=ed;dsimp only;obtain⟨v1,v2,v3,v4,v5,rfl,h1,h2,h3,h4,h5⟩:=xO.yT h;clear h;obtain⟨va1,vc1,rfl,vl1,vm1,R1,HX1⟩:=oG h1;clear h1;obtain⟨va2,vc2,rfl,vl2,vm2,R2,HX2⟩:=oG h2;clear h2;obtain⟨va3,vc3,rfl,vl3,vm3,R3,HX3⟩:=oI h3;clear h3;obtain⟨va4,vc4,rfl,vl4,vm4,R4,HX4⟩:=oG h4;clear h4;obtain⟨va5,vc5,rfl,vl5,vm5,R5,HX5⟩:=oG h5;clear h5;obtain⟨HB0,HK0⟩:=aK w 32 #[.int .i64 x.zB,(.slice va1 x.zI.length vc1),(.slice va2 x.zG.length vc2),(.slice va3 x.zL.length vc3),(.slice va4 x.zK.length vc4),(.slice va5 x.zH.zC.length vc5)];have HSM:=xN hs;clear hs;have GX:=xN (show ∀ w',Below w.heap.size w w'→T.rds w' x.fs [.int .i64 x.zB,(.slice va1 x.zI.length vc1),(.slice va2 x.zG.length vc2),(.slice va3 x.zL.length vc3),(.slice va4 x.zK.length vc4),(.slice va5 x.zH.zC.length vc5)] from fun w' hb=>xO.rd_mk (T.yJ R1.o hb) (T.yJ R2.o hb) (T.xB.2 (Rd.below R3.o hb)) (T.yJ R4.o hb) (T.yJ R5.o hb));have IA:=xN (fun(W:World) (hb:Below w.heap.size w W)=>wVz x _ ⟨ek,et,ec,ev,⟨ns,nf,nl,na,ng⟩⟩ W HSM.o (GX.o W hb));have OK:=xN (@xIz x ⟨ek,et,ec,ev,⟨ns,nf,nl,na,ng⟩⟩);have HI:=xN (show invF x ⟨ek,et,ec,ev,⟨ns,nf,nl,na,ng⟩⟩=if (wQ x ⟨ek,et,ec,ev,⟨ns,nf,nl,na,ng⟩⟩).2=0 then (uI x ⟨ek,et,ec,ev,⟨ns,nf,nl,na,ng⟩⟩,0) else (noEdit,(wQ x ⟨ek,et,ec,ev,⟨ns,nf,nl,na,ng⟩⟩).2) from rfl);have HBa:=xN ((HB0.o.alloc (by simp) (.cells #[.int .i64 ek,.int .i64 et,.int .i64 ec,.int .i64 ev,.int .i64 ns,.int .i64 nf,.int .i64 nl,.int .i64 na,.int .i64 ng] 41)).alloc (by simp;omega) (.cells #[.int .i64 0,.int .i64 0,.int .i64 0,.int .i64 0,.int .i64 0,.int .i64 0,.int .i64 0,.int .i64 0,.int .i64 0] 41));have HP:=xN ((HK0.o.alloc (.cells #[.int .i64 ek,.int .i64 et,.int .i64 ec,.int .i64 ev,.int .i64 ns,.int .i64 nf,.int .i64 nl,.int .i64 na,.int .i64 ng] 41)).alloc (.cells #[.int .i64 0,.int .i64 0,.int .i64 0,.int .i64 0,.int .i64 0,.int .i64 0,.int .i64 0,.int .i64 0,.int .i64 0] 41));have HE:=xN ((Bk.born1' w (.cells #[.int .i64 x.zB,(.slice va1 x.zI.length vc1),(.slice va2 x.zG.length vc2),(.slice va3 x.zL.length vc3),(.slice va4 x.zK.length vc4),(.slice va5 x.zH.zC.length vc5)] 32) 41 #[.int .i64 ek,.int .i64 et,.int .i64 ec,.int .i64 ev,.int .i64 ns,.int .i64 nf,.int .i64 nl,.int .i64 na,.int .i64 ng]).alloc (.cells #[.int .i64 0,.int .i64 0,.int .i64 0,.int .i64 0,.int .i64 0,.int .i64 0,.int .i64 0,.int .i64 0,.int .i64 0] 41));have HR:Sec (Bk _ (w.heap.size+1+1) 41 #[.int .i64 0,.int .i64 0,.int .i64 0,.int .i64 0,.int .i64 0,.int .i64 0,.int .i64 0,.int .i64 0,.int .i64 0]):=xN (Bk.born2 w (.cells #[.int .i64 x.zB,(.slice va1 x.zI.length vc1),(.slice va2 x.zG.length vc2),(.slice va3 x.zL.length vc3),(.slice va4 x.zK.length vc4),(.slice va5 x.zH.zC.length vc5)] 32) (.cells #[.int .i64 ek,.int .i64 et,.int .i64 ec,.int .i64 ev,.int .i64 ns,.int .i64 nf,.int .i64 nl,.int .i64 na,.int .i64 ng] 41) 41 #[.int .i64 0,.int .i64 0,.int .i64 0,.int .i64 0,.int .i64 0,.int .i64 0,.int .i64 0,.int .i64 0,.int .i64 0]);clear HB0 HK0;obtain⟨W,hW⟩: ∃ W',W'=(((w.alloc (.cells #[.int .i64 x.zB,(.slice va1 x.zI.length vc1),(.slice va2 x.zG.length vc2),(.slice va3 x.zL.length vc3),(.slice va4 x.zK.length vc4),(.slice va5 x.zH.zC.length vc5)] 32)).alloc (.cells #[.int .i64 ek,.int .i64 et,.int .i64 ec,.int .i64 ev,.int .i64 ns,.int .i64 nf,.int .i64 nl,.int .i64 na,.int .i64 ng] 41)).alloc (.cells #[.int .i64 0,.int .i64 0,.int .i64 0,.int .i64 0,.int .i64 0,.int .i64 0,.int .i64 0,.int .i64 0,.int .i64 0] 41)):=⟨_,rfl⟩;rw[←hW] at HBa HP HE HR;have HW:=xN hW;clear hW;generalize hIV:invF x ⟨ek,et,ec,ev,⟨ns,nf,nl,na,ng⟩⟩=IV at *;clear hIV
 go_enter Tryz.func8,Tryz.ntmps8
 have HB:=HBa;clear HBa;go_wp2_with fail
 rw[←HW.o];refine(IA.o _ HB.o).mono ?_;rintro e wA ⟨v1,v2,v3,v4,v5,F,rfl,hN⟩;obtain⟨⟨A1,L1,C1,rfl⟩,⟨A2,L2,C2,rfl⟩,⟨A3,L3,C3,rfl⟩,⟨A4,L4,C4,rfl⟩,⟨A5,L5,C5,rfl⟩⟩:=xO.sl5 (T.ows_rds _ _ _ hN.ows);have hb:=hN.below;clear hN;have HB1:=xN (yO HB.o HB.o.size hb);have HP1:=xN (HP.o.below hb HP.o.lt);have HE1:=xN (HE.o.below hb HE.o.lt);have HR1:=xN (HR.o.below hb HR.o.lt);clear hb HB HP HE HR;have ke:=HE1.o.cell;have kp:=HP1.o.cell;have kr:=HR1.o.cell;have fr:=HR1.o.free;have lr:=HR1.o.lt;generalize hAF:wQ x ⟨ek,et,ec,ev,⟨ns,nf,nl,na,ng⟩⟩=AF at *;clear hAF;have hwa:=HB1.o.size;have lr2:w.heap.size+1+1<wA.heap.size+1:=by omega
 by_cases hc:AF.2=0
 rotate_left
 ·
  have q0:(AF.2 != 0)=true:=ySz hc;have HA:=xN (HI.o.trans (if_neg hc));clear hc;go_wp2;refine bodyPost_ret (v:= .tuple #[.agg #[.int .i64 0,.int .i64 0,.int .i64 0,.int .i64 0,.int .i64 0,.int .i64 0,.int .i64 0,.int .i64 0,.int .i64 0],.int .i64 AF.2]) (by simp[results,Tryz.results8,go_sem,kr,fr,lr,lr2]) rfl ?_;rw[HA.o];have hb:=HB1.o;exact⟨rfl,ba⟩
 have q0:(AF.2 != 0)=false:=yTz hc;have HA:=xN (HI.o.trans (if_pos hc));obtain⟨hv,hf,hr,-,-,-⟩:=OK.o hc;have HV:=xN hv;have HF:=xN hf;have HRG:=xN hr;clear hc hv hf hr;have le:=HE1.o.lt;have lp:=HP1.o.lt;by_cases k1:ek=1
 ·
  have q1:(ek == 1)=true:=xA k1;have HK1:=xN k1;clear k1;go_wp2;refine bodyPost_ret (v:= .tuple #[.agg #[.int .i64 2,.int .i64 et,.int .i64 ec,.int .i64 ev,.int .i64 0,.int .i64 0,.int .i64 0,.int .i64 0,.int .i64 0],.int .i64 0]) (by simp[results,Tryz.results8,go_sem,kr,fr,lr,lr2]) rfl ?_;have hb:=HB1.o;refine⟨?_,ba⟩;rw[HA.o];unfold uI;rw[if_pos HK1.o];rfl
 have q1:(ek == 1)=false:=yZ k1;have le2:w.heap.size+1<wA.heap.size+1:=by omega
 have lp2:w.heap.size<wA.heap.size+1:=by omega
 have KN1:=xN k1;by_cases k2:ek=2
 ·
  have q2:(ek == 2)=true:=xA k2;have HK2:=xN k2;have k5:(⟨ek,et,ec,ev,⟨ns,nf,nl,na,ng⟩⟩:wV).zD≠5:=by show ek≠5;omega
  obtain⟨k,t,hk,ht⟩:=vV HRG.o k5;obtain rfl:et=(k:Int):=hk;have hlt:k<x.zG.length:=(List.getElem?_eq_some_iff.1 ht).1;have hr:=HRG.o;unfold xZ at hr;rw[if_neg k5] at hr;have hr:=hr.2;dsimp only at hr;rw[wU ht] at hr
  have hj:0≤ec∧ec≤(t.zS.length:Int) - 1:=by
   rw[if_neg zM,if_neg zM,if_pos zM] at hr;exact xK.1 hr
  obtain⟨j,rfl⟩: ∃ j:Nat,ec=(j:Int):=⟨ec.toNat,by omega⟩;have hjl:j<t.zS.length:=by omega
  have hgj:=gE hjl;generalize t.zS[j]=c at hgj;have hca:uS x ⟨ek,(k:Int),(j:Int),ev,⟨ns,nf,nl,na,ng⟩⟩=c:=by unfold uS;dsimp only;rw[wU ht,Int.toNat_natCast,List.getD_eq_getElem?_getD,hgj];rfl
  have HCA:=xN hca;clear hca hr;obtain⟨b,off,cs1,hA,hb1,hcs,hcell⟩:=HX2.o k t ht;subst hA;have HBr:=xN (Below.refl w.heap.size w);obtain⟨u0,rfl,hRY0⟩:=xS.yT (show T.rds _ _ _ by simpa only[xS.t,T.rd] using hcs);have d0:=oc1 HBr.o hb1 hcell;have RY0:=xN (T.yJ hRY0 HBr.o);clear hRY0;clear hcs hcell;obtain⟨ua0,uc0,rfl,ul0,um0,ux0⟩:=T.yS RY0.o;obtain⟨b2,of2,cs2,hA2,hb2,hcs2,hcell2⟩:=ux0 j c hgj;subst hA2;obtain rfl:=xU.yT (show T.rds _ _ _ by simpa only[xU.t,T.rd] using hcs2);obtain⟨e0,e1,e2,e3,e4⟩:=oc5 HBr.o hb2 hcell2;clear hcs2 hcell2;clear ux0 HBr;have hi0:(0:Int)≤(k:Int):=by omega
  have hi1:(k:Int)<(x.zG.length:Int):=by omega
  have hi2:(0:Int)≤(j:Int):=by omega
  have hi3:(j:Int)<(t.zS.length:Int):=by omega
  have HBX:=xN ((HB1.o.alloc HB1.o.size (.cells #[.int .i64 AF.1.zB,.slice A1 L1 C1,.slice A2 L2 C2,.slice A3 L3 C3,.slice A4 L4 C4,.slice A5 L5 C5] 32)).alloc (Nat.le_trans HB1.o.size (by simp)) (.cells #[.int .i64 ek,.int .i64 (k:Int),.int .i64 (j:Int),.int .i64 ev,.int .i64 ns,.int .i64 nf,.int .i64 nl,.int .i64 na,.int .i64 ng] 41));clear k2;go_wp2;have m0:=(HBX.o.cell hb1).trans d0;have m1:=(HBX.o.cell hb2).trans e0;have m2:=(HBX.o.cell hb2).trans e1;have m3:=(HBX.o.cell hb2).trans e2;have m4:=(HBX.o.cell hb2).trans e3;have m5:=(HBX.o.cell hb2).trans e4;have hpx:=((HP1.o.alloc (.cells #[.int .i64 AF.1.zB,.slice A1 L1 C1,.slice A2 L2 C2,.slice A3 L3 C3,.slice A4 L4 C4,.slice A5 L5 C5] 32)).alloc (.cells #[.int .i64 ek,.int .i64 (k:Int),.int .i64 (j:Int),.int .i64 ev,.int .i64 ns,.int .i64 nf,.int .i64 nl,.int .i64 na,.int .i64 ng] 41)).cell;have hex:=((HE1.o.alloc (.cells #[.int .i64 AF.1.zB,.slice A1 L1 C1,.slice A2 L2 C2,.slice A3 L3 C3,.slice A4 L4 C4,.slice A5 L5 C5] 32)).alloc (.cells #[.int .i64 ek,.int .i64 (k:Int),.int .i64 (j:Int),.int .i64 ev,.int .i64 ns,.int .i64 nf,.int .i64 nl,.int .i64 na,.int .i64 ng] 41)).cell;have HCC:=xN (Bk.born1' wA (.cells #[.int .i64 AF.1.zB,.slice A1 L1 C1,.slice A2 L2 C2,.slice A3 L3 C3,.slice A4 L4 C4,.slice A5 L5 C5] 32) 41 #[.int .i64 ek,.int .i64 (k:Int),.int .i64 (j:Int),.int .i64 ev,.int .i64 ns,.int .i64 nf,.int .i64 nl,.int .i64 na,.int .i64 ng]);have HPX:=xN ((HP1.o.alloc (.cells #[.int .i64 AF.1.zB,.slice A1 L1 C1,.slice A2 L2 C2,.slice A3 L3 C3,.slice A4 L4 C4,.slice A5 L5 C5] 32)).alloc (.cells #[.int .i64 ek,.int .i64 (k:Int),.int .i64 (j:Int),.int .i64 ev,.int .i64 ns,.int .i64 nf,.int .i64 nl,.int .i64 na,.int .i64 ng] 41));have HEX:=xN ((HE1.o.alloc (.cells #[.int .i64 AF.1.zB,.slice A1 L1 C1,.slice A2 L2 C2,.slice A3 L3 C3,.slice A4 L4 C4,.slice A5 L5 C5] 32)).alloc (.cells #[.int .i64 ek,.int .i64 (k:Int),.int .i64 (j:Int),.int .i64 ev,.int .i64 ns,.int .i64 nf,.int .i64 nl,.int .i64 na,.int .i64 ng] 41));have HRX:=xN ((HR1.o.alloc (.cells #[.int .i64 AF.1.zB,.slice A1 L1 C1,.slice A2 L2 C2,.slice A3 L3 C3,.slice A4 L4 C4,.slice A5 L5 C5] 32)).alloc (.cells #[.int .i64 ek,.int .i64 (k:Int),.int .i64 (j:Int),.int .i64 ev,.int .i64 ns,.int .i64 nf,.int .i64 nl,.int .i64 na,.int .i64 ng] 41));clear kr fr lr;generalize hW4:((wA.alloc (.cells #[.int .i64 AF.1.zB,.slice A1 L1 C1,.slice A2 L2 C2,.slice A3 L3 C3,.slice A4 L4 C4,.slice A5 L5 C5] 32)).alloc (.cells #[.int .i64 ek,.int .i64 (k:Int),.int .i64 (j:Int),.int .i64 ev,.int .i64 ns,.int .i64 nf,.int .i64 nl,.int .i64 na,.int .i64 ng] 41))=W4 at *;clear hW4;have kcc:=HCC.o.cell;have fcc:=HCC.o.free;have lcc:=HCC.o.lt;have kr:=HRX.o.cell;have fr:=HRX.o.free;have lr:=HRX.o.lt;have nb1: ¬ wA.heap.size+1=b:=by omega
  have nb2: ¬ wA.heap.size+1=b2:=by omega
  have nb1': ¬ b=wA.heap.size+1:=by omega
  have nb2': ¬ b2=wA.heap.size+1:=by omega
  have nb5: ¬ wA.heap.size+1=w.heap.size:=by omega
  have nb6: ¬ wA.heap.size+1=w.heap.size+1:=by omega
  have nb7: ¬ w.heap.size=wA.heap.size+1:=by omega
  have nb8: ¬ w.heap.size+1=wA.heap.size+1:=by omega
  have nb9: ¬ w.heap.size+1+1=wA.heap.size+1:=by omega
  have nb10: ¬ wA.heap.size+1=w.heap.size+1+1:=by omega
  have kk:(fun w'=>(∀ i,w'.cell? ⟨w.heap.size,i,none⟩= #[.int .i64 x.zB,(.slice va1 x.zI.length vc1),(.slice (some ⟨b,off,none⟩) x.zG.length vc2),(.slice va3 x.zL.length vc3),(.slice va4 x.zK.length vc4),(.slice va5 x.zH.zC.length vc5)][i]?)∧(∀ i,w'.cell? ⟨w.heap.size+1,i,none⟩= #[.int .i64 ek,.int .i64 (k:Int),.int .i64 (j:Int),.int .i64 ev,.int .i64 ns,.int .i64 nf,.int .i64 nl,.int .i64 na,.int .i64 ng][i]?)∧w'.cell? ⟨b,off+k,none⟩=some (.slice (some ⟨b2,of2,none⟩) t.zS.length uc0)∧w'.cell? ⟨b2,of2+j * 5,none⟩=some (.int .i64 c.zV)∧w'.cell? ⟨b2,of2+j * 5+1,none⟩=some (.int .i64 c.zO)∧w'.cell? ⟨b2,of2+j * 5+2,none⟩=some (.int .i64 c.zB)∧w'.cell? ⟨b2,of2+j * 5+3,none⟩=some (.int .i64 c.yE)∧w'.cell? ⟨b2,of2+j * 5+4,none⟩=some (.int .i64 c.yB)) W4:=⟨HPX.o.cell,HEX.o.cell,m0,m1,m2,m3,m4,m5⟩
  go_region_held3 (fun w'=>(∀ i,w'.cell? ⟨w.heap.size,i,none⟩= #[.int .i64 x.zB,(.slice va1 x.zI.length vc1),(.slice (some ⟨b,off,none⟩) x.zG.length vc2),(.slice va3 x.zL.length vc3),(.slice va4 x.zK.length vc4),(.slice va5 x.zH.zC.length vc5)][i]?)∧(∀ i,w'.cell? ⟨w.heap.size+1,i,none⟩= #[.int .i64 ek,.int .i64 (k:Int),.int .i64 (j:Int),.int .i64 ev,.int .i64 ns,.int .i64 nf,.int .i64 nl,.int .i64 na,.int .i64 ng][i]?)∧w'.cell? ⟨b,off+k,none⟩=some (.slice (some ⟨b2,of2,none⟩) t.zS.length uc0)∧w'.cell? ⟨b2,of2+j * 5,none⟩=some (.int .i64 c.zV)∧w'.cell? ⟨b2,of2+j * 5+1,none⟩=some (.int .i64 c.zO)∧w'.cell? ⟨b2,of2+j * 5+2,none⟩=some (.int .i64 c.zB)∧w'.cell? ⟨b2,of2+j * 5+3,none⟩=some (.int .i64 c.yE)∧w'.cell? ⟨b2,of2+j * 5+4,none⟩=some (.int .i64 c.yB)) ((((try simp only[World.cell?_drew]));first|with_reducible exact⟨HPX.o.cell,HEX.o.cell,m0,m1,m2,m3,m4,m5⟩|with_reducible exact⟨(HPX.o.far (p:=⟨wA.heap.size+1,0,none⟩) nb7 _).cell,(HEX.o.far (p:=⟨wA.heap.size+1,0,none⟩) nb8 _).cell,(World.cell?_setCell_far _ _ _ _ nb1).trans m0,(World.cell?_setCell_far _ _ _ _ nb2).trans m1,(World.cell?_setCell_far _ _ _ _ nb2).trans m2,(World.cell?_setCell_far _ _ _ _ nb2).trans m3,(World.cell?_setCell_far _ _ _ _ nb2).trans m4,(World.cell?_setCell_far _ _ _ _ nb2).trans m5⟩|with_reducible exact⟨((((((HPX.o.far (p:=⟨wA.heap.size+1,0,none⟩) nb7 (.int .i64 1)).far (p:=⟨wA.heap.size+1,4,none⟩) nb7 (.int .i64 c.zV)).far (p:=⟨wA.heap.size+1,5,none⟩) nb7 (.int .i64 c.zO)).far (p:=⟨wA.heap.size+1,6,none⟩) nb7 (.int .i64 c.zB)).far (p:=⟨wA.heap.size+1,7,none⟩) nb7 (.int .i64 c.yE)).far (p:=⟨wA.heap.size+1,8,none⟩) nb7 (.int .i64 c.yB)).cell,((((((HEX.o.far (p:=⟨wA.heap.size+1,0,none⟩) nb8 (.int .i64 1)).far (p:=⟨wA.heap.size+1,4,none⟩) nb8 (.int .i64 c.zV)).far (p:=⟨wA.heap.size+1,5,none⟩) nb8 (.int .i64 c.zO)).far (p:=⟨wA.heap.size+1,6,none⟩) nb8 (.int .i64 c.zB)).far (p:=⟨wA.heap.size+1,7,none⟩) nb8 (.int .i64 c.yE)).far (p:=⟨wA.heap.size+1,8,none⟩) nb8 (.int .i64 c.yB)).cell,(World.cell?_setCell_far _ _ _ _ nb1).trans ((World.cell?_setCell_far _ _ _ _ nb1).trans ((World.cell?_setCell_far _ _ _ _ nb1).trans ((World.cell?_setCell_far _ _ _ _ nb1).trans ((World.cell?_setCell_far _ _ _ _ nb1).trans ((World.cell?_setCell_far _ _ _ _ nb1).trans (m0)))))),(World.cell?_setCell_far _ _ _ _ nb2).trans ((World.cell?_setCell_far _ _ _ _ nb2).trans ((World.cell?_setCell_far _ _ _ _ nb2).trans ((World.cell?_setCell_far _ _ _ _ nb2).trans ((World.cell?_setCell_far _ _ _ _ nb2).trans ((World.cell?_setCell_far _ _ _ _ nb2).trans (m1)))))),(World.cell?_setCell_far _ _ _ _ nb2).trans ((World.cell?_setCell_far _ _ _ _ nb2).trans ((World.cell?_setCell_far _ _ _ _ nb2).trans ((World.cell?_setCell_far _ _ _ _ nb2).trans ((World.cell?_setCell_far _ _ _ _ nb2).trans ((World.cell?_setCell_far _ _ _ _ nb2).trans (m2)))))),(World.cell?_setCell_far _ _ _ _ nb2).trans ((World.cell?_setCell_far _ _ _ _ nb2).trans ((World.cell?_setCell_far _ _ _ _ nb2).trans ((World.cell?_setCell_far _ _ _ _ nb2).trans ((World.cell?_setCell_far _ _ _ _ nb2).trans ((World.cell?_setCell_far _ _ _ _ nb2).trans (m3)))))),(World.cell?_setCell_far _ _ _ _ nb2).trans ((World.cell?_setCell_far _ _ _ _ nb2).trans ((World.cell?_setCell_far _ _ _ _ nb2).trans ((World.cell?_setCell_far _ _ _ _ nb2).trans ((World.cell?_setCell_far _ _ _ _ nb2).trans ((World.cell?_setCell_far _ _ _ _ nb2).trans (m4)))))),(World.cell?_setCell_far _ _ _ _ nb2).trans ((World.cell?_setCell_far _ _ _ _ nb2).trans ((World.cell?_setCell_far _ _ _ _ nb2).trans ((World.cell?_setCell_far _ _ _ _ nb2).trans ((World.cell?_setCell_far _ _ _ _ nb2).trans ((World.cell?_setCell_far _ _ _ _ nb2).trans (m5))))))⟩|(trace_state;fail))) (fail)
  clear kk m0 m1 m2 m3 m4 m5 hpx hex kp ke;have c0:=kcc 0;have c1:=kcc 1;have c2:=kcc 2;have c3:=kcc 3;have c4:=kcc 4;have c5:=kcc 5;have c6:=kcc 6;have c7:=kcc 7;have c8:=kcc 8;clear kcc;go_wp2;have hwb:w.heap.size≤wA.heap.size+1:=by omega
  have hbx:=HBX.o;refine bodyPost_ret (v:= .tuple #[.agg #[.int .i64 1,.int .i64 (k:Int),.int .i64 (j:Int),.int .i64 ev,.int .i64 c.zV,.int .i64 c.zO,.int .i64 c.zB,.int .i64 c.yE,.int .i64 c.yB],.int .i64 0]) (by simp[results,Tryz.results8,go_sem,kr,fr,lr,lr2]) rfl ?_;have hb:=HBX.o;refine⟨?_,ba⟩;rw[HA.o];unfold uI;rw[if_neg KN1.o,if_pos HK2.o,HCA.o];rfl
 have q2:(ek == 2)=false:=yZ k2;have KN2:=xN k2;by_cases k3:ek=3
 ·
  have q3:(ek == 3)=true:=xA k3;have HK2:=xN k3;have k5:(⟨ek,et,ec,ev,⟨ns,nf,nl,na,ng⟩⟩:wV).zD≠5:=by show ek≠5;omega
  obtain⟨k,t,hk,ht⟩:=vV HRG.o k5;obtain rfl:et=(k:Int):=hk;have hlt:k<x.zG.length:=(List.getElem?_eq_some_iff.1 ht).1;have hr:=HRG.o;unfold xZ at hr;rw[if_neg k5] at hr;have hr:=hr.2;dsimp only at hr;rw[wU ht] at hr
  have hj:0≤ec∧ec≤(t.zS.length:Int) - 1:=by
   rw[if_neg zM,if_pos zM] at hr;exact xK.1 hr.1
  obtain⟨j,rfl⟩: ∃ j:Nat,ec=(j:Int):=⟨ec.toNat,by omega⟩;have hjl:j<t.zS.length:=by omega
  have hgj:=gE hjl;generalize t.zS[j]=c at hgj;have hca:uS x ⟨ek,(k:Int),(j:Int),ev,⟨ns,nf,nl,na,ng⟩⟩=c:=by unfold uS;dsimp only;rw[wU ht,Int.toNat_natCast,List.getD_eq_getElem?_getD,hgj];rfl
  have HCA:=xN hca;clear hca hr;obtain⟨b,off,cs1,hA,hb1,hcs,hcell⟩:=HX2.o k t ht;subst hA;have HBr:=xN (Below.refl w.heap.size w);obtain⟨u0,rfl,hRY0⟩:=xS.yT (show T.rds _ _ _ by simpa only[xS.t,T.rd] using hcs);have d0:=oc1 HBr.o hb1 hcell;have RY0:=xN (T.yJ hRY0 HBr.o);clear hRY0;clear hcs hcell;obtain⟨ua0,uc0,rfl,ul0,um0,ux0⟩:=T.yS RY0.o;obtain⟨b2,of2,cs2,hA2,hb2,hcs2,hcell2⟩:=ux0 j c hgj;subst hA2;obtain rfl:=xU.yT (show T.rds _ _ _ by simpa only[xU.t,T.rd] using hcs2);obtain⟨e0,e1,e2,e3,e4⟩:=oc5 HBr.o hb2 hcell2;clear hcs2 hcell2;clear ux0 HBr;have hi0:(0:Int)≤(k:Int):=by omega
  have hi1:(k:Int)<(x.zG.length:Int):=by omega
  have hi2:(0:Int)≤(j:Int):=by omega
  have hi3:(j:Int)<(t.zS.length:Int):=by omega
  have HBX:=xN ((HB1.o.alloc HB1.o.size (.cells #[.int .i64 AF.1.zB,.slice A1 L1 C1,.slice A2 L2 C2,.slice A3 L3 C3,.slice A4 L4 C4,.slice A5 L5 C5] 32)).alloc (Nat.le_trans HB1.o.size (by simp)) (.cells #[.int .i64 ek,.int .i64 (k:Int),.int .i64 (j:Int),.int .i64 ev,.int .i64 ns,.int .i64 nf,.int .i64 nl,.int .i64 na,.int .i64 ng] 41));clear k3;go_wp2;have m0:=(HBX.o.cell hb1).trans d0;have m1:=(HBX.o.cell hb2).trans e0;have m2:=(HBX.o.cell hb2).trans e1;have m3:=(HBX.o.cell hb2).trans e2;have m4:=(HBX.o.cell hb2).trans e3;have m5:=(HBX.o.cell hb2).trans e4;have hpx:=((HP1.o.alloc (.cells #[.int .i64 AF.1.zB,.slice A1 L1 C1,.slice A2 L2 C2,.slice A3 L3 C3,.slice A4 L4 C4,.slice A5 L5 C5] 32)).alloc (.cells #[.int .i64 ek,.int .i64 (k:Int),.int .i64 (j:Int),.int .i64 ev,.int .i64 ns,.int .i64 nf,.int .i64 nl,.int .i64 na,.int .i64 ng] 41)).cell;have hex:=((HE1.o.alloc (.cells #[.int .i64 AF.1.zB,.slice A1 L1 C1,.slice A2 L2 C2,.slice A3 L3 C3,.slice A4 L4 C4,.slice A5 L5 C5] 32)).alloc (.cells #[.int .i64 ek,.int .i64 (k:Int),.int .i64 (j:Int),.int .i64 ev,.int .i64 ns,.int .i64 nf,.int .i64 nl,.int .i64 na,.int .i64 ng] 41)).cell;have HCC:=xN (Bk.born1' wA (.cells #[.int .i64 AF.1.zB,.slice A1 L1 C1,.slice A2 L2 C2,.slice A3 L3 C3,.slice A4 L4 C4,.slice A5 L5 C5] 32) 41 #[.int .i64 ek,.int .i64 (k:Int),.int .i64 (j:Int),.int .i64 ev,.int .i64 ns,.int .i64 nf,.int .i64 nl,.int .i64 na,.int .i64 ng]);have HPX:=xN ((HP1.o.alloc (.cells #[.int .i64 AF.1.zB,.slice A1 L1 C1,.slice A2 L2 C2,.slice A3 L3 C3,.slice A4 L4 C4,.slice A5 L5 C5] 32)).alloc (.cells #[.int .i64 ek,.int .i64 (k:Int),.int .i64 (j:Int),.int .i64 ev,.int .i64 ns,.int .i64 nf,.int .i64 nl,.int .i64 na,.int .i64 ng] 41));have HEX:=xN ((HE1.o.alloc (.cells #[.int .i64 AF.1.zB,.slice A1 L1 C1,.slice A2 L2 C2,.slice A3 L3 C3,.slice A4 L4 C4,.slice A5 L5 C5] 32)).alloc (.cells #[.int .i64 ek,.int .i64 (k:Int),.int .i64 (j:Int),.int .i64 ev,.int .i64 ns,.int .i64 nf,.int .i64 nl,.int .i64 na,.int .i64 ng] 41));have HRX:=xN ((HR1.o.alloc (.cells #[.int .i64 AF.1.zB,.slice A1 L1 C1,.slice A2 L2 C2,.slice A3 L3 C3,.slice A4 L4 C4,.slice A5 L5 C5] 32)).alloc (.cells #[.int .i64 ek,.int .i64 (k:Int),.int .i64 (j:Int),.int .i64 ev,.int .i64 ns,.int .i64 nf,.int .i64 nl,.int .i64 na,.int .i64 ng] 41));clear kr fr lr;generalize hW4:((wA.alloc (.cells #[.int .i64 AF.1.zB,.slice A1 L1 C1,.slice A2 L2 C2,.slice A3 L3 C3,.slice A4 L4 C4,.slice A5 L5 C5] 32)).alloc (.cells #[.int .i64 ek,.int .i64 (k:Int),.int .i64 (j:Int),.int .i64 ev,.int .i64 ns,.int .i64 nf,.int .i64 nl,.int .i64 na,.int .i64 ng] 41))=W4 at *;clear hW4;have kcc:=HCC.o.cell;have fcc:=HCC.o.free;have lcc:=HCC.o.lt;have kr:=HRX.o.cell;have fr:=HRX.o.free;have lr:=HRX.o.lt;have nb1: ¬ wA.heap.size+1=b:=by omega
  have nb2: ¬ wA.heap.size+1=b2:=by omega
  have nb1': ¬ b=wA.heap.size+1:=by omega
  have nb2': ¬ b2=wA.heap.size+1:=by omega
  have nb5: ¬ wA.heap.size+1=w.heap.size:=by omega
  have nb6: ¬ wA.heap.size+1=w.heap.size+1:=by omega
  have nb7: ¬ w.heap.size=wA.heap.size+1:=by omega
  have nb8: ¬ w.heap.size+1=wA.heap.size+1:=by omega
  have nb9: ¬ w.heap.size+1+1=wA.heap.size+1:=by omega
  have nb10: ¬ wA.heap.size+1=w.heap.size+1+1:=by omega
  refine wp_region_still_tail 12 (by kernel_rfl) (by kernel_rfl) ?_;simp only[List.take_succ_cons,List.take_zero,List.drop_succ_cons,List.drop_zero];have hpx':=hpx;have hex':=hex
  change wpStill _ _ (World.drew W4) (fun a'=>wpList _ _ _ _ a' (World.drew W4)) _ _
  repeat still_step
  refine wpStill_nil ?_;clear m0 m1 m2 m3 m4 m5 hpx hex hpx' hex';go_wp2;have hwb:w.heap.size≤wA.heap.size+1:=by omega
  have hbx:=HBX.o;refine bodyPost_ret (v:= .tuple #[.agg #[.int .i64 ek,.int .i64 (k:Int),.int .i64 (j:Int),.int .i64 ev,.int .i64 c.zV,.int .i64 c.zO,.int .i64 c.zB,.int .i64 c.yE,.int .i64 c.yB],.int .i64 0]) (by simp[results,Tryz.results8,go_sem,kr,fr,lr,lr2]) rfl ?_;have hb:=HBX.o;refine⟨?_,ba⟩;rw[HA.o];unfold uI;rw[if_neg KN1.o,if_neg KN2.o,if_pos HK2.o,HCA.o];rfl
 have q3:(ek == 3)=false:=yZ k3;have KN3:=xN k3;by_cases k4:ek=4
 ·
  have q4:(ek == 4)=true:=xA k4;have HK4:=xN k4;have k5:(⟨ek,et,ec,ev,⟨ns,nf,nl,na,ng⟩⟩:wV).zD≠5:=by show ek≠5;omega
  obtain⟨k,t,hk,ht⟩:=vV HRG.o k5;obtain rfl:et=(k:Int):=hk;have hlt:k<x.zG.length:=(List.getElem?_eq_some_iff.1 ht).1;have hr:=HRG.o;unfold xZ at hr;rw[if_neg k5] at hr;have hr:=hr.2;dsimp only at hr;rw[wU ht] at hr;have hlf:k<x.zL.length:=by have h2:=HV.o.feed;omega
  have hgk:=gE hlf;have hfd:x.zL.getD k 0=x.zL[k]:=by rw[List.getD_eq_getElem?_getD,hgk];rfl
  generalize x.zL[k]=y at *;have HFD:=xN hfd;clear hfd hr k4 k5;obtain⟨b,off,hA,hb1,hcell⟩:=HX3.o k y hgk;subst hA;have hi0:(0:Int)≤(k:Int):=by omega
  have hi1:(k:Int)<(x.zL.length:Int):=by omega
  have HBX:=xN ((HB1.o.alloc HB1.o.size (.cells #[.int .i64 AF.1.zB,.slice A1 L1 C1,.slice A2 L2 C2,.slice A3 L3 C3,.slice A4 L4 C4,.slice A5 L5 C5] 32)).alloc (Nat.le_trans HB1.o.size (by simp)) (.cells #[.int .i64 ek,.int .i64 (k:Int),.int .i64 ec,.int .i64 ev,.int .i64 ns,.int .i64 nf,.int .i64 nl,.int .i64 na,.int .i64 ng] 41));have m0:=(HBX.o.cell hb1).trans hcell;have hpx:=((HP1.o.alloc (.cells #[.int .i64 AF.1.zB,.slice A1 L1 C1,.slice A2 L2 C2,.slice A3 L3 C3,.slice A4 L4 C4,.slice A5 L5 C5] 32)).alloc (.cells #[.int .i64 ek,.int .i64 (k:Int),.int .i64 ec,.int .i64 ev,.int .i64 ns,.int .i64 nf,.int .i64 nl,.int .i64 na,.int .i64 ng] 41)).cell;have hex:=((HE1.o.alloc (.cells #[.int .i64 AF.1.zB,.slice A1 L1 C1,.slice A2 L2 C2,.slice A3 L3 C3,.slice A4 L4 C4,.slice A5 L5 C5] 32)).alloc (.cells #[.int .i64 ek,.int .i64 (k:Int),.int .i64 ec,.int .i64 ev,.int .i64 ns,.int .i64 nf,.int .i64 nl,.int .i64 na,.int .i64 ng] 41)).cell;go_wp2;have hbx:=HBX.o;refine bodyPost_ret (v:= .tuple #[.agg #[.int .i64 ek,.int .i64 (k:Int),.int .i64 ec,.int .i64 y,.int .i64 ns,.int .i64 nf,.int .i64 nl,.int .i64 na,.int .i64 ng],.int .i64 0]) (by simp[results,Tryz.results8,go_sem,kr,fr,lr,lr2]) rfl ?_;have hb:=HB1.o;refine⟨?_,ba⟩;rw[HA.o];unfold uI;rw[if_neg KN1.o,if_neg KN2.o,if_neg KN3.o,if_pos HK4.o];dsimp only[Int.toNat_natCast];rw[HFD.o];rfl
 have q4:(ek == 4)=false:=yZ k4;have KN4:=xN k4;have hff:=HF.o;unfold wH at hff;dsimp only at hff;rw[if_neg zM,if_neg zM,if_neg zM] at hff;by_cases k5:ek=5
 rotate_left
 ·
  rw[if_neg k5] at hff;exact hff.elim
 clear hff;have q5:(ek == 5)=true:=xA k5;have hr:=HRG.o;unfold xZ at hr;rw[if_pos k5] at hr;obtain⟨r1,r2,-⟩:=hr;have i1:=xK.1 r1;obtain⟨k,rfl⟩: ∃ k:Nat,et=(k:Int):=⟨et.toNat,by dsimp only at i1;omega⟩;have hlt:k<x.zH.zC.length:=by dsimp only at i1;omega
 have hgk:=gE hlt;generalize x.zH.zC[k]=y at hgk;dsimp only at r2;rw[xZz hgk] at r2;have i2:=xK.1 r2;obtain⟨j,rfl⟩: ∃ j:Nat,ec=(j:Int):=⟨ec.toNat,by omega⟩;have hjl:j<y.zT.length:=by omega
 have hgj:=gE hjl;generalize y.zT[j]=z at hgj;have hsd:(yLz x (k:Int)).getD j ⟨0,0⟩=z:=by rw[xZz hgk,List.getD_eq_getElem?_getD,hgj];rfl
 have HSD:=xN hsd;clear hsd k5 r1 r2;obtain⟨b,off,cs1,hA,hb1,hcs,hcell⟩:=HX5.o k y hgk;subst hA;have HBr:=xN (Below.refl w.heap.size w);obtain⟨u2,rfl,hRY2⟩:=xP.yT (show T.rds _ _ _ by simpa only[xP.t,T.rd] using hcs);obtain⟨d0,d1,d2⟩:=oc3 HBr.o hb1 hcell;have RY2:=xN (T.yJ hRY2 HBr.o);clear hRY2;clear hcs hcell;obtain⟨ua2,uc2,rfl,ul2,um2,ux2⟩:=T.yS RY2.o;obtain⟨b2,of2,cs2,hA2,hb2,hcs2,hcell2⟩:=ux2 j z hgj;subst hA2;obtain rfl:=xV.yT (show T.rds _ _ _ by simpa only[xV.t,T.rd] using hcs2);obtain⟨e0,e1⟩:=oc2 HBr.o hb2 hcell2;clear hcs2 hcell2;clear ux2 HBr;have hi0:(0:Int)≤(k:Int):=by omega
 have hi1:(k:Int)<(x.zH.zC.length:Int):=by dsimp only at i1;omega
 have hi2:(0:Int)≤(j:Int):=by omega
 have hi3:(j:Int)<(y.zT.length:Int):=by omega
 have HBX:=xN ((HB1.o.alloc HB1.o.size (.cells #[.int .i64 AF.1.zB,.slice A1 L1 C1,.slice A2 L2 C2,.slice A3 L3 C3,.slice A4 L4 C4,.slice A5 L5 C5] 32)).alloc (Nat.le_trans HB1.o.size (by simp)) (.cells #[.int .i64 ek,.int .i64 (k:Int),.int .i64 (j:Int),.int .i64 ev,.int .i64 ns,.int .i64 nf,.int .i64 nl,.int .i64 na,.int .i64 ng] 41));go_wp2;have m0:=(HBX.o.cell hb1).trans d2;have m1:=(HBX.o.cell hb2).trans e1;have hpx:=((HP1.o.alloc (.cells #[.int .i64 AF.1.zB,.slice A1 L1 C1,.slice A2 L2 C2,.slice A3 L3 C3,.slice A4 L4 C4,.slice A5 L5 C5] 32)).alloc (.cells #[.int .i64 ek,.int .i64 (k:Int),.int .i64 (j:Int),.int .i64 ev,.int .i64 ns,.int .i64 nf,.int .i64 nl,.int .i64 na,.int .i64 ng] 41)).cell;have hex:=((HE1.o.alloc (.cells #[.int .i64 AF.1.zB,.slice A1 L1 C1,.slice A2 L2 C2,.slice A3 L3 C3,.slice A4 L4 C4,.slice A5 L5 C5] 32)).alloc (.cells #[.int .i64 ek,.int .i64 (k:Int),.int .i64 (j:Int),.int .i64 ev,.int .i64 ns,.int .i64 nf,.int .i64 nl,.int .i64 na,.int .i64 ng] 41)).cell;have HCC:=xN (Bk.born1' wA (.cells #[.int .i64 AF.1.zB,.slice A1 L1 C1,.slice A2 L2 C2,.slice A3 L3 C3,.slice A4 L4 C4,.slice A5 L5 C5] 32) 41 #[.int .i64 ek,.int .i64 (k:Int),.int .i64 (j:Int),.int .i64 ev,.int .i64 ns,.int .i64 nf,.int .i64 nl,.int .i64 na,.int .i64 ng]);have HRX:=xN ((HR1.o.alloc (.cells #[.int .i64 AF.1.zB,.slice A1 L1 C1,.slice A2 L2 C2,.slice A3 L3 C3,.slice A4 L4 C4,.slice A5 L5 C5] 32)).alloc (.cells #[.int .i64 ek,.int .i64 (k:Int),.int .i64 (j:Int),.int .i64 ev,.int .i64 ns,.int .i64 nf,.int .i64 nl,.int .i64 na,.int .i64 ng] 41));clear kr fr lr;generalize hW4:((wA.alloc (.cells #[.int .i64 AF.1.zB,.slice A1 L1 C1,.slice A2 L2 C2,.slice A3 L3 C3,.slice A4 L4 C4,.slice A5 L5 C5] 32)).alloc (.cells #[.int .i64 ek,.int .i64 (k:Int),.int .i64 (j:Int),.int .i64 ev,.int .i64 ns,.int .i64 nf,.int .i64 nl,.int .i64 na,.int .i64 ng] 41))=W4 at *;clear hW4;have kcc:=HCC.o.cell;have fcc:=HCC.o.free;have lcc:=HCC.o.lt;have kr:=HRX.o.cell;have fr:=HRX.o.free;have lr:=HRX.o.lt;have nb9: ¬ w.heap.size+1+1=wA.heap.size+1:=by omega
 have nb10: ¬ wA.heap.size+1=w.heap.size+1+1:=by omega
 refine wp_region_still_tail 14 (by kernel_rfl) (by kernel_rfl) ?_;simp only[List.take_succ_cons,List.take_zero,List.drop_succ_cons,List.drop_zero]
 change wpStill _ _ (World.drew W4) (fun a'=>wpList _ _ _ _ a' (World.drew W4)) _ _
 repeat still_step
 refine wpStill_nil ?_;clear m0 m1 hpx hex;go_wp2;have hwb:w.heap.size≤wA.heap.size+1:=by omega
 have hbx:=HBX.o;refine bodyPost_ret (v:= .tuple #[.agg #[.int .i64 ek,.int .i64 (k:Int),.int .i64 (j:Int),.int .i64 z.yB,.int .i64 ns,.int .i64 nf,.int .i64 nl,.int .i64 na,.int .i64 ng],.int .i64 0]) (by simp[results,Tryz.results8,go_sem,kr,fr,lr,lr2]) rfl ?_;have hb:=HBX.o;refine⟨?_,ba⟩;rw[HA.o];unfold uI;rw[if_neg KN1.o,if_neg KN2.o,if_neg KN3.o,if_neg KN4.o];dsimp only[Int.toNat_natCast];rw[HSD.o];rfl
end
section
open Go.RowKit
theorem c_b10Long (v:Value) (xs:List UInt8) (w:World) (h1:RdY w v xs):Calls Tryz.prog 5 #[v] w fun e w'=>e= .returned (.bool (decide (1048576<xs.length)))∧w=w':=by
 obtain⟨_,A,cap,rfl,_,_,_⟩:=h1;by_cases hl:1048576<xs.length
 ·have h3:(1048576:Int)<(xs.length:Int):=by omega
  have HD:=xN (decide_eq_true hl);clear hl
  go_enter Tryz.func5,Tryz.ntmps5
  go_wp2;go_ret
  exact⟨by rw[HD.o];rfl,rfl⟩
 ·have h3: ¬ (1048576:Int)<(xs.length:Int):=by omega
  have HD:=xN (decide_eq_false hl);clear hl
  go_enter Tryz.func5,Tryz.ntmps5
  go_wp2;go_ret
  exact⟨by rw[HD.o];rfl,rfl⟩
theorem s_same (a b:xO) (ca cb:List Value) (w:World) (h1:T.rds w a.fs ca) (h2:T.rds w b.fs cb):Calls Tryz.prog 10 #[.agg ca.toArray,.agg cb.toArray] w fun e w'=>e= .returned (.bool (decide (a=b)))∧Below w.heap.size w w':=by
 obtain⟨v1,v2,v3,v4,v5,rfl,r1,r2,r3,r4,r5⟩:=xO.yT h1;obtain⟨u1,u2,u3,u4,u5,rfl,t1,t2,t3,t4,t5⟩:=xO.yT h2;exact c_sSameSession a b v1 v2 v3 v4 v5 u1 u2 u3 u4 u5 w r1 r2 r3 r4 r5 t1 t2 t3 t4 t5
end
section
open Go.RowKit
theorem xRz {x lo hi:Int} (h:inB x lo hi=true) (hl: -9223372036854775808≤lo) (hh:hi≤9223372036854775807):I64 x:=by
 have:=xK.1 h;unfold I64
 omega
theorem kndF_in (k:Int): -2147483648≤(uF k).low∧(uF k).high≤2147483647:=by
 unfold uF;rw[List.getD_eq_getElem?_getD]
 cases h:kndL[(k - 1).toNat]? with
 |none=>exact⟨by decide,by decide⟩
 |some y=>
  have hm:=List.mem_of_getElem? h;have ha: ∀ z ∈ kndL,-2147483648≤z.low∧z.high≤2147483647:=by decide
  exact ha y hm
theorem xCz {α:Type} {xs:List α} {Q:Nat→α→Prop} (h:Each xs Q) {x:α} (hx:x ∈ xs): ∃ i,Q i x:=by
 obtain⟨i,hi⟩:=List.getElem?_of_mem hx;exact⟨i,h i x hi⟩
theorem xAy {x:Int} (h:Smp x):I64 x:=by unfold Smp at h;unfold I64;omega
theorem yCz.good {x:xR} {n:Int} (h:yCz x n):x.good:=by
 refine⟨xRz h.kind zM zM,?_,?_,fun f hf=>?_⟩
 ·have hk:=kndF_in x.zD
  have ha:=h.a
  split at ha
  ·exact xRz ha zM zM
  ·rw[ha];unfold I64;omega
 ·have hb:=h.b
  split at hb
  ·exact xRz hb zM zM
  ·rw[hb];unfold I64;omega
 ·obtain⟨i,hi⟩:=xCz h.from_ hf
  exact xRz hi zM zM
theorem wDz.good {p:xQ} (h:wDz p):p.good:=by
 refine⟨xRz h.inputs zM zM,fun l hl y hy=>?_,fun n hn=>?_,fun y hy=>?_⟩
 ·obtain⟨i,hi⟩:=xCz h.tables.each hl
  exact xAy (vOz.1 hi.2 y hy)
 ·obtain⟨i,hi⟩:=xCz h.nodes hn
  exact hi.1.good
 ·obtain⟨i,hi⟩:=xCz h.outputs hy
  have:=h.few;unfold I64
  omega
theorem send_low {l:List xV} {i n:Int} (h:vEz l i n) (h0:0≤i): ∀ (j:Nat) (y:xV),l[j]?=some y→0≤y.yI
 |0,y,hj=>by
  have h1:=xK.1 (h.each 0 y hj).1;simp only[befS,if_true] at h1
  omega
 |j+1,y,hj=>by
  have hlt:=(List.getElem?_eq_some_iff.1 hj).1;have h1:=xK.1 (h.each (j+1) y hj).1;have h2:=send_low h h0 j l[j] (gE zM);rw[befS,if_neg (Nat.succ_ne_zero j)] at h1;simp only[Nat.add_sub_cancel,List.getD_eq_getElem?_getD,gE (show j<l.length by omega),Option.getD_some] at h1
  omega
theorem xW.good {x:xO} (h:xW x):x.good:=by
 refine⟨xRz h.length zM zM,fun l hl y hy=>?_,fun t ht c hc=>?_,fun y hy=>?_,fun p hp=>?_,fun s hs=>?_⟩
 ·obtain⟨i,hi⟩:=xCz h.sources.each hl
  unfold sigB at hi;rw[Bool.and_eq_true] at hi;exact xAy (vOz.1 hi.2 y hy)
 ·obtain⟨i,hi⟩:=xCz h.tracks ht
  obtain⟨j,hj⟩:=xCz hi.1.clips hc;have h1:=xK.1 hj.1.length;exact⟨xRz hj.1.source zM zM,xRz hj.1.from_ zM zM,xRz hj.1.length zM zM,xRz hj.1.at_ zM zM,xAy hj.1.gain⟩
 ·obtain⟨i,hi⟩:=xCz h.feeds hy
  have:=h.mixer.few;unfold I64
  omega
 ·obtain⟨i,hi⟩:=xCz h.effects hp
  rcases hi with rfl|⟨hi,-⟩
  ·exact⟨by unfold I64 uO;decide,by simp[uO],by simp[uO],by simp[uO]⟩
  ·exact hi.formed.good
 ·obtain⟨i,hi⟩:=xCz h.mixer.each hs
  refine⟨by have:=hi.1.name.few;omega,xRz hi.1.latency zM zM,fun y hy=>?_⟩;obtain⟨j,hj⟩:=List.getElem?_of_mem hy;have hn:=h.mixer.few;have hq:=hi.1.sends.each j y hj;have h0:=xK.1 hq.1;have h1:=send_low hi.1.sends zM j y hj;exact⟨by unfold I64;omega,xAy hq.2⟩
end
end Go.Proofs.YtdcofkabaigjpaaGreat
