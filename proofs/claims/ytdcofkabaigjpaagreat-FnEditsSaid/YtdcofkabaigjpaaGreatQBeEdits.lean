/- Contracts: which sessions and desks are the same, by the reference. -/
import Derived.Test.YtdcofkabaigjpaaGreatQBdEdits
set_option linter.unusedVariables false
set_option linter.unusedSimpArgs false
set_option maxHeartbeats 2000000
set_option maxRecDepth 20000
namespace Go.Proofs.YtdcofkabaigjpaaGreat
open Go.RowKit
theorem c_l26Same (a b:xP) (b1 o1 b2 o2:Nat) (v2 u2:Value) (w:World) (hb1:b1<w.heap.size) (hb2:b2<w.heap.size)
  (d0:w.cell? ⟨b1,o1,none⟩=some (.string a.yH)) (d1:w.cell? ⟨b1,o1+1,none⟩=some (.int .i64 a.zZ)) (d2:w.cell? ⟨b1,o1+2,none⟩=some v2)
  (g0:w.cell? ⟨b2,o2,none⟩=some (.string b.yH)) (g1:w.cell? ⟨b2,o2+1,none⟩=some (.int .i64 b.zZ)) (g2:w.cell? ⟨b2,o2+2,none⟩=some u2)
  (r2:T.rd w (T.sl 71 2 (a.zT.map xV.t)) [v2]) (t2:T.rd w (T.sl 71 2 (b.zT.map xV.t)) [u2]):
  Calls Tryz.prog 62 #[.pointer (some ⟨b1,o1,none⟩),.pointer (some ⟨b2,o2,none⟩)] w fun e w'=>e= .returned (.bool (decide (a=b)))∧Dr w w':=by
 have hab:decide (a=b)=(decide (a.yH=b.yH) && (decide (a.zZ=b.zZ) && decide (a.zT=b.zT))):=by
  obtain⟨x0,x1,x2⟩:=a;obtain⟨y0,y1,y2⟩:=b;rw[Bool.eq_iff_iff];simp only[xP.mk.injEq,decide_eq_true_eq,Bool.and_eq_true]
 have HAB:=xN hab;clear hab;obtain⟨A1,cap1,rfl,hl1,hc1,hx1⟩:=T.yT r2;obtain⟨A2,cap2,rfl,hl2,hc2,hx2⟩:=T.yT t2;rw[List.length_map] at hl1 hl2 d2 g2;have HX1:=xN hx1;have HX2:=xN hx2;clear hx1 hx2 r2 t2;by_cases h0:a.yH=b.yH
 ·have e0:(a.yH.toList == b.yH.toList)=true:=by rw[str_eq];simp[h0]
  have H0:=xN h0;clear h0;by_cases h1:a.zZ=b.zZ
  ·have e1:(a.zZ != b.zZ)=false:=by simp[h1]
   have H1:=xN h1;clear h1;by_cases hll:a.zT.length=b.zT.length
   ·have hb:((a.zT.length:Int) != (b.zT.length:Int))=false:=by simp[hll]
    have HL:=xN hll;clear hll;have hgd:=eqg_Send
    go_enter Tryz.func62,Tryz.ntmps62
    go_wp2
    go_quiet (fail)
    go_wp2
    go_loopw [5] (fun i wr=> ∃ k:Nat,k≤a.zT.length∧i= .int .i64 k∧a.zT.take k=b.zT.take k∧Dr w wr) (fun i _=>a.zT.length - (intOf i).toNat)
    case atStart=>exact⟨0,Nat.zero_le _,rfl,rfl,dz⟩
    case round=>
     obtain⟨k,hk,rfl,hs,nr,rfl⟩:=hrel;have HS:=xN hs;clear hs;by_cases hlt:k<a.zT.length
     ·have hlt2:k<b.zT.length:=by have:=HL.o;omega
      obtain⟨c1,p1,cs1,rfl,hbw1,hcs1,hcell1⟩:=HX1.o k (xV.t a.zT[k]) (by rw[List.getElem?_map,gE hlt];rfl);obtain⟨c2,p2,cs2,rfl,hbw2,hcs2,hcell2⟩:=HX2.o k (xV.t b.zT[k]) (by rw[List.getElem?_map,gE hlt2];rfl);have hg1:=gE hlt;have hg2:=gE hlt2;generalize a.zT[k]=x at *;generalize b.zT[k]=y at *;have HG1:=xN hg1;have HG2:=xN hg2;clear hg1 hg2;obtain rfl:=xV.yT (show T.rds _ _ _ by simpa only[xV.t,T.rd] using hcs1);have pc0:=hcell1 0 _ rfl;rw[show p1+(k * 2+0)=p1+k * 2 by omega] at pc0;have pc1:=hcell1 1 _ rfl;rw[show p1+(k * 2+1)=p1+k * 2+1 by omega] at pc1;obtain rfl:=xV.yT (show T.rds _ _ _ by simpa only[xV.t,T.rd] using hcs2);have qc0:=hcell2 0 _ rfl;rw[show p2+(k * 2+0)=p2+k * 2 by omega] at qc0;have qc1:=hcell2 1 _ rfl;rw[show p2+(k * 2+1)=p2+k * 2+1 by omega] at qc1;clear hcs1 hcs2 hcell1 hcell2;have heq: ∀ w,(Op.equalIn 10000 71 (.agg #[.int .i64 x.yI,.int .i64 x.yB]) (.agg #[.int .i64 y.yI,.int .i64 y.yB])).run Tryz.prog w= .ok (decide (x=y)) w:=eq_Send 9998 x y;by_cases he:x=y
      ·have hde:decide (x=y)=true:=decide_eq_true he
       rw[hde] at heq;have HE:=xN he;clear he hde;go_wp2
       go_quiet (fail)
       go_wp2
       go_roundw
       case rel=>exact⟨k+1,by omega,by go_num,uW HS.o HG1.o (by rw[HE.o];exact HG2.o),dz⟩
       case measure=>simp[intOf];omega
      ·have hde:decide (x=y)=false:=decide_eq_false he
       rw[hde] at heq;have HE:=xN he;clear he hde;go_wp2
       go_quiet (fail)
       go_wp2;go_ret
       have hne:=uQz HG1.o HG2.o HE.o;exact⟨yN (by rw[HAB.o];simp[H0.o,H1.o,hne]),dz⟩
     ·have hall:=uK (k:=k) zM HL.o HS.o
      have HALL:=xN hall;clear hall;go_wp2;go_ret
      exact⟨yN (by rw[HAB.o];simp[H0.o,H1.o,HALL.o]),dz⟩
   ·have hb:((a.zT.length:Int) != (b.zT.length:Int))=true:=by simp;omega
    have H2:=xN (show ¬ a.zT=b.zT from fun e=>hll (by rw[e]));clear hll
    go_enter Tryz.func62,Tryz.ntmps62
    go_wp2
    go_quiet (fail)
    go_wp2;go_ret
    exact⟨yN (by rw[HAB.o];simp[H0.o,H1.o,H2.o]),dz⟩
  ·have e1:(a.zZ != b.zZ)=true:=by simp[h1]
   have H1:=xN h1;clear h1
   go_enter Tryz.func62,Tryz.ntmps62
   go_wp2
   go_quiet (fail)
   go_wp2;go_ret
   exact⟨yN (by rw[HAB.o];simp[H0.o,H1.o]),dz⟩
 ·have e0:(a.yH.toList == b.yH.toList)=false:=by rw[str_eq];simp[h0]
  have H0:=xN h0;clear h0
  go_enter Tryz.func62,Tryz.ntmps62
  go_wp2
  go_quiet (fail)
  go_wp2;go_ret
  exact⟨yN (by rw[HAB.o];simp[H0.o]),dz⟩
theorem yZy (a b:vF) (v0:Value) (u0:Value) (w:World) (r0:T.rd w (T.sl 74 3 (a.zC.map xP.t)) [v0]) (t0:T.rd w (T.sl 74 3 (b.zC.map xP.t)) [u0]):
  Calls Tryz.prog 28 #[.agg #[v0],.agg #[u0]] w fun e w'=>e= .returned (.bool (decide (a=b)))∧Below w.heap.size w w':=by
 have hab:decide (a=b)=(decide (a.zC=b.zC)):=by
  obtain⟨x0⟩:=a;obtain⟨y0⟩:=b;rw[Bool.eq_iff_iff];simp only[vF.mk.injEq,decide_eq_true_eq,Bool.and_eq_true]
  try (constructor<;>(intro h;simp[h]))
 have R0:=xN r0;have Q0:=xN t0;obtain⟨va0,vc0,rfl,hla0,hca0,hxa0⟩:=T.yT r0;obtain⟨ua0,uc0,rfl,hlb0,hcb0,hxb0⟩:=T.yT t0;rw[List.length_map] at hla0 hlb0 R0 Q0 ⊢;rw[List.length_map];have HXA0:=xN hxa0;have HXB0:=xN hxb0;clear hxa0 hxb0;clear r0 t0;have HAB:=xN hab;clear hab;have HB0:=xN (show Below w.heap.size w ((w.alloc (.cells #[(.slice va0 a.zC.length vc0)] 30)).alloc (.cells #[(.slice ua0 b.zC.length uc0)] 30)) from(zR.alloc zJ _).alloc zQ _);have HKA0:=xN ((Bk.born w 30 #[(.slice va0 a.zC.length vc0)]).alloc (.cells #[(.slice ua0 b.zC.length uc0)] 30));have HKB0:=xN (Bk.born1' w (.cells #[(.slice va0 a.zC.length vc0)] 30) 30 #[(.slice ua0 b.zC.length uc0)]);by_cases h0:a.zC.length=b.zC.length
 ·have e0:((a.zC.length:Int) != (b.zC.length:Int))=false:=by simp;omega
  have HL0:=xN h0;clear h0
  go_enter Tryz.func28,Tryz.ntmps28
  go_wp2
  go_loopw [5] (fun i wr=> ∃ k:Nat,k≤a.zC.length∧i= .int .i64 k∧a.zC.take k=b.zC.take k∧Below ((w.alloc (.cells #[(.slice va0 a.zC.length vc0)] 30)).alloc (.cells #[(.slice ua0 b.zC.length uc0)] 30)).heap.size ((w.alloc (.cells #[(.slice va0 a.zC.length vc0)] 30)).alloc (.cells #[(.slice ua0 b.zC.length uc0)] 30)) wr) (fun i _=>a.zC.length - (intOf i).toNat)
  case atStart=>exact⟨0,Nat.zero_le _,rfl,rfl,zR⟩
  case round=>
   obtain⟨k,hk,rfl,hs,hbw⟩:=hrel;have HS:=xN hs;have HW:=xN hbw;clear hs hbw;have HB:=xN (yO HB0.o HB0.o.size HW.o);have HKA:=xN (HKA0.o.below HW.o HKA0.o.lt);have HKB:=xN (HKB0.o.below HW.o HKB0.o.lt);have ka:=HKA.o.cell;have kb:=HKB.o.cell;have la:w.heap.size<wr.heap.size:=HKA.o.lt;have lb:w.heap.size+1<wr.heap.size:=HKB.o.lt;by_cases hlt:k<a.zC.length
   ·have hlt2:k<b.zC.length:=by have:=HL0.o;omega
    obtain⟨b1,o1,cs1,hA1,hbw1,hcs1,hcell1⟩:=HXA0.o k (xP.t a.zC[k]) (by rw[List.getElem?_map,gE hlt];rfl);obtain⟨b2,o2,cs2,hA2,hbw2,hcs2,hcell2⟩:=HXB0.o k (xP.t b.zC[k]) (by rw[List.getElem?_map,gE hlt2];rfl);subst hA1 hA2;have hg1:=gE hlt;have hg2:=gE hlt2;generalize a.zC[k]=x at *;generalize b.zC[k]=y at *;have HG1:=xN hg1;have HG2:=xN hg2;clear hg1 hg2;obtain⟨p2,rfl,hR12⟩:=xP.yT (show T.rds _ _ _ by simpa only[xP.t,T.rd] using hcs1);obtain⟨d10,d11,d12⟩:=oc3 HB.o hbw1 hcell1;have R12:=xN (T.yJ hR12 HB.o);clear hR12;clear hcs1 hcell1;have hq1:b1<wr.heap.size:=zW hbw1 HB.o.size;obtain⟨pa2,pl2,pc2,rfl⟩:=T.xD R12.o;obtain⟨q2,rfl,hR22⟩:=xP.yT (show T.rds _ _ _ by simpa only[xP.t,T.rd] using hcs2);obtain⟨d20,d21,d22⟩:=oc3 HB.o hbw2 hcell2;have R22:=xN (T.yJ hR22 HB.o);clear hR22;clear hcs2 hcell2;have hq2:b2<wr.heap.size:=zW hbw2 HB.o.size;obtain⟨qa2,ql2,qc2,rfl⟩:=T.xD R22.o;have hW:=HW.o;have hB:=HB.o;by_cases he:x=y
    ·have hde:decide (x=y)=true:=decide_eq_true he
     have HE:=xN he;clear he;go_wp2
     go_quiet ((go_at_call 62;exact Calls.quiet_of ((c_l26Same x y b1 (o1+k * 3) b2 (o2+k * 3) _ _ _ (by exact hq1) (by exact hq2) (by exact d10) (by exact d11) (by exact d12) (by exact d20) (by exact d21) (by exact d22) (T.yJ R12.o bz) (T.yJ R22.o bz)).mono (fun e w' h=>by rw[hde] at h;exact h))))
     go_wp2
     go_roundw
     case rel=>exact⟨k+1,by omega,by go_num,uW HS.o HG1.o (by rw[HE.o];exact HG2.o),ba⟩
     case measure=>simp[intOf];omega
    ·have hde:decide (x=y)=false:=decide_eq_false he
     have HE:=xN he;clear he;go_wp2
     go_quiet ((go_at_call 62;exact Calls.quiet_of ((c_l26Same x y b1 (o1+k * 3) b2 (o2+k * 3) _ _ _ (by exact hq1) (by exact hq2) (by exact d10) (by exact d11) (by exact d12) (by exact d20) (by exact d21) (by exact d22) (T.yJ R12.o bz) (T.yJ R22.o bz)).mono (fun e w' h=>by rw[hde] at h;exact h))))
     go_wp2;go_ret
     have hne:=uQz HG1.o HG2.o HE.o;exact⟨yN (by rw[HAB.o];simp[hne]),ba⟩
   ·have hall:=uK (k:=k) zM HL0.o HS.o
    have HALL0:=xN hall;clear hall;go_wp2;go_ret
    exact⟨yN (by rw[HAB.o];simp[HALL0.o]),HB.o⟩
 ·have e0:((a.zC.length:Int) != (b.zC.length:Int))=true:=by simp;omega
  have H0:=xN (show ¬ a.zC=b.zC from fun e=>h0 (by rw[e]));clear h0
  go_enter Tryz.func28,Tryz.ntmps28
  go_wp2;go_ret
  exact⟨yN (by rw[HAB.o];simp[H0.o]),HB0.o⟩
theorem c_sSameSession (a b:xO) (v1:Value) (v2:Value) (v3:Value) (v4:Value) (v5:Value) (u1:Value) (u2:Value) (u3:Value) (u4:Value) (u5:Value) (w:World) (r1:T.rd w (T.sl 26 1 (a.zI.map (T.ints 2))) [v1]) (r2:T.rd w (T.sl 69 1 (a.zG.map xS.t)) [v2]) (r3:T.rd w (T.ints 2 a.zL) [v3]) (r4:T.rd w (T.sl 81 4 (a.zK.map xQ.t)) [v4]) (r5:T.rd w (T.sl 74 3 (a.zH.zC.map xP.t)) [v5]) (t1:T.rd w (T.sl 26 1 (b.zI.map (T.ints 2))) [u1]) (t2:T.rd w (T.sl 69 1 (b.zG.map xS.t)) [u2]) (t3:T.rd w (T.ints 2 b.zL) [u3]) (t4:T.rd w (T.sl 81 4 (b.zK.map xQ.t)) [u4]) (t5:T.rd w (T.sl 74 3 (b.zH.zC.map xP.t)) [u5]):
  Calls Tryz.prog 10 #[.agg #[.int .i64 a.zB,v1,v2,v3,v4,v5],.agg #[.int .i64 b.zB,u1,u2,u3,u4,u5]] w fun e w'=>e= .returned (.bool (decide (a=b)))∧Below w.heap.size w w':=by
 have hab:decide (a=b)=(decide (a.zB=b.zB) && (decide (a.zI=b.zI) && (decide (a.zG=b.zG) && (decide (a.zL=b.zL) && (decide (a.zK=b.zK) && (decide (a.zH=b.zH))))))):=by
  obtain⟨x0,x1,x2,x3,x4,x5⟩:=a;obtain⟨y0,y1,y2,y3,y4,y5⟩:=b;rw[Bool.eq_iff_iff];simp only[xO.mk.injEq,decide_eq_true_eq,Bool.and_eq_true]
  try (constructor<;>(intro h;simp[h]))
 have R1:=xN r1;have Q1:=xN t1;have R2:=xN r2;have Q2:=xN t2;have R3:=xN r3;have Q3:=xN t3;have R4:=xN r4;have Q4:=xN t4;have R5:=xN r5;have Q5:=xN t5;obtain⟨va1,vc1,rfl,hla1,hca1,hxa1⟩:=T.yT r1;obtain⟨ua1,uc1,rfl,hlb1,hcb1,hxb1⟩:=T.yT t1;rw[List.length_map] at hla1 hlb1 R1 Q1 ⊢;rw[List.length_map];have HXA1:=xN hxa1;have HXB1:=xN hxb1;clear hxa1 hxb1;obtain⟨va2,vc2,rfl,hla2,hca2,hxa2⟩:=T.yT r2;obtain⟨ua2,uc2,rfl,hlb2,hcb2,hxb2⟩:=T.yT t2;rw[List.length_map] at hla2 hlb2 R2 Q2 ⊢;rw[List.length_map];have HXA2:=xN hxa2;have HXB2:=xN hxb2;clear hxa2 hxb2;obtain⟨va3,vl3,vc3,rfl⟩:=T.xD r3;obtain⟨ua3,ul3,uc3,rfl⟩:=T.xD t3;obtain⟨va4,vc4,rfl,hla4,hca4,hxa4⟩:=T.yT r4;obtain⟨ua4,uc4,rfl,hlb4,hcb4,hxb4⟩:=T.yT t4;rw[List.length_map] at hla4 hlb4 R4 Q4 ⊢;rw[List.length_map];have HXA4:=xN hxa4;have HXB4:=xN hxb4;clear hxa4 hxb4;obtain⟨va5,vl5,vc5,rfl⟩:=T.xD r5;obtain⟨ua5,ul5,uc5,rfl⟩:=T.xD t5;clear r1 t1 r2 t2 r3 t3 r4 t4 r5 t5;have HAB:=xN hab;clear hab;have HB0:=xN (show Below w.heap.size w ((w.alloc (.cells #[.int .i64 a.zB,(.slice va1 a.zI.length vc1),(.slice va2 a.zG.length vc2),(.slice va3 vl3 vc3),(.slice va4 a.zK.length vc4),(.slice va5 vl5 vc5)] 32)).alloc (.cells #[.int .i64 b.zB,(.slice ua1 b.zI.length uc1),(.slice ua2 b.zG.length uc2),(.slice ua3 ul3 uc3),(.slice ua4 b.zK.length uc4),(.slice ua5 ul5 uc5)] 32)) from(zR.alloc zJ _).alloc zQ _);have HKA0:=xN ((Bk.born w 32 #[.int .i64 a.zB,(.slice va1 a.zI.length vc1),(.slice va2 a.zG.length vc2),(.slice va3 vl3 vc3),(.slice va4 a.zK.length vc4),(.slice va5 vl5 vc5)]).alloc (.cells #[.int .i64 b.zB,(.slice ua1 b.zI.length uc1),(.slice ua2 b.zG.length uc2),(.slice ua3 ul3 uc3),(.slice ua4 b.zK.length uc4),(.slice ua5 ul5 uc5)] 32));have HKB0:=xN (Bk.born1' w (.cells #[.int .i64 a.zB,(.slice va1 a.zI.length vc1),(.slice va2 a.zG.length vc2),(.slice va3 vl3 vc3),(.slice va4 a.zK.length vc4),(.slice va5 vl5 vc5)] 32) 32 #[.int .i64 b.zB,(.slice ua1 b.zI.length uc1),(.slice ua2 b.zG.length uc2),(.slice ua3 ul3 uc3),(.slice ua4 b.zK.length uc4),(.slice ua5 ul5 uc5)]);by_cases h0:a.zB=b.zB
 ·have e0:(a.zB != b.zB)=false:=by simp[h0]
  have H0:=xN h0;clear h0;by_cases h1:a.zI.length=b.zI.length
  ·have e1:((a.zI.length:Int) != (b.zI.length:Int))=false:=by simp;omega
   have HL1:=xN h1;clear h1;by_cases h2:a.zG.length=b.zG.length
   ·have e2:((a.zG.length:Int) != (b.zG.length:Int))=false:=by simp;omega
    have HL2:=xN h2;clear h2;by_cases h3:a.zL=b.zL
    ·have c3:decide (a.zL=b.zL)=true:=by simp[h3]
     have H3:=xN h3;clear h3;by_cases h4:a.zK.length=b.zK.length
     ·have e4:((a.zK.length:Int) != (b.zK.length:Int))=false:=by simp;omega
      have HL4:=xN h4;clear h4;by_cases h5:a.zH=b.zH
      ·have c5:decide (a.zH=b.zH)=true:=by simp[h5]
       have H5:=xN h5;clear h5
       go_enter Tryz.func10,Tryz.ntmps10
       go_wp2_with fail
       refine(zXz _ _ a.zL b.zL _ (T.xB.1 (T.yJ R3.o HB0.o)) (T.xB.1 (T.yJ Q3.o HB0.o))).mono ?_;rintro e w1 ⟨rfl,hd⟩;rw[c3];have hb:Below ((w.alloc (.cells #[.int .i64 a.zB,(.slice va1 a.zI.length vc1),(.slice va2 a.zG.length vc2),(.slice va3 vl3 vc3),(.slice va4 a.zK.length vc4),(.slice va5 vl5 vc5)] 32)).alloc (.cells #[.int .i64 b.zB,(.slice ua1 b.zI.length uc1),(.slice ua2 b.zG.length uc2),(.slice ua3 ul3 uc3),(.slice ua4 b.zK.length uc4),(.slice ua5 ul5 uc5)] 32)).heap.size ((w.alloc (.cells #[.int .i64 a.zB,(.slice va1 a.zI.length vc1),(.slice va2 a.zG.length vc2),(.slice va3 vl3 vc3),(.slice va4 a.zK.length vc4),(.slice va5 vl5 vc5)] 32)).alloc (.cells #[.int .i64 b.zB,(.slice ua1 b.zI.length uc1),(.slice ua2 b.zG.length uc2),(.slice ua3 ul3 uc3),(.slice ua4 b.zK.length uc4),(.slice ua5 ul5 uc5)] 32)) w1:=by first|exact hd.to_below _|exact hd
       have HKA1:=xN (HKA0.o.below hb HKA0.o.lt);have HKB1:=xN (HKB0.o.below hb HKB0.o.lt);have HB1:=xN (yO HB0.o HB0.o.size hb);clear hb hd;have ka1:=HKA1.o.cell;have kb1:=HKB1.o.cell;go_wp2_with fail
       refine(yZy a.zH b.zH _ _ _ (T.yJ R5.o HB1.o) (T.yJ Q5.o HB1.o)).mono ?_;rintro e w2 ⟨rfl,hd⟩;rw[c5];have hb:Below w1.heap.size w1 w2:=by first|exact hd.to_below _|exact hd
       have HKA2:=xN (HKA1.o.below hb HKA1.o.lt);have HKB2:=xN (HKB1.o.below hb HKB1.o.lt);have HB2:=xN (yO HB1.o HB1.o.size hb);clear hb hd;have ka2:=HKA2.o.cell;have kb2:=HKB2.o.cell;go_wp2
       go_loopw [5] (fun i wr=> ∃ k:Nat,k≤a.zI.length∧i= .int .i64 k∧a.zI.take k=b.zI.take k∧Below w2.heap.size w2 wr) (fun i _=>a.zI.length - (intOf i).toNat)
       case atStart=>exact⟨0,Nat.zero_le _,rfl,rfl,zR⟩
       case round=>
        obtain⟨k,hk,rfl,hs,hbw⟩:=hrel;have HS:=xN hs;have HW:=xN hbw;clear hs hbw;have HB:=xN (yO HB2.o HB2.o.size HW.o);have HKA:=xN (HKA2.o.below HW.o HKA2.o.lt);have HKB:=xN (HKB2.o.below HW.o HKB2.o.lt);have ka:=HKA.o.cell;have kb:=HKB.o.cell;have la:w.heap.size<wr.heap.size:=HKA.o.lt;have lb:w.heap.size+1<wr.heap.size:=HKB.o.lt;by_cases hlt:k<a.zI.length
        ·have hlt2:k<b.zI.length:=by have:=HL1.o;omega
         obtain⟨b1,o1,cs1,hA1,hbw1,hcs1,hcell1⟩:=HXA1.o k (T.ints 2 a.zI[k]) (by rw[List.getElem?_map,gE hlt];rfl);obtain⟨b2,o2,cs2,hA2,hbw2,hcs2,hcell2⟩:=HXB1.o k (T.ints 2 b.zI[k]) (by rw[List.getElem?_map,gE hlt2];rfl);subst hA1 hA2;have hg1:=gE hlt;have hg2:=gE hlt2;generalize a.zI[k]=x at *;generalize b.zI[k]=y at *;have HG1:=xN hg1;have HG2:=xN hg2;clear hg1 hg2;obtain⟨v1,rfl⟩:=T.rd_one hcs1;have d1:=(HB.o.cell hbw1).trans (hcell1 0 v1 rfl);rw[Nat.mul_one,Nat.add_zero] at d1;have R1:=xN (T.xB.1 (T.yJ hcs1 HB.o));obtain⟨v2,rfl⟩:=T.rd_one hcs2;have d2:=(HB.o.cell hbw2).trans (hcell2 0 v2 rfl);rw[Nat.mul_one,Nat.add_zero] at d2;have R2:=xN (T.xB.1 (T.yJ hcs2 HB.o));clear hcs1 hcs2 hcell1 hcell2;have hW:=HW.o;have hB:=HB.o;by_cases he:x=y
         ·have hde:decide (x=y)=true:=decide_eq_true he
          have HE:=xN he;clear he;go_wp2
          go_quiet ((go_at_call 27;exact Calls.quiet_of ((zXz _ _ x y _ (Rd.drewN R1.o _) (Rd.drewN R2.o _)).mono (fun e w' h=>by rw[hde] at h;exact h))))
          go_wp2
          go_roundw
          case rel=>exact⟨k+1,by omega,by go_num,uW HS.o HG1.o (by rw[HE.o];exact HG2.o),ba⟩
          case measure=>simp[intOf];omega
         ·have hde:decide (x=y)=false:=decide_eq_false he
          have HE:=xN he;clear he;go_wp2
          go_quiet ((go_at_call 27;exact Calls.quiet_of ((zXz _ _ x y _ (Rd.drewN R1.o _) (Rd.drewN R2.o _)).mono (fun e w' h=>by rw[hde] at h;exact h))))
          go_wp2;go_ret
          have hne:=uQz HG1.o HG2.o HE.o;exact⟨yN (by rw[HAB.o];simp[H0.o,H3.o,H5.o,hne]),ba⟩
        ·have hall:=uK (k:=k) zM HL1.o HS.o
         have HALL1:=xN hall;clear hall;have HKAz1:=HKA;have HKBz1:=HKB;have HBz1:=HB;generalize wr=wz1 at *;go_wp2
         go_loopw [6] (fun i wr=> ∃ k:Nat,k≤a.zG.length∧i= .int .i64 k∧a.zG.take k=b.zG.take k∧Below wz1.heap.size wz1 wr) (fun i _=>a.zG.length - (intOf i).toNat)
         case atStart=>exact⟨0,Nat.zero_le _,rfl,rfl,zR⟩
         case round=>
          obtain⟨k,hk,rfl,hs,hbw⟩:=hrel;have HS:=xN hs;have HW:=xN hbw;clear hs hbw;have HB:=xN (yO HBz1.o HBz1.o.size HW.o);have HKA:=xN (HKAz1.o.below HW.o HKAz1.o.lt);have HKB:=xN (HKBz1.o.below HW.o HKBz1.o.lt);have ka:=HKA.o.cell;have kb:=HKB.o.cell;have la:w.heap.size<wr.heap.size:=HKA.o.lt;have lb:w.heap.size+1<wr.heap.size:=HKB.o.lt;by_cases hlt:k<a.zG.length
          ·have hlt2:k<b.zG.length:=by have:=HL2.o;omega
           obtain⟨b1,o1,cs1,hA1,hbw1,hcs1,hcell1⟩:=HXA2.o k (xS.t a.zG[k]) (by rw[List.getElem?_map,gE hlt];rfl);obtain⟨b2,o2,cs2,hA2,hbw2,hcs2,hcell2⟩:=HXB2.o k (xS.t b.zG[k]) (by rw[List.getElem?_map,gE hlt2];rfl);subst hA1 hA2;have hg1:=gE hlt;have hg2:=gE hlt2;generalize a.zG[k]=x at *;generalize b.zG[k]=y at *;have HG1:=xN hg1;have HG2:=xN hg2;clear hg1 hg2;obtain⟨p0,rfl,hR10⟩:=xS.yT (show T.rds _ _ _ by simpa only[xS.t,T.rd] using hcs1);have d10:=oc1 HB.o hbw1 hcell1;have R10:=xN (T.yJ hR10 HB.o);clear hR10;clear hcs1 hcell1;have hq1:b1<wr.heap.size:=zW hbw1 HB.o.size;obtain⟨pa0,pl0,pc0,rfl⟩:=T.xD R10.o;obtain⟨q0,rfl,hR20⟩:=xS.yT (show T.rds _ _ _ by simpa only[xS.t,T.rd] using hcs2);have d20:=oc1 HB.o hbw2 hcell2;have R20:=xN (T.yJ hR20 HB.o);clear hR20;clear hcs2 hcell2;have hq2:b2<wr.heap.size:=zW hbw2 HB.o.size;obtain⟨qa0,ql0,qc0,rfl⟩:=T.xD R20.o;have hW:=HW.o;have hB:=HB.o;by_cases he:x=y
           ·have hde:decide (x=y)=true:=decide_eq_true he
            have HE:=xN he;clear he;go_wp2
            go_region_held3 (fun w'=>w'.cell? ⟨w.heap.size,2,none⟩=some (.slice (some ⟨b1,o1,none⟩) a.zG.length vc2)∧w'.cell? ⟨b1,o1+k,none⟩=some ((.slice pa0 pl0 pc0))∧w'.cell? ⟨w.heap.size+1,2,none⟩=some (.slice (some ⟨b2,o2,none⟩) b.zG.length uc2)∧w'.cell? ⟨b2,o2+k,none⟩=some ((.slice qa0 ql0 qc0))) (first|go_keep|(refine⟨(hb3.cell ?_).trans ?_,(hb3.cell ?_).trans ?_,(hb3.cell ?_).trans ?_,(hb3.cell ?_).trans ?_⟩<;>first|assumption|(simp[*];done)|(simp;omega))) (first|(go_at_call 29;refine(yTy x y _ _ _ (T.yJ R10.o bz) (T.yJ R20.o bz)).mono ?_;rintro e w3 ⟨rfl,hb3⟩;rw[hde]))
            have hb4:Below wr.heap.size wr w3:=by first|exact yR hb3|exact yR (undrew hb3)|exact yR (uH hb3)|exact hb3|exact undrew hb3|exact uH hb3
            have HC:=xN (yO HW.o HW.o.size hb4);have HC2:=xN (yO HB.o HB.o.size hb4);clear hb4 hb3;go_wp2
            go_roundw
            case rel=>exact⟨k+1,by omega,by go_num,uW HS.o HG1.o (by rw[HE.o];exact HG2.o),(by first|exact HC.o|exact HC.o.drew|exact below_drewN HC.o _)⟩
            case measure=>simp[intOf];omega
           ·have hde:decide (x=y)=false:=decide_eq_false he
            have HE:=xN he;clear he;go_wp2
            go_region_held3 (fun w'=>w'.cell? ⟨w.heap.size,2,none⟩=some (.slice (some ⟨b1,o1,none⟩) a.zG.length vc2)∧w'.cell? ⟨b1,o1+k,none⟩=some ((.slice pa0 pl0 pc0))∧w'.cell? ⟨w.heap.size+1,2,none⟩=some (.slice (some ⟨b2,o2,none⟩) b.zG.length uc2)∧w'.cell? ⟨b2,o2+k,none⟩=some ((.slice qa0 ql0 qc0))) (first|go_keep|(refine⟨(hb3.cell ?_).trans ?_,(hb3.cell ?_).trans ?_,(hb3.cell ?_).trans ?_,(hb3.cell ?_).trans ?_⟩<;>first|assumption|(simp[*];done)|(simp;omega))) (first|(go_at_call 29;refine(yTy x y _ _ _ (T.yJ R10.o bz) (T.yJ R20.o bz)).mono ?_;rintro e w3 ⟨rfl,hb3⟩;rw[hde]))
            have hb4:Below wr.heap.size wr w3:=by first|exact yR hb3|exact yR (undrew hb3)|exact yR (uH hb3)|exact hb3|exact undrew hb3|exact uH hb3
            have HC:=xN (yO HW.o HW.o.size hb4);have HC2:=xN (yO HB.o HB.o.size hb4);clear hb4 hb3;go_wp2;go_ret
            have hne:=uQz HG1.o HG2.o HE.o;exact⟨yN (by rw[HAB.o];simp[H0.o,H3.o,H5.o,HALL1.o,hne]),(by first|exact HC2.o|exact HC2.o.drew|exact below_drewN HC2.o _)⟩
          ·have hall:=uK (k:=k) zM HL2.o HS.o
           have HALL2:=xN hall;clear hall;have HKAz2:=HKA;have HKBz2:=HKB;have HBz2:=HB;generalize wr=wz2 at *;go_wp2
           go_loopw [7] (fun i wr=> ∃ k:Nat,k≤a.zK.length∧i= .int .i64 k∧a.zK.take k=b.zK.take k∧Below wz2.heap.size wz2 wr) (fun i _=>a.zK.length - (intOf i).toNat)
           case atStart=>exact⟨0,Nat.zero_le _,rfl,rfl,zR⟩
           case round=>
            obtain⟨k,hk,rfl,hs,hbw⟩:=hrel;have HS:=xN hs;have HW:=xN hbw;clear hs hbw;have HB:=xN (yO HBz2.o HBz2.o.size HW.o);have HKA:=xN (HKAz2.o.below HW.o HKAz2.o.lt);have HKB:=xN (HKBz2.o.below HW.o HKBz2.o.lt);have ka:=HKA.o.cell;have kb:=HKB.o.cell;have la:w.heap.size<wr.heap.size:=HKA.o.lt;have lb:w.heap.size+1<wr.heap.size:=HKB.o.lt;by_cases hlt:k<a.zK.length
            ·have hlt2:k<b.zK.length:=by have:=HL4.o;omega
             obtain⟨b1,o1,cs1,hA1,hbw1,hcs1,hcell1⟩:=HXA4.o k (xQ.t a.zK[k]) (by rw[List.getElem?_map,gE hlt];rfl);obtain⟨b2,o2,cs2,hA2,hbw2,hcs2,hcell2⟩:=HXB4.o k (xQ.t b.zK[k]) (by rw[List.getElem?_map,gE hlt2];rfl);subst hA1 hA2;have hg1:=gE hlt;have hg2:=gE hlt2;generalize a.zK[k]=x at *;generalize b.zK[k]=y at *;have HG1:=xN hg1;have HG2:=xN hg2;clear hg1 hg2;obtain⟨p1,p2,p3,rfl,hR11,hR12,hR13⟩:=xQ.yT (show T.rds _ _ _ by simpa only[xQ.t,T.rd] using hcs1);obtain⟨d10,d11,d12,d13⟩:=oc4 HB.o hbw1 hcell1;have R11:=xN (T.yJ hR11 HB.o);clear hR11;have R12:=xN (T.yJ hR12 HB.o);clear hR12;have R13:=xN (T.yJ hR13 HB.o);clear hR13;clear hcs1 hcell1;have hq1:b1<wr.heap.size:=zW hbw1 HB.o.size;obtain⟨pa1,pl1,pc1,rfl⟩:=T.xD R11.o;obtain⟨pa2,pl2,pc2,rfl⟩:=T.xD R12.o;obtain⟨pa3,pl3,pc3,rfl⟩:=T.xD R13.o;obtain⟨q1,q2,q3,rfl,hR21,hR22,hR23⟩:=xQ.yT (show T.rds _ _ _ by simpa only[xQ.t,T.rd] using hcs2);obtain⟨d20,d21,d22,d23⟩:=oc4 HB.o hbw2 hcell2;have R21:=xN (T.yJ hR21 HB.o);clear hR21;have R22:=xN (T.yJ hR22 HB.o);clear hR22;have R23:=xN (T.yJ hR23 HB.o);clear hR23;clear hcs2 hcell2;have hq2:b2<wr.heap.size:=zW hbw2 HB.o.size;obtain⟨qa1,ql1,qc1,rfl⟩:=T.xD R21.o;obtain⟨qa2,ql2,qc2,rfl⟩:=T.xD R22.o;obtain⟨qa3,ql3,qc3,rfl⟩:=T.xD R23.o;have hW:=HW.o;have hB:=HB.o;by_cases he:x=y
             ·have hde:decide (x=y)=true:=decide_eq_true he
              have HE:=xN he;clear he;go_wp2
              go_region_held3 (fun w'=>w'.cell? ⟨w.heap.size,4,none⟩=some (.slice (some ⟨b1,o1,none⟩) a.zK.length vc4)∧w'.cell? ⟨b1,o1+k * 4,none⟩=some (.int .i64 x.zU)∧w'.cell? ⟨b1,o1+k * 4+1,none⟩=some ((.slice pa1 pl1 pc1))∧w'.cell? ⟨b1,o1+k * 4+2,none⟩=some ((.slice pa2 pl2 pc2))∧w'.cell? ⟨b1,o1+k * 4+3,none⟩=some ((.slice pa3 pl3 pc3))∧w'.cell? ⟨w.heap.size+1,4,none⟩=some (.slice (some ⟨b2,o2,none⟩) b.zK.length uc4)∧w'.cell? ⟨b2,o2+k * 4,none⟩=some (.int .i64 y.zU)∧w'.cell? ⟨b2,o2+k * 4+1,none⟩=some ((.slice qa1 ql1 qc1))∧w'.cell? ⟨b2,o2+k * 4+2,none⟩=some ((.slice qa2 ql2 qc2))∧w'.cell? ⟨b2,o2+k * 4+3,none⟩=some ((.slice qa3 ql3 qc3))) (first|go_keep|(refine⟨(hb3.cell ?_).trans ?_,(hb3.cell ?_).trans ?_,(hb3.cell ?_).trans ?_,(hb3.cell ?_).trans ?_,(hb3.cell ?_).trans ?_,(hb3.cell ?_).trans ?_,(hb3.cell ?_).trans ?_,(hb3.cell ?_).trans ?_,(hb3.cell ?_).trans ?_,(hb3.cell ?_).trans ?_⟩<;>first|assumption|(simp[*];done)|(simp;omega))) (first|(go_at_call 30;refine(yYy x y _ _ _ _ _ _ _ (T.yJ R11.o bz) (T.yJ R12.o bz) (T.yJ R13.o bz) (T.yJ R21.o bz) (T.yJ R22.o bz) (T.yJ R23.o bz)).mono ?_;rintro e w3 ⟨rfl,hb3⟩;rw[hde]))
              have hb4:Below wr.heap.size wr w3:=by first|exact yR hb3|exact yR (undrew hb3)|exact yR (uH hb3)|exact hb3|exact undrew hb3|exact uH hb3
              have HC:=xN (yO HW.o HW.o.size hb4);have HC2:=xN (yO HB.o HB.o.size hb4);clear hb4 hb3;go_wp2
              go_roundw
              case rel=>exact⟨k+1,by omega,by go_num,uW HS.o HG1.o (by rw[HE.o];exact HG2.o),(by first|exact HC.o|exact HC.o.drew|exact below_drewN HC.o _)⟩
              case measure=>simp[intOf];omega
             ·have hde:decide (x=y)=false:=decide_eq_false he
              have HE:=xN he;clear he;go_wp2
              go_region_held3 (fun w'=>w'.cell? ⟨w.heap.size,4,none⟩=some (.slice (some ⟨b1,o1,none⟩) a.zK.length vc4)∧w'.cell? ⟨b1,o1+k * 4,none⟩=some (.int .i64 x.zU)∧w'.cell? ⟨b1,o1+k * 4+1,none⟩=some ((.slice pa1 pl1 pc1))∧w'.cell? ⟨b1,o1+k * 4+2,none⟩=some ((.slice pa2 pl2 pc2))∧w'.cell? ⟨b1,o1+k * 4+3,none⟩=some ((.slice pa3 pl3 pc3))∧w'.cell? ⟨w.heap.size+1,4,none⟩=some (.slice (some ⟨b2,o2,none⟩) b.zK.length uc4)∧w'.cell? ⟨b2,o2+k * 4,none⟩=some (.int .i64 y.zU)∧w'.cell? ⟨b2,o2+k * 4+1,none⟩=some ((.slice qa1 ql1 qc1))∧w'.cell? ⟨b2,o2+k * 4+2,none⟩=some ((.slice qa2 ql2 qc2))∧w'.cell? ⟨b2,o2+k * 4+3,none⟩=some ((.slice qa3 ql3 qc3))) (first|go_keep|(refine⟨(hb3.cell ?_).trans ?_,(hb3.cell ?_).trans ?_,(hb3.cell ?_).trans ?_,(hb3.cell ?_).trans ?_,(hb3.cell ?_).trans ?_,(hb3.cell ?_).trans ?_,(hb3.cell ?_).trans ?_,(hb3.cell ?_).trans ?_,(hb3.cell ?_).trans ?_,(hb3.cell ?_).trans ?_⟩<;>first|assumption|(simp[*];done)|(simp;omega))) (first|(go_at_call 30;refine(yYy x y _ _ _ _ _ _ _ (T.yJ R11.o bz) (T.yJ R12.o bz) (T.yJ R13.o bz) (T.yJ R21.o bz) (T.yJ R22.o bz) (T.yJ R23.o bz)).mono ?_;rintro e w3 ⟨rfl,hb3⟩;rw[hde]))
              have hb4:Below wr.heap.size wr w3:=by first|exact yR hb3|exact yR (undrew hb3)|exact yR (uH hb3)|exact hb3|exact undrew hb3|exact uH hb3
              have HC:=xN (yO HW.o HW.o.size hb4);have HC2:=xN (yO HB.o HB.o.size hb4);clear hb4 hb3;go_wp2;go_ret
              have hne:=uQz HG1.o HG2.o HE.o;exact⟨yN (by rw[HAB.o];simp[H0.o,H3.o,H5.o,HALL1.o,HALL2.o,hne]),(by first|exact HC2.o|exact HC2.o.drew|exact below_drewN HC2.o _)⟩
            ·have hall:=uK (k:=k) zM HL4.o HS.o
             have HALL4:=xN hall;clear hall;go_wp2;go_ret
             exact⟨yN (by rw[HAB.o];simp[H0.o,H3.o,H5.o,HALL1.o,HALL2.o,HALL4.o]),HB.o⟩
      ·have c5:decide (a.zH=b.zH)=false:=by simp[h5]
       have H5:=xN h5;clear h5
       go_enter Tryz.func10,Tryz.ntmps10
       go_wp2_with fail
       refine(zXz _ _ a.zL b.zL _ (T.xB.1 (T.yJ R3.o HB0.o)) (T.xB.1 (T.yJ Q3.o HB0.o))).mono ?_;rintro e w1 ⟨rfl,hd⟩;rw[c3];have hb:Below ((w.alloc (.cells #[.int .i64 a.zB,(.slice va1 a.zI.length vc1),(.slice va2 a.zG.length vc2),(.slice va3 vl3 vc3),(.slice va4 a.zK.length vc4),(.slice va5 vl5 vc5)] 32)).alloc (.cells #[.int .i64 b.zB,(.slice ua1 b.zI.length uc1),(.slice ua2 b.zG.length uc2),(.slice ua3 ul3 uc3),(.slice ua4 b.zK.length uc4),(.slice ua5 ul5 uc5)] 32)).heap.size ((w.alloc (.cells #[.int .i64 a.zB,(.slice va1 a.zI.length vc1),(.slice va2 a.zG.length vc2),(.slice va3 vl3 vc3),(.slice va4 a.zK.length vc4),(.slice va5 vl5 vc5)] 32)).alloc (.cells #[.int .i64 b.zB,(.slice ua1 b.zI.length uc1),(.slice ua2 b.zG.length uc2),(.slice ua3 ul3 uc3),(.slice ua4 b.zK.length uc4),(.slice ua5 ul5 uc5)] 32)) w1:=by first|exact hd.to_below _|exact hd
       have HKA1:=xN (HKA0.o.below hb HKA0.o.lt);have HKB1:=xN (HKB0.o.below hb HKB0.o.lt);have HB1:=xN (yO HB0.o HB0.o.size hb);clear hb hd;have ka1:=HKA1.o.cell;have kb1:=HKB1.o.cell;go_wp2_with fail
       refine(yZy a.zH b.zH _ _ _ (T.yJ R5.o HB1.o) (T.yJ Q5.o HB1.o)).mono ?_;rintro e w2 ⟨rfl,hd⟩;rw[c5];have hb:Below w1.heap.size w1 w2:=by first|exact hd.to_below _|exact hd
       have HKA2:=xN (HKA1.o.below hb HKA1.o.lt);have HKB2:=xN (HKB1.o.below hb HKB1.o.lt);have HB2:=xN (yO HB1.o HB1.o.size hb);clear hb hd;have ka2:=HKA2.o.cell;have kb2:=HKB2.o.cell;go_wp2;go_ret
       exact⟨yN (by rw[HAB.o];simp[H0.o,H3.o,H5.o]),HB2.o⟩
     ·have e4:((a.zK.length:Int) != (b.zK.length:Int))=true:=by simp;omega
      have H4:=xN (show ¬ a.zK=b.zK from fun e=>h4 (by rw[e]));clear h4
      go_enter Tryz.func10,Tryz.ntmps10
      go_wp2_with fail
      refine(zXz _ _ a.zL b.zL _ (T.xB.1 (T.yJ R3.o HB0.o)) (T.xB.1 (T.yJ Q3.o HB0.o))).mono ?_;rintro e w1 ⟨rfl,hd⟩;rw[c3];have hb:Below ((w.alloc (.cells #[.int .i64 a.zB,(.slice va1 a.zI.length vc1),(.slice va2 a.zG.length vc2),(.slice va3 vl3 vc3),(.slice va4 a.zK.length vc4),(.slice va5 vl5 vc5)] 32)).alloc (.cells #[.int .i64 b.zB,(.slice ua1 b.zI.length uc1),(.slice ua2 b.zG.length uc2),(.slice ua3 ul3 uc3),(.slice ua4 b.zK.length uc4),(.slice ua5 ul5 uc5)] 32)).heap.size ((w.alloc (.cells #[.int .i64 a.zB,(.slice va1 a.zI.length vc1),(.slice va2 a.zG.length vc2),(.slice va3 vl3 vc3),(.slice va4 a.zK.length vc4),(.slice va5 vl5 vc5)] 32)).alloc (.cells #[.int .i64 b.zB,(.slice ua1 b.zI.length uc1),(.slice ua2 b.zG.length uc2),(.slice ua3 ul3 uc3),(.slice ua4 b.zK.length uc4),(.slice ua5 ul5 uc5)] 32)) w1:=by first|exact hd.to_below _|exact hd
      have HKA1:=xN (HKA0.o.below hb HKA0.o.lt);have HKB1:=xN (HKB0.o.below hb HKB0.o.lt);have HB1:=xN (yO HB0.o HB0.o.size hb);clear hb hd;have ka1:=HKA1.o.cell;have kb1:=HKB1.o.cell;go_wp2;go_ret
      exact⟨yN (by rw[HAB.o];simp[H0.o,H3.o,H4.o]),HB1.o⟩
    ·have c3:decide (a.zL=b.zL)=false:=by simp[h3]
     have H3:=xN h3;clear h3
     go_enter Tryz.func10,Tryz.ntmps10
     go_wp2_with fail
     refine(zXz _ _ a.zL b.zL _ (T.xB.1 (T.yJ R3.o HB0.o)) (T.xB.1 (T.yJ Q3.o HB0.o))).mono ?_;rintro e w1 ⟨rfl,hd⟩;rw[c3];have hb:Below ((w.alloc (.cells #[.int .i64 a.zB,(.slice va1 a.zI.length vc1),(.slice va2 a.zG.length vc2),(.slice va3 vl3 vc3),(.slice va4 a.zK.length vc4),(.slice va5 vl5 vc5)] 32)).alloc (.cells #[.int .i64 b.zB,(.slice ua1 b.zI.length uc1),(.slice ua2 b.zG.length uc2),(.slice ua3 ul3 uc3),(.slice ua4 b.zK.length uc4),(.slice ua5 ul5 uc5)] 32)).heap.size ((w.alloc (.cells #[.int .i64 a.zB,(.slice va1 a.zI.length vc1),(.slice va2 a.zG.length vc2),(.slice va3 vl3 vc3),(.slice va4 a.zK.length vc4),(.slice va5 vl5 vc5)] 32)).alloc (.cells #[.int .i64 b.zB,(.slice ua1 b.zI.length uc1),(.slice ua2 b.zG.length uc2),(.slice ua3 ul3 uc3),(.slice ua4 b.zK.length uc4),(.slice ua5 ul5 uc5)] 32)) w1:=by first|exact hd.to_below _|exact hd
     have HKA1:=xN (HKA0.o.below hb HKA0.o.lt);have HKB1:=xN (HKB0.o.below hb HKB0.o.lt);have HB1:=xN (yO HB0.o HB0.o.size hb);clear hb hd;have ka1:=HKA1.o.cell;have kb1:=HKB1.o.cell;go_wp2;go_ret
     exact⟨yN (by rw[HAB.o];simp[H0.o,H3.o]),HB1.o⟩
   ·have e2:((a.zG.length:Int) != (b.zG.length:Int))=true:=by simp;omega
    have H2:=xN (show ¬ a.zG=b.zG from fun e=>h2 (by rw[e]));clear h2
    go_enter Tryz.func10,Tryz.ntmps10
    go_wp2;go_ret
    exact⟨yN (by rw[HAB.o];simp[H0.o,H2.o]),HB0.o⟩
  ·have e1:((a.zI.length:Int) != (b.zI.length:Int))=true:=by simp;omega
   have H1:=xN (show ¬ a.zI=b.zI from fun e=>h1 (by rw[e]));clear h1
   go_enter Tryz.func10,Tryz.ntmps10
   go_wp2;go_ret
   exact⟨yN (by rw[HAB.o];simp[H0.o,H1.o]),HB0.o⟩
 ·have e0:(a.zB != b.zB)=true:=by simp[h0]
  have H0:=xN h0;clear h0
  go_enter Tryz.func10,Tryz.ntmps10
  go_wp2;go_ret
  exact⟨yN (by rw[HAB.o];simp[H0.o]),HB0.o⟩
end Go.Proofs.YtdcofkabaigjpaaGreat
