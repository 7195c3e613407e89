/- Contracts: which sessions and desks are the same, by the reference. -/
import Derived.Test.YtdcofkabaigjpaaGreatQBhUndone
set_option linter.unusedVariables false
set_option linter.unusedSimpArgs false
set_option maxHeartbeats 2000000
set_option maxRecDepth 20000
namespace Go.Proofs.YtdcofkabaigjpaaGreat
open Go.RowKit
theorem c_l26Same (a b:xO) (b1 o1 b2 o2:Nat) (v2 u2:Value) (w:World) (hb1:b1<w.heap.size) (hb2:b2<w.heap.size)
  (d0:w.cell? ⟨b1,o1,none⟩=some (.string a.yC)) (d1:w.cell? ⟨b1,o1+1,none⟩=some (.int .i64 a.yA)) (d2:w.cell? ⟨b1,o1+2,none⟩=some v2)
  (g0:w.cell? ⟨b2,o2,none⟩=some (.string b.yC)) (g1:w.cell? ⟨b2,o2+1,none⟩=some (.int .i64 b.yA)) (g2:w.cell? ⟨b2,o2+2,none⟩=some u2)
  (r2:T.rd w (T.sl 71 2 (a.zV.map xV.t)) [v2]) (t2:T.rd w (T.sl 71 2 (b.zV.map xV.t)) [u2]):
  Calls Tryz.prog 62 #[.pointer (some ⟨b1,o1,none⟩),.pointer (some ⟨b2,o2,none⟩)] w fun e w'=>e= .returned (.bool (decide (a=b)))∧Dr w w':=by
 have hab:decide (a=b)=(decide (a.yC=b.yC) && (decide (a.yA=b.yA) && decide (a.zV=b.zV))):=by
  obtain⟨x0,x1,x2⟩:=a;obtain⟨y0,y1,y2⟩:=b;rw[Bool.eq_iff_iff];simp only[xO.mk.injEq,decide_eq_true_eq,Bool.and_eq_true]
 have HAB:=xL hab;clear hab;obtain⟨A1,cap1,rfl,hl1,hc1,hx1⟩:=T.yR r2;obtain⟨A2,cap2,rfl,hl2,hc2,hx2⟩:=T.yR t2;rw[List.length_map] at hl1 hl2 d2 g2;have HX1:=xL hx1;have HX2:=xL hx2;clear hx1 hx2 r2 t2;by_cases h0:a.yC=b.yC
 ·have e0:(a.yC.toList == b.yC.toList)=true:=by rw[str_eq];simp[h0]
  have H0:=xL h0;clear h0;by_cases h1:a.yA=b.yA
  ·have e1:(a.yA != b.yA)=false:=by simp[h1]
   have H1:=xL h1;clear h1;by_cases hll:a.zV.length=b.zV.length
   ·have hb:((a.zV.length:Int) != (b.zV.length:Int))=false:=by simp[hll]
    have HL:=xL hll;clear hll;have hgd:=eqg_Send
    go_enter Tryz.func62,Tryz.ntmps62
    go_wp2
    go_quiet (fail)
    go_wp2
    go_loopw [5] (fun i wr=> ∃ k:Nat,k≤a.zV.length∧i= .int .i64 k∧a.zV.take k=b.zV.take k∧Dr w wr) (fun i _=>a.zV.length - (intOf i).toNat)
    case atStart=>exact⟨0,Nat.zero_le _,rfl,rfl,(by repeat(first|exact Dr.refl _|exact⟨_,rfl⟩|refine Dr.drewN ?_ _|refine Dr.drew ?_))⟩
    case round=>
     obtain⟨k,hk,rfl,hs,nr,rfl⟩:=hrel;have HS:=xL hs;clear hs;by_cases hlt:k<a.zV.length
     ·have hlt2:k<b.zV.length:=by have:=HL.out;omega
      obtain⟨c1,p1,cs1,rfl,hbw1,hcs1,hcell1⟩:=HX1.out k (xV.t a.zV[k]) (by rw[List.getElem?_map,gE hlt];rfl);obtain⟨c2,p2,cs2,rfl,hbw2,hcs2,hcell2⟩:=HX2.out k (xV.t b.zV[k]) (by rw[List.getElem?_map,gE hlt2];rfl);have hg1:=gE hlt;have hg2:=gE hlt2;generalize a.zV[k]=x at *;generalize b.zV[k]=y at *;have HG1:=xL hg1;have HG2:=xL hg2;clear hg1 hg2;obtain rfl:=xV.yR (show T.rds _ _ _ by simpa only[xV.t,T.rd] using hcs1);have pc0:=hcell1 0 _ rfl;rw[show p1+(k * 2+0)=p1+k * 2 by omega] at pc0;have pc1:=hcell1 1 _ rfl;rw[show p1+(k * 2+1)=p1+k * 2+1 by omega] at pc1;obtain rfl:=xV.yR (show T.rds _ _ _ by simpa only[xV.t,T.rd] using hcs2);have qc0:=hcell2 0 _ rfl;rw[show p2+(k * 2+0)=p2+k * 2 by omega] at qc0;have qc1:=hcell2 1 _ rfl;rw[show p2+(k * 2+1)=p2+k * 2+1 by omega] at qc1;clear hcs1 hcs2 hcell1 hcell2;have heq: ∀ w,(Op.equalIn 10000 71 (.agg #[.int .i64 x.yG,.int .i64 x.zZ]) (.agg #[.int .i64 y.yG,.int .i64 y.zZ])).run Tryz.prog w= .ok (decide (x=y)) w:=eq_Send 9998 x y;by_cases he:x=y
      ·have hde:decide (x=y)=true:=decide_eq_true he
       rw[hde] at heq;have HE:=xL he;clear he hde;go_wp2
       go_quiet (fail)
       go_wp2
       go_roundw
       case rel=>exact⟨k+1,by omega,by go_num,vS HS.out HG1.out (by rw[HE.out];exact HG2.out),(by repeat(first|exact Dr.refl _|exact⟨_,rfl⟩|refine Dr.drewN ?_ _|refine Dr.drew ?_))⟩
       case measure=>simp[intOf];omega
      ·have hde:decide (x=y)=false:=decide_eq_false he
       rw[hde] at heq;have HE:=xL he;clear he hde;go_wp2
       go_quiet (fail)
       go_wp2;go_ret
       have hne:=xHz HG1.out HG2.out HE.out;exact⟨yK (by rw[HAB.out];simp[H0.out,H1.out,hne]),(by repeat(first|exact Dr.refl _|exact⟨_,rfl⟩|refine Dr.drewN ?_ _|refine Dr.drew ?_))⟩
     ·have hall:=vN (k:=k) zM HL.out HS.out
      have HALL:=xL hall;clear hall;go_wp2;go_ret
      exact⟨yK (by rw[HAB.out];simp[H0.out,H1.out,HALL.out]),(by repeat(first|exact Dr.refl _|exact⟨_,rfl⟩|refine Dr.drewN ?_ _|refine Dr.drew ?_))⟩
   ·have hb:((a.zV.length:Int) != (b.zV.length:Int))=true:=by simp;omega
    have H2:=xL (show ¬ a.zV=b.zV from fun e=>hll (by rw[e]));clear hll
    go_enter Tryz.func62,Tryz.ntmps62
    go_wp2
    go_quiet (fail)
    go_wp2;go_ret
    exact⟨yK (by rw[HAB.out];simp[H0.out,H1.out,H2.out]),(by repeat(first|exact Dr.refl _|exact⟨_,rfl⟩|refine Dr.drewN ?_ _|refine Dr.drew ?_))⟩
  ·have e1:(a.yA != b.yA)=true:=by simp[h1]
   have H1:=xL h1;clear h1
   go_enter Tryz.func62,Tryz.ntmps62
   go_wp2
   go_quiet (fail)
   go_wp2;go_ret
   exact⟨yK (by rw[HAB.out];simp[H0.out,H1.out]),(by repeat(first|exact Dr.refl _|exact⟨_,rfl⟩|refine Dr.drewN ?_ _|refine Dr.drew ?_))⟩
 ·have e0:(a.yC.toList == b.yC.toList)=false:=by rw[str_eq];simp[h0]
  have H0:=xL h0;clear h0
  go_enter Tryz.func62,Tryz.ntmps62
  go_wp2
  go_quiet (fail)
  go_wp2;go_ret
  exact⟨yK (by rw[HAB.out];simp[H0.out]),(by repeat(first|exact Dr.refl _|exact⟨_,rfl⟩|refine Dr.drewN ?_ _|refine Dr.drew ?_))⟩
theorem vEz (a b:uP) (v0:Value) (u0:Value) (w:World) (r0:T.rd w (T.sl 74 3 (a.zF.map xO.t)) [v0]) (t0:T.rd w (T.sl 74 3 (b.zF.map xO.t)) [u0]):
  Calls Tryz.prog 28 #[.agg #[v0],.agg #[u0]] w fun e w'=>e= .returned (.bool (decide (a=b)))∧Below w.heap.size w w':=by
 have hab:decide (a=b)=(decide (a.zF=b.zF)):=by
  obtain⟨x0⟩:=a;obtain⟨y0⟩:=b;rw[Bool.eq_iff_iff];simp only[uP.mk.injEq,decide_eq_true_eq,Bool.and_eq_true]
  try (constructor<;>(intro h;simp[h]))
 have R0:=xL r0;have Q0:=xL t0;obtain⟨va0,vc0,rfl,hla0,hca0,hxa0⟩:=T.yR r0;obtain⟨ua0,uc0,rfl,hlb0,hcb0,hxb0⟩:=T.yR t0;rw[List.length_map] at hla0 hlb0 R0 Q0 ⊢;rw[List.length_map];have HXA0:=xL hxa0;have HXB0:=xL hxb0;clear hxa0 hxb0;clear r0 t0;have HAB:=xL hab;clear hab;have HB0:=xL (show Below w.heap.size w ((w.alloc (.cells #[(.slice va0 a.zF.length vc0)] 30)).alloc (.cells #[(.slice ua0 b.zF.length uc0)] 30)) from(zR.alloc zJ _).alloc zQ _);have HKA0:=xL ((Bk.born w 30 #[(.slice va0 a.zF.length vc0)]).alloc (.cells #[(.slice ua0 b.zF.length uc0)] 30));have HKB0:=xL (Bk.born1' w (.cells #[(.slice va0 a.zF.length vc0)] 30) 30 #[(.slice ua0 b.zF.length uc0)]);by_cases h0:a.zF.length=b.zF.length
 ·have e0:((a.zF.length:Int) != (b.zF.length:Int))=false:=by simp;omega
  have HL0:=xL h0;clear h0
  go_enter Tryz.func28,Tryz.ntmps28
  go_wp2
  go_loopw [5] (fun i wr=> ∃ k:Nat,k≤a.zF.length∧i= .int .i64 k∧a.zF.take k=b.zF.take k∧Below ((w.alloc (.cells #[(.slice va0 a.zF.length vc0)] 30)).alloc (.cells #[(.slice ua0 b.zF.length uc0)] 30)).heap.size ((w.alloc (.cells #[(.slice va0 a.zF.length vc0)] 30)).alloc (.cells #[(.slice ua0 b.zF.length uc0)] 30)) wr) (fun i _=>a.zF.length - (intOf i).toNat)
  case atStart=>exact⟨0,Nat.zero_le _,rfl,rfl,zR⟩
  case round=>
   obtain⟨k,hk,rfl,hs,hbw⟩:=hrel;have HS:=xL hs;have HW:=xL hbw;clear hs hbw;have HB:=xL (yM HB0.out HB0.out.size HW.out);have HKA:=xL (HKA0.out.below HW.out HKA0.out.lt);have HKB:=xL (HKB0.out.below HW.out HKB0.out.lt);have ka:=HKA.out.cell;have kb:=HKB.out.cell;have la:w.heap.size<wr.heap.size:=HKA.out.lt;have lb:w.heap.size+1<wr.heap.size:=HKB.out.lt;by_cases hlt:k<a.zF.length
   ·have hlt2:k<b.zF.length:=by have:=HL0.out;omega
    obtain⟨b1,o1,cs1,hA1,hbw1,hcs1,hcell1⟩:=HXA0.out k (xO.t a.zF[k]) (by rw[List.getElem?_map,gE hlt];rfl);obtain⟨b2,o2,cs2,hA2,hbw2,hcs2,hcell2⟩:=HXB0.out k (xO.t b.zF[k]) (by rw[List.getElem?_map,gE hlt2];rfl);subst hA1 hA2;have hg1:=gE hlt;have hg2:=gE hlt2;generalize a.zF[k]=x at *;generalize b.zF[k]=y at *;have HG1:=xL hg1;have HG2:=xL hg2;clear hg1 hg2;obtain⟨p2,rfl,hR12⟩:=xO.yR (show T.rds _ _ _ by simpa only[xO.t,T.rd] using hcs1);have d10:=(HB.out.cell hbw1).trans (hcell1 0 (.string x.yC) rfl);have d11:=(HB.out.cell hbw1).trans (hcell1 1 (.int .i64 x.yA) rfl);have d12:=(HB.out.cell hbw1).trans (hcell1 2 (p2) rfl);rw[show o1+(k * 3+0)=o1+k * 3 by omega] at d10;rw[show o1+(k * 3+1)=o1+k * 3+1 by omega] at d11;rw[show o1+(k * 3+2)=o1+k * 3+2 by omega] at d12;have R12:=xL (T.yH hR12 HB.out);clear hR12;clear hcs1 hcell1;have hq1:b1<wr.heap.size:=zW hbw1 HB.out.size;obtain⟨pa2,pl2,pc2,rfl⟩:=T.xB R12.out;obtain⟨q2,rfl,hR22⟩:=xO.yR (show T.rds _ _ _ by simpa only[xO.t,T.rd] using hcs2);have d20:=(HB.out.cell hbw2).trans (hcell2 0 (.string y.yC) rfl);have d21:=(HB.out.cell hbw2).trans (hcell2 1 (.int .i64 y.yA) rfl);have d22:=(HB.out.cell hbw2).trans (hcell2 2 (q2) rfl);rw[show o2+(k * 3+0)=o2+k * 3 by omega] at d20;rw[show o2+(k * 3+1)=o2+k * 3+1 by omega] at d21;rw[show o2+(k * 3+2)=o2+k * 3+2 by omega] at d22;have R22:=xL (T.yH hR22 HB.out);clear hR22;clear hcs2 hcell2;have hq2:b2<wr.heap.size:=zW hbw2 HB.out.size;obtain⟨qa2,ql2,qc2,rfl⟩:=T.xB R22.out;have hW:=HW.out;have hB:=HB.out;by_cases he:x=y
    ·have hde:decide (x=y)=true:=decide_eq_true he
     have HE:=xL he;clear he;go_wp2
     go_quiet ((go_at_call 62;exact Calls.quiet_of ((c_l26Same x y b1 (o1+k * 3) b2 (o2+k * 3) _ _ _ (by exact hq1) (by exact hq2) (by exact d10) (by exact d11) (by exact d12) (by exact d20) (by exact d21) (by exact d22) (T.yH R12.out (by repeat(first|with_reducible exact zR|with_reducible refine Below.alloc ?_ zJ _|with_reducible refine Below.drew ?_|with_reducible refine below_drewN ?_ _))) (T.yH R22.out (by repeat(first|with_reducible exact zR|with_reducible refine Below.alloc ?_ zJ _|with_reducible refine Below.drew ?_|with_reducible refine below_drewN ?_ _)))).mono (fun e w' h=>by rw[hde] at h;exact h))))
     go_wp2
     go_roundw
     case rel=>exact⟨k+1,by omega,by go_num,vS HS.out HG1.out (by rw[HE.out];exact HG2.out),ba⟩
     case measure=>simp[intOf];omega
    ·have hde:decide (x=y)=false:=decide_eq_false he
     have HE:=xL he;clear he;go_wp2
     go_quiet ((go_at_call 62;exact Calls.quiet_of ((c_l26Same x y b1 (o1+k * 3) b2 (o2+k * 3) _ _ _ (by exact hq1) (by exact hq2) (by exact d10) (by exact d11) (by exact d12) (by exact d20) (by exact d21) (by exact d22) (T.yH R12.out (by repeat(first|with_reducible exact zR|with_reducible refine Below.alloc ?_ zJ _|with_reducible refine Below.drew ?_|with_reducible refine below_drewN ?_ _))) (T.yH R22.out (by repeat(first|with_reducible exact zR|with_reducible refine Below.alloc ?_ zJ _|with_reducible refine Below.drew ?_|with_reducible refine below_drewN ?_ _)))).mono (fun e w' h=>by rw[hde] at h;exact h))))
     go_wp2;go_ret
     have hne:=xHz HG1.out HG2.out HE.out;exact⟨yK (by rw[HAB.out];simp[hne]),ba⟩
   ·have hall:=vN (k:=k) zM HL0.out HS.out
    have HALL0:=xL hall;clear hall;go_wp2;go_ret
    exact⟨yK (by rw[HAB.out];simp[HALL0.out]),HB.out⟩
 ·have e0:((a.zF.length:Int) != (b.zF.length:Int))=true:=by simp;omega
  have H0:=xL (show ¬ a.zF=b.zF from fun e=>h0 (by rw[e]));clear h0
  go_enter Tryz.func28,Tryz.ntmps28
  go_wp2;go_ret
  exact⟨yK (by rw[HAB.out];simp[H0.out]),HB0.out⟩
theorem c_sSameSession (a b:xM) (v1:Value) (v2:Value) (v3:Value) (v4:Value) (v5:Value) (u1:Value) (u2:Value) (u3:Value) (u4:Value) (u5:Value) (w:World) (r1:T.rd w (T.sl 26 1 (a.zD.map (T.ints 2))) [v1]) (r2:T.rd w (T.sl 69 1 (a.zB.map xN.t)) [v2]) (r3:T.rd w (T.ints 2 a.zO) [v3]) (r4:T.rd w (T.sl 81 4 (a.zG.map xQ.t)) [v4]) (r5:T.rd w (T.sl 74 3 (a.zI.zF.map xO.t)) [v5]) (t1:T.rd w (T.sl 26 1 (b.zD.map (T.ints 2))) [u1]) (t2:T.rd w (T.sl 69 1 (b.zB.map xN.t)) [u2]) (t3:T.rd w (T.ints 2 b.zO) [u3]) (t4:T.rd w (T.sl 81 4 (b.zG.map xQ.t)) [u4]) (t5:T.rd w (T.sl 74 3 (b.zI.zF.map xO.t)) [u5]):
  Calls Tryz.prog 10 #[.agg #[.int .i64 a.zA,v1,v2,v3,v4,v5],.agg #[.int .i64 b.zA,u1,u2,u3,u4,u5]] w fun e w'=>e= .returned (.bool (decide (a=b)))∧Below w.heap.size w w':=by
 have hab:decide (a=b)=(decide (a.zA=b.zA) && (decide (a.zD=b.zD) && (decide (a.zB=b.zB) && (decide (a.zO=b.zO) && (decide (a.zG=b.zG) && (decide (a.zI=b.zI))))))):=by
  obtain⟨x0,x1,x2,x3,x4,x5⟩:=a;obtain⟨y0,y1,y2,y3,y4,y5⟩:=b;rw[Bool.eq_iff_iff];simp only[xM.mk.injEq,decide_eq_true_eq,Bool.and_eq_true]
  try (constructor<;>(intro h;simp[h]))
 have R1:=xL r1;have Q1:=xL t1;have R2:=xL r2;have Q2:=xL t2;have R3:=xL r3;have Q3:=xL t3;have R4:=xL r4;have Q4:=xL t4;have R5:=xL r5;have Q5:=xL t5;obtain⟨va1,vc1,rfl,hla1,hca1,hxa1⟩:=T.yR r1;obtain⟨ua1,uc1,rfl,hlb1,hcb1,hxb1⟩:=T.yR t1;rw[List.length_map] at hla1 hlb1 R1 Q1 ⊢;rw[List.length_map];have HXA1:=xL hxa1;have HXB1:=xL hxb1;clear hxa1 hxb1;obtain⟨va2,vc2,rfl,hla2,hca2,hxa2⟩:=T.yR r2;obtain⟨ua2,uc2,rfl,hlb2,hcb2,hxb2⟩:=T.yR t2;rw[List.length_map] at hla2 hlb2 R2 Q2 ⊢;rw[List.length_map];have HXA2:=xL hxa2;have HXB2:=xL hxb2;clear hxa2 hxb2;obtain⟨va3,vl3,vc3,rfl⟩:=T.xB r3;obtain⟨ua3,ul3,uc3,rfl⟩:=T.xB t3;obtain⟨va4,vc4,rfl,hla4,hca4,hxa4⟩:=T.yR r4;obtain⟨ua4,uc4,rfl,hlb4,hcb4,hxb4⟩:=T.yR t4;rw[List.length_map] at hla4 hlb4 R4 Q4 ⊢;rw[List.length_map];have HXA4:=xL hxa4;have HXB4:=xL hxb4;clear hxa4 hxb4;obtain⟨va5,vl5,vc5,rfl⟩:=T.xB r5;obtain⟨ua5,ul5,uc5,rfl⟩:=T.xB t5;clear r1 t1 r2 t2 r3 t3 r4 t4 r5 t5;have HAB:=xL hab;clear hab;have HB0:=xL (show Below w.heap.size w ((w.alloc (.cells #[.int .i64 a.zA,(.slice va1 a.zD.length vc1),(.slice va2 a.zB.length vc2),(.slice va3 vl3 vc3),(.slice va4 a.zG.length vc4),(.slice va5 vl5 vc5)] 32)).alloc (.cells #[.int .i64 b.zA,(.slice ua1 b.zD.length uc1),(.slice ua2 b.zB.length uc2),(.slice ua3 ul3 uc3),(.slice ua4 b.zG.length uc4),(.slice ua5 ul5 uc5)] 32)) from(zR.alloc zJ _).alloc zQ _);have HKA0:=xL ((Bk.born w 32 #[.int .i64 a.zA,(.slice va1 a.zD.length vc1),(.slice va2 a.zB.length vc2),(.slice va3 vl3 vc3),(.slice va4 a.zG.length vc4),(.slice va5 vl5 vc5)]).alloc (.cells #[.int .i64 b.zA,(.slice ua1 b.zD.length uc1),(.slice ua2 b.zB.length uc2),(.slice ua3 ul3 uc3),(.slice ua4 b.zG.length uc4),(.slice ua5 ul5 uc5)] 32));have HKB0:=xL (Bk.born1' w (.cells #[.int .i64 a.zA,(.slice va1 a.zD.length vc1),(.slice va2 a.zB.length vc2),(.slice va3 vl3 vc3),(.slice va4 a.zG.length vc4),(.slice va5 vl5 vc5)] 32) 32 #[.int .i64 b.zA,(.slice ua1 b.zD.length uc1),(.slice ua2 b.zB.length uc2),(.slice ua3 ul3 uc3),(.slice ua4 b.zG.length uc4),(.slice ua5 ul5 uc5)]);by_cases h0:a.zA=b.zA
 ·have e0:(a.zA != b.zA)=false:=by simp[h0]
  have H0:=xL h0;clear h0;by_cases h1:a.zD.length=b.zD.length
  ·have e1:((a.zD.length:Int) != (b.zD.length:Int))=false:=by simp;omega
   have HL1:=xL h1;clear h1;by_cases h2:a.zB.length=b.zB.length
   ·have e2:((a.zB.length:Int) != (b.zB.length:Int))=false:=by simp;omega
    have HL2:=xL h2;clear h2;by_cases h3:a.zO=b.zO
    ·have c3:decide (a.zO=b.zO)=true:=by simp[h3]
     have H3:=xL h3;clear h3;by_cases h4:a.zG.length=b.zG.length
     ·have e4:((a.zG.length:Int) != (b.zG.length:Int))=false:=by simp;omega
      have HL4:=xL h4;clear h4;by_cases h5:a.zI=b.zI
      ·have c5:decide (a.zI=b.zI)=true:=by simp[h5]
       have H5:=xL h5;clear h5
       go_enter Tryz.func10,Tryz.ntmps10
       go_wp2_with fail
       refine(uH _ _ a.zO b.zO _ (T.yZ.1 (T.yH R3.out HB0.out)) (T.yZ.1 (T.yH Q3.out HB0.out))).mono ?_;rintro e w1 ⟨rfl,hd⟩;rw[c3];have hb:Below ((w.alloc (.cells #[.int .i64 a.zA,(.slice va1 a.zD.length vc1),(.slice va2 a.zB.length vc2),(.slice va3 vl3 vc3),(.slice va4 a.zG.length vc4),(.slice va5 vl5 vc5)] 32)).alloc (.cells #[.int .i64 b.zA,(.slice ua1 b.zD.length uc1),(.slice ua2 b.zB.length uc2),(.slice ua3 ul3 uc3),(.slice ua4 b.zG.length uc4),(.slice ua5 ul5 uc5)] 32)).heap.size ((w.alloc (.cells #[.int .i64 a.zA,(.slice va1 a.zD.length vc1),(.slice va2 a.zB.length vc2),(.slice va3 vl3 vc3),(.slice va4 a.zG.length vc4),(.slice va5 vl5 vc5)] 32)).alloc (.cells #[.int .i64 b.zA,(.slice ua1 b.zD.length uc1),(.slice ua2 b.zB.length uc2),(.slice ua3 ul3 uc3),(.slice ua4 b.zG.length uc4),(.slice ua5 ul5 uc5)] 32)) w1:=by first|exact hd.to_below _|exact hd
       have HKA1:=xL (HKA0.out.below hb HKA0.out.lt);have HKB1:=xL (HKB0.out.below hb HKB0.out.lt);have HB1:=xL (yM HB0.out HB0.out.size hb);clear hb hd;have ka1:=HKA1.out.cell;have kb1:=HKB1.out.cell;go_wp2_with fail
       refine(vEz a.zI b.zI _ _ _ (T.yH R5.out HB1.out) (T.yH Q5.out HB1.out)).mono ?_;rintro e w2 ⟨rfl,hd⟩;rw[c5];have hb:Below w1.heap.size w1 w2:=by first|exact hd.to_below _|exact hd
       have HKA2:=xL (HKA1.out.below hb HKA1.out.lt);have HKB2:=xL (HKB1.out.below hb HKB1.out.lt);have HB2:=xL (yM HB1.out HB1.out.size hb);clear hb hd;have ka2:=HKA2.out.cell;have kb2:=HKB2.out.cell;go_wp2
       go_loopw [5] (fun i wr=> ∃ k:Nat,k≤a.zD.length∧i= .int .i64 k∧a.zD.take k=b.zD.take k∧Below w2.heap.size w2 wr) (fun i _=>a.zD.length - (intOf i).toNat)
       case atStart=>exact⟨0,Nat.zero_le _,rfl,rfl,zR⟩
       case round=>
        obtain⟨k,hk,rfl,hs,hbw⟩:=hrel;have HS:=xL hs;have HW:=xL hbw;clear hs hbw;have HB:=xL (yM HB2.out HB2.out.size HW.out);have HKA:=xL (HKA2.out.below HW.out HKA2.out.lt);have HKB:=xL (HKB2.out.below HW.out HKB2.out.lt);have ka:=HKA.out.cell;have kb:=HKB.out.cell;have la:w.heap.size<wr.heap.size:=HKA.out.lt;have lb:w.heap.size+1<wr.heap.size:=HKB.out.lt;by_cases hlt:k<a.zD.length
        ·have hlt2:k<b.zD.length:=by have:=HL1.out;omega
         obtain⟨b1,o1,cs1,hA1,hbw1,hcs1,hcell1⟩:=HXA1.out k (T.ints 2 a.zD[k]) (by rw[List.getElem?_map,gE hlt];rfl);obtain⟨b2,o2,cs2,hA2,hbw2,hcs2,hcell2⟩:=HXB1.out k (T.ints 2 b.zD[k]) (by rw[List.getElem?_map,gE hlt2];rfl);subst hA1 hA2;have hg1:=gE hlt;have hg2:=gE hlt2;generalize a.zD[k]=x at *;generalize b.zD[k]=y at *;have HG1:=xL hg1;have HG2:=xL hg2;clear hg1 hg2;obtain⟨v1,rfl⟩:=T.rd_one hcs1;have d1:=(HB.out.cell hbw1).trans (hcell1 0 v1 rfl);rw[Nat.mul_one,Nat.add_zero] at d1;have R1:=xL (T.yZ.1 (T.yH hcs1 HB.out));obtain⟨v2,rfl⟩:=T.rd_one hcs2;have d2:=(HB.out.cell hbw2).trans (hcell2 0 v2 rfl);rw[Nat.mul_one,Nat.add_zero] at d2;have R2:=xL (T.yZ.1 (T.yH hcs2 HB.out));clear hcs1 hcs2 hcell1 hcell2;have hW:=HW.out;have hB:=HB.out;by_cases he:x=y
         ·have hde:decide (x=y)=true:=decide_eq_true he
          have HE:=xL he;clear he;go_wp2
          go_quiet ((go_at_call 27;exact Calls.quiet_of ((uH _ _ x y _ (Rd.drewN R1.out _) (Rd.drewN R2.out _)).mono (fun e w' h=>by rw[hde] at h;exact h))))
          go_wp2
          go_roundw
          case rel=>exact⟨k+1,by omega,by go_num,vS HS.out HG1.out (by rw[HE.out];exact HG2.out),ba⟩
          case measure=>simp[intOf];omega
         ·have hde:decide (x=y)=false:=decide_eq_false he
          have HE:=xL he;clear he;go_wp2
          go_quiet ((go_at_call 27;exact Calls.quiet_of ((uH _ _ x y _ (Rd.drewN R1.out _) (Rd.drewN R2.out _)).mono (fun e w' h=>by rw[hde] at h;exact h))))
          go_wp2;go_ret
          have hne:=xHz HG1.out HG2.out HE.out;exact⟨yK (by rw[HAB.out];simp[H0.out,H3.out,H5.out,hne]),ba⟩
        ·have hall:=vN (k:=k) zM HL1.out HS.out
         have HALL1:=xL hall;clear hall;have HKAz1:=HKA;have HKBz1:=HKB;have HBz1:=HB;generalize wr=wz1 at *;go_wp2
         go_loopw [6] (fun i wr=> ∃ k:Nat,k≤a.zB.length∧i= .int .i64 k∧a.zB.take k=b.zB.take k∧Below wz1.heap.size wz1 wr) (fun i _=>a.zB.length - (intOf i).toNat)
         case atStart=>exact⟨0,Nat.zero_le _,rfl,rfl,zR⟩
         case round=>
          obtain⟨k,hk,rfl,hs,hbw⟩:=hrel;have HS:=xL hs;have HW:=xL hbw;clear hs hbw;have HB:=xL (yM HBz1.out HBz1.out.size HW.out);have HKA:=xL (HKAz1.out.below HW.out HKAz1.out.lt);have HKB:=xL (HKBz1.out.below HW.out HKBz1.out.lt);have ka:=HKA.out.cell;have kb:=HKB.out.cell;have la:w.heap.size<wr.heap.size:=HKA.out.lt;have lb:w.heap.size+1<wr.heap.size:=HKB.out.lt;by_cases hlt:k<a.zB.length
          ·have hlt2:k<b.zB.length:=by have:=HL2.out;omega
           obtain⟨b1,o1,cs1,hA1,hbw1,hcs1,hcell1⟩:=HXA2.out k (xN.t a.zB[k]) (by rw[List.getElem?_map,gE hlt];rfl);obtain⟨b2,o2,cs2,hA2,hbw2,hcs2,hcell2⟩:=HXB2.out k (xN.t b.zB[k]) (by rw[List.getElem?_map,gE hlt2];rfl);subst hA1 hA2;have hg1:=gE hlt;have hg2:=gE hlt2;generalize a.zB[k]=x at *;generalize b.zB[k]=y at *;have HG1:=xL hg1;have HG2:=xL hg2;clear hg1 hg2;obtain⟨p0,rfl,hR10⟩:=xN.yR (show T.rds _ _ _ by simpa only[xN.t,T.rd] using hcs1);have d10:=(HB.out.cell hbw1).trans (hcell1 0 (p0) rfl);rw[show o1+(k * 1+0)=o1+k by omega] at d10;have R10:=xL (T.yH hR10 HB.out);clear hR10;clear hcs1 hcell1;have hq1:b1<wr.heap.size:=zW hbw1 HB.out.size;obtain⟨pa0,pl0,pc0,rfl⟩:=T.xB R10.out;obtain⟨q0,rfl,hR20⟩:=xN.yR (show T.rds _ _ _ by simpa only[xN.t,T.rd] using hcs2);have d20:=(HB.out.cell hbw2).trans (hcell2 0 (q0) rfl);rw[show o2+(k * 1+0)=o2+k by omega] at d20;have R20:=xL (T.yH hR20 HB.out);clear hR20;clear hcs2 hcell2;have hq2:b2<wr.heap.size:=zW hbw2 HB.out.size;obtain⟨qa0,ql0,qc0,rfl⟩:=T.xB R20.out;have hW:=HW.out;have hB:=HB.out;by_cases he:x=y
           ·have hde:decide (x=y)=true:=decide_eq_true he
            have HE:=xL he;clear he;go_wp2
            go_region_held3 (fun w'=>w'.cell? ⟨w.heap.size,2,none⟩=some (.slice (some ⟨b1,o1,none⟩) a.zB.length vc2)∧w'.cell? ⟨b1,o1+k,none⟩=some ((.slice pa0 pl0 pc0))∧w'.cell? ⟨w.heap.size+1,2,none⟩=some (.slice (some ⟨b2,o2,none⟩) b.zB.length uc2)∧w'.cell? ⟨b2,o2+k,none⟩=some ((.slice qa0 ql0 qc0))) (first|go_keep|(refine⟨(hb3.cell ?_).trans ?_,(hb3.cell ?_).trans ?_,(hb3.cell ?_).trans ?_,(hb3.cell ?_).trans ?_⟩<;>first|assumption|(simp[*];done)|(simp;omega))) (first|(go_at_call 29;refine(wYz x y _ _ _ (T.yH R10.out (by repeat(first|with_reducible exact zR|with_reducible refine Below.alloc ?_ zJ _|with_reducible refine Below.drew ?_|with_reducible refine below_drewN ?_ _))) (T.yH R20.out (by repeat(first|with_reducible exact zR|with_reducible refine Below.alloc ?_ zJ _|with_reducible refine Below.drew ?_|with_reducible refine below_drewN ?_ _)))).mono ?_;rintro e w3 ⟨rfl,hb3⟩;rw[hde]))
            have hb4:Below wr.heap.size wr w3:=by first|exact yP hb3|exact yP (undrew hb3)|exact yP (vG hb3)|exact hb3|exact undrew hb3|exact vG hb3
            have HC:=xL (yM HW.out HW.out.size hb4);have HC2:=xL (yM HB.out HB.out.size hb4);clear hb4 hb3;go_wp2
            go_roundw
            case rel=>exact⟨k+1,by omega,by go_num,vS HS.out HG1.out (by rw[HE.out];exact HG2.out),(by first|exact HC.out|exact HC.out.drew|exact below_drewN HC.out _)⟩
            case measure=>simp[intOf];omega
           ·have hde:decide (x=y)=false:=decide_eq_false he
            have HE:=xL he;clear he;go_wp2
            go_region_held3 (fun w'=>w'.cell? ⟨w.heap.size,2,none⟩=some (.slice (some ⟨b1,o1,none⟩) a.zB.length vc2)∧w'.cell? ⟨b1,o1+k,none⟩=some ((.slice pa0 pl0 pc0))∧w'.cell? ⟨w.heap.size+1,2,none⟩=some (.slice (some ⟨b2,o2,none⟩) b.zB.length uc2)∧w'.cell? ⟨b2,o2+k,none⟩=some ((.slice qa0 ql0 qc0))) (first|go_keep|(refine⟨(hb3.cell ?_).trans ?_,(hb3.cell ?_).trans ?_,(hb3.cell ?_).trans ?_,(hb3.cell ?_).trans ?_⟩<;>first|assumption|(simp[*];done)|(simp;omega))) (first|(go_at_call 29;refine(wYz x y _ _ _ (T.yH R10.out (by repeat(first|with_reducible exact zR|with_reducible refine Below.alloc ?_ zJ _|with_reducible refine Below.drew ?_|with_reducible refine below_drewN ?_ _))) (T.yH R20.out (by repeat(first|with_reducible exact zR|with_reducible refine Below.alloc ?_ zJ _|with_reducible refine Below.drew ?_|with_reducible refine below_drewN ?_ _)))).mono ?_;rintro e w3 ⟨rfl,hb3⟩;rw[hde]))
            have hb4:Below wr.heap.size wr w3:=by first|exact yP hb3|exact yP (undrew hb3)|exact yP (vG hb3)|exact hb3|exact undrew hb3|exact vG hb3
            have HC:=xL (yM HW.out HW.out.size hb4);have HC2:=xL (yM HB.out HB.out.size hb4);clear hb4 hb3;go_wp2;go_ret
            have hne:=xHz HG1.out HG2.out HE.out;exact⟨yK (by rw[HAB.out];simp[H0.out,H3.out,H5.out,HALL1.out,hne]),(by first|exact HC2.out|exact HC2.out.drew|exact below_drewN HC2.out _)⟩
          ·have hall:=vN (k:=k) zM HL2.out HS.out
           have HALL2:=xL hall;clear hall;have HKAz2:=HKA;have HKBz2:=HKB;have HBz2:=HB;generalize wr=wz2 at *;go_wp2
           go_loopw [7] (fun i wr=> ∃ k:Nat,k≤a.zG.length∧i= .int .i64 k∧a.zG.take k=b.zG.take k∧Below wz2.heap.size wz2 wr) (fun i _=>a.zG.length - (intOf i).toNat)
           case atStart=>exact⟨0,Nat.zero_le _,rfl,rfl,zR⟩
           case round=>
            obtain⟨k,hk,rfl,hs,hbw⟩:=hrel;have HS:=xL hs;have HW:=xL hbw;clear hs hbw;have HB:=xL (yM HBz2.out HBz2.out.size HW.out);have HKA:=xL (HKAz2.out.below HW.out HKAz2.out.lt);have HKB:=xL (HKBz2.out.below HW.out HKBz2.out.lt);have ka:=HKA.out.cell;have kb:=HKB.out.cell;have la:w.heap.size<wr.heap.size:=HKA.out.lt;have lb:w.heap.size+1<wr.heap.size:=HKB.out.lt;by_cases hlt:k<a.zG.length
            ·have hlt2:k<b.zG.length:=by have:=HL4.out;omega
             obtain⟨b1,o1,cs1,hA1,hbw1,hcs1,hcell1⟩:=HXA4.out k (xQ.t a.zG[k]) (by rw[List.getElem?_map,gE hlt];rfl);obtain⟨b2,o2,cs2,hA2,hbw2,hcs2,hcell2⟩:=HXB4.out k (xQ.t b.zG[k]) (by rw[List.getElem?_map,gE hlt2];rfl);subst hA1 hA2;have hg1:=gE hlt;have hg2:=gE hlt2;generalize a.zG[k]=x at *;generalize b.zG[k]=y at *;have HG1:=xL hg1;have HG2:=xL hg2;clear hg1 hg2;obtain⟨p1,p2,p3,rfl,hR11,hR12,hR13⟩:=xQ.yR (show T.rds _ _ _ by simpa only[xQ.t,T.rd] using hcs1);have d10:=(HB.out.cell hbw1).trans (hcell1 0 (.int .i64 x.zS) rfl);have d11:=(HB.out.cell hbw1).trans (hcell1 1 (p1) rfl);have d12:=(HB.out.cell hbw1).trans (hcell1 2 (p2) rfl);have d13:=(HB.out.cell hbw1).trans (hcell1 3 (p3) rfl);rw[show o1+(k * 4+0)=o1+k * 4 by omega] at d10;rw[show o1+(k * 4+1)=o1+k * 4+1 by omega] at d11;rw[show o1+(k * 4+2)=o1+k * 4+2 by omega] at d12;rw[show o1+(k * 4+3)=o1+k * 4+3 by omega] at d13;have R11:=xL (T.yH hR11 HB.out);clear hR11;have R12:=xL (T.yH hR12 HB.out);clear hR12;have R13:=xL (T.yH hR13 HB.out);clear hR13;clear hcs1 hcell1;have hq1:b1<wr.heap.size:=zW hbw1 HB.out.size;obtain⟨pa1,pl1,pc1,rfl⟩:=T.xB R11.out;obtain⟨pa2,pl2,pc2,rfl⟩:=T.xB R12.out;obtain⟨pa3,pl3,pc3,rfl⟩:=T.xB R13.out;obtain⟨q1,q2,q3,rfl,hR21,hR22,hR23⟩:=xQ.yR (show T.rds _ _ _ by simpa only[xQ.t,T.rd] using hcs2);have d20:=(HB.out.cell hbw2).trans (hcell2 0 (.int .i64 y.zS) rfl);have d21:=(HB.out.cell hbw2).trans (hcell2 1 (q1) rfl);have d22:=(HB.out.cell hbw2).trans (hcell2 2 (q2) rfl);have d23:=(HB.out.cell hbw2).trans (hcell2 3 (q3) rfl);rw[show o2+(k * 4+0)=o2+k * 4 by omega] at d20;rw[show o2+(k * 4+1)=o2+k * 4+1 by omega] at d21;rw[show o2+(k * 4+2)=o2+k * 4+2 by omega] at d22;rw[show o2+(k * 4+3)=o2+k * 4+3 by omega] at d23;have R21:=xL (T.yH hR21 HB.out);clear hR21;have R22:=xL (T.yH hR22 HB.out);clear hR22;have R23:=xL (T.yH hR23 HB.out);clear hR23;clear hcs2 hcell2;have hq2:b2<wr.heap.size:=zW hbw2 HB.out.size;obtain⟨qa1,ql1,qc1,rfl⟩:=T.xB R21.out;obtain⟨qa2,ql2,qc2,rfl⟩:=T.xB R22.out;obtain⟨qa3,ql3,qc3,rfl⟩:=T.xB R23.out;have hW:=HW.out;have hB:=HB.out;by_cases he:x=y
             ·have hde:decide (x=y)=true:=decide_eq_true he
              have HE:=xL he;clear he;go_wp2
              go_region_held3 (fun w'=>w'.cell? ⟨w.heap.size,4,none⟩=some (.slice (some ⟨b1,o1,none⟩) a.zG.length vc4)∧w'.cell? ⟨b1,o1+k * 4,none⟩=some (.int .i64 x.zS)∧w'.cell? ⟨b1,o1+k * 4+1,none⟩=some ((.slice pa1 pl1 pc1))∧w'.cell? ⟨b1,o1+k * 4+2,none⟩=some ((.slice pa2 pl2 pc2))∧w'.cell? ⟨b1,o1+k * 4+3,none⟩=some ((.slice pa3 pl3 pc3))∧w'.cell? ⟨w.heap.size+1,4,none⟩=some (.slice (some ⟨b2,o2,none⟩) b.zG.length uc4)∧w'.cell? ⟨b2,o2+k * 4,none⟩=some (.int .i64 y.zS)∧w'.cell? ⟨b2,o2+k * 4+1,none⟩=some ((.slice qa1 ql1 qc1))∧w'.cell? ⟨b2,o2+k * 4+2,none⟩=some ((.slice qa2 ql2 qc2))∧w'.cell? ⟨b2,o2+k * 4+3,none⟩=some ((.slice qa3 ql3 qc3))) (first|go_keep|(refine⟨(hb3.cell ?_).trans ?_,(hb3.cell ?_).trans ?_,(hb3.cell ?_).trans ?_,(hb3.cell ?_).trans ?_,(hb3.cell ?_).trans ?_,(hb3.cell ?_).trans ?_,(hb3.cell ?_).trans ?_,(hb3.cell ?_).trans ?_,(hb3.cell ?_).trans ?_,(hb3.cell ?_).trans ?_⟩<;>first|assumption|(simp[*];done)|(simp;omega))) (first|(go_at_call 30;refine(vDz x y _ _ _ _ _ _ _ (T.yH R11.out (by repeat(first|with_reducible exact zR|with_reducible refine Below.alloc ?_ zJ _|with_reducible refine Below.drew ?_|with_reducible refine below_drewN ?_ _))) (T.yH R12.out (by repeat(first|with_reducible exact zR|with_reducible refine Below.alloc ?_ zJ _|with_reducible refine Below.drew ?_|with_reducible refine below_drewN ?_ _))) (T.yH R13.out (by repeat(first|with_reducible exact zR|with_reducible refine Below.alloc ?_ zJ _|with_reducible refine Below.drew ?_|with_reducible refine below_drewN ?_ _))) (T.yH R21.out (by repeat(first|with_reducible exact zR|with_reducible refine Below.alloc ?_ zJ _|with_reducible refine Below.drew ?_|with_reducible refine below_drewN ?_ _))) (T.yH R22.out (by repeat(first|with_reducible exact zR|with_reducible refine Below.alloc ?_ zJ _|with_reducible refine Below.drew ?_|with_reducible refine below_drewN ?_ _))) (T.yH R23.out (by repeat(first|with_reducible exact zR|with_reducible refine Below.alloc ?_ zJ _|with_reducible refine Below.drew ?_|with_reducible refine below_drewN ?_ _)))).mono ?_;rintro e w3 ⟨rfl,hb3⟩;rw[hde]))
              have hb4:Below wr.heap.size wr w3:=by first|exact yP hb3|exact yP (undrew hb3)|exact yP (vG hb3)|exact hb3|exact undrew hb3|exact vG hb3
              have HC:=xL (yM HW.out HW.out.size hb4);have HC2:=xL (yM HB.out HB.out.size hb4);clear hb4 hb3;go_wp2
              go_roundw
              case rel=>exact⟨k+1,by omega,by go_num,vS HS.out HG1.out (by rw[HE.out];exact HG2.out),(by first|exact HC.out|exact HC.out.drew|exact below_drewN HC.out _)⟩
              case measure=>simp[intOf];omega
             ·have hde:decide (x=y)=false:=decide_eq_false he
              have HE:=xL he;clear he;go_wp2
              go_region_held3 (fun w'=>w'.cell? ⟨w.heap.size,4,none⟩=some (.slice (some ⟨b1,o1,none⟩) a.zG.length vc4)∧w'.cell? ⟨b1,o1+k * 4,none⟩=some (.int .i64 x.zS)∧w'.cell? ⟨b1,o1+k * 4+1,none⟩=some ((.slice pa1 pl1 pc1))∧w'.cell? ⟨b1,o1+k * 4+2,none⟩=some ((.slice pa2 pl2 pc2))∧w'.cell? ⟨b1,o1+k * 4+3,none⟩=some ((.slice pa3 pl3 pc3))∧w'.cell? ⟨w.heap.size+1,4,none⟩=some (.slice (some ⟨b2,o2,none⟩) b.zG.length uc4)∧w'.cell? ⟨b2,o2+k * 4,none⟩=some (.int .i64 y.zS)∧w'.cell? ⟨b2,o2+k * 4+1,none⟩=some ((.slice qa1 ql1 qc1))∧w'.cell? ⟨b2,o2+k * 4+2,none⟩=some ((.slice qa2 ql2 qc2))∧w'.cell? ⟨b2,o2+k * 4+3,none⟩=some ((.slice qa3 ql3 qc3))) (first|go_keep|(refine⟨(hb3.cell ?_).trans ?_,(hb3.cell ?_).trans ?_,(hb3.cell ?_).trans ?_,(hb3.cell ?_).trans ?_,(hb3.cell ?_).trans ?_,(hb3.cell ?_).trans ?_,(hb3.cell ?_).trans ?_,(hb3.cell ?_).trans ?_,(hb3.cell ?_).trans ?_,(hb3.cell ?_).trans ?_⟩<;>first|assumption|(simp[*];done)|(simp;omega))) (first|(go_at_call 30;refine(vDz x y _ _ _ _ _ _ _ (T.yH R11.out (by repeat(first|with_reducible exact zR|with_reducible refine Below.alloc ?_ zJ _|with_reducible refine Below.drew ?_|with_reducible refine below_drewN ?_ _))) (T.yH R12.out (by repeat(first|with_reducible exact zR|with_reducible refine Below.alloc ?_ zJ _|with_reducible refine Below.drew ?_|with_reducible refine below_drewN ?_ _))) (T.yH R13.out (by repeat(first|with_reducible exact zR|with_reducible refine Below.alloc ?_ zJ _|with_reducible refine Below.drew ?_|with_reducible refine below_drewN ?_ _))) (T.yH R21.out (by repeat(first|with_reducible exact zR|with_reducible refine Below.alloc ?_ zJ _|with_reducible refine Below.drew ?_|with_reducible refine below_drewN ?_ _))) (T.yH R22.out (by repeat(first|with_reducible exact zR|with_reducible refine Below.alloc ?_ zJ _|with_reducible refine Below.drew ?_|with_reducible refine below_drewN ?_ _))) (T.yH R23.out (by repeat(first|with_reducible exact zR|with_reducible refine Below.alloc ?_ zJ _|with_reducible refine Below.drew ?_|with_reducible refine below_drewN ?_ _)))).mono ?_;rintro e w3 ⟨rfl,hb3⟩;rw[hde]))
              have hb4:Below wr.heap.size wr w3:=by first|exact yP hb3|exact yP (undrew hb3)|exact yP (vG hb3)|exact hb3|exact undrew hb3|exact vG hb3
              have HC:=xL (yM HW.out HW.out.size hb4);have HC2:=xL (yM HB.out HB.out.size hb4);clear hb4 hb3;go_wp2;go_ret
              have hne:=xHz HG1.out HG2.out HE.out;exact⟨yK (by rw[HAB.out];simp[H0.out,H3.out,H5.out,HALL1.out,HALL2.out,hne]),(by first|exact HC2.out|exact HC2.out.drew|exact below_drewN HC2.out _)⟩
            ·have hall:=vN (k:=k) zM HL4.out HS.out
             have HALL4:=xL hall;clear hall;go_wp2;go_ret
             exact⟨yK (by rw[HAB.out];simp[H0.out,H3.out,H5.out,HALL1.out,HALL2.out,HALL4.out]),HB.out⟩
      ·have c5:decide (a.zI=b.zI)=false:=by simp[h5]
       have H5:=xL h5;clear h5
       go_enter Tryz.func10,Tryz.ntmps10
       go_wp2_with fail
       refine(uH _ _ a.zO b.zO _ (T.yZ.1 (T.yH R3.out HB0.out)) (T.yZ.1 (T.yH Q3.out HB0.out))).mono ?_;rintro e w1 ⟨rfl,hd⟩;rw[c3];have hb:Below ((w.alloc (.cells #[.int .i64 a.zA,(.slice va1 a.zD.length vc1),(.slice va2 a.zB.length vc2),(.slice va3 vl3 vc3),(.slice va4 a.zG.length vc4),(.slice va5 vl5 vc5)] 32)).alloc (.cells #[.int .i64 b.zA,(.slice ua1 b.zD.length uc1),(.slice ua2 b.zB.length uc2),(.slice ua3 ul3 uc3),(.slice ua4 b.zG.length uc4),(.slice ua5 ul5 uc5)] 32)).heap.size ((w.alloc (.cells #[.int .i64 a.zA,(.slice va1 a.zD.length vc1),(.slice va2 a.zB.length vc2),(.slice va3 vl3 vc3),(.slice va4 a.zG.length vc4),(.slice va5 vl5 vc5)] 32)).alloc (.cells #[.int .i64 b.zA,(.slice ua1 b.zD.length uc1),(.slice ua2 b.zB.length uc2),(.slice ua3 ul3 uc3),(.slice ua4 b.zG.length uc4),(.slice ua5 ul5 uc5)] 32)) w1:=by first|exact hd.to_below _|exact hd
       have HKA1:=xL (HKA0.out.below hb HKA0.out.lt);have HKB1:=xL (HKB0.out.below hb HKB0.out.lt);have HB1:=xL (yM HB0.out HB0.out.size hb);clear hb hd;have ka1:=HKA1.out.cell;have kb1:=HKB1.out.cell;go_wp2_with fail
       refine(vEz a.zI b.zI _ _ _ (T.yH R5.out HB1.out) (T.yH Q5.out HB1.out)).mono ?_;rintro e w2 ⟨rfl,hd⟩;rw[c5];have hb:Below w1.heap.size w1 w2:=by first|exact hd.to_below _|exact hd
       have HKA2:=xL (HKA1.out.below hb HKA1.out.lt);have HKB2:=xL (HKB1.out.below hb HKB1.out.lt);have HB2:=xL (yM HB1.out HB1.out.size hb);clear hb hd;have ka2:=HKA2.out.cell;have kb2:=HKB2.out.cell;go_wp2;go_ret
       exact⟨yK (by rw[HAB.out];simp[H0.out,H3.out,H5.out]),HB2.out⟩
     ·have e4:((a.zG.length:Int) != (b.zG.length:Int))=true:=by simp;omega
      have H4:=xL (show ¬ a.zG=b.zG from fun e=>h4 (by rw[e]));clear h4
      go_enter Tryz.func10,Tryz.ntmps10
      go_wp2_with fail
      refine(uH _ _ a.zO b.zO _ (T.yZ.1 (T.yH R3.out HB0.out)) (T.yZ.1 (T.yH Q3.out HB0.out))).mono ?_;rintro e w1 ⟨rfl,hd⟩;rw[c3];have hb:Below ((w.alloc (.cells #[.int .i64 a.zA,(.slice va1 a.zD.length vc1),(.slice va2 a.zB.length vc2),(.slice va3 vl3 vc3),(.slice va4 a.zG.length vc4),(.slice va5 vl5 vc5)] 32)).alloc (.cells #[.int .i64 b.zA,(.slice ua1 b.zD.length uc1),(.slice ua2 b.zB.length uc2),(.slice ua3 ul3 uc3),(.slice ua4 b.zG.length uc4),(.slice ua5 ul5 uc5)] 32)).heap.size ((w.alloc (.cells #[.int .i64 a.zA,(.slice va1 a.zD.length vc1),(.slice va2 a.zB.length vc2),(.slice va3 vl3 vc3),(.slice va4 a.zG.length vc4),(.slice va5 vl5 vc5)] 32)).alloc (.cells #[.int .i64 b.zA,(.slice ua1 b.zD.length uc1),(.slice ua2 b.zB.length uc2),(.slice ua3 ul3 uc3),(.slice ua4 b.zG.length uc4),(.slice ua5 ul5 uc5)] 32)) w1:=by first|exact hd.to_below _|exact hd
      have HKA1:=xL (HKA0.out.below hb HKA0.out.lt);have HKB1:=xL (HKB0.out.below hb HKB0.out.lt);have HB1:=xL (yM HB0.out HB0.out.size hb);clear hb hd;have ka1:=HKA1.out.cell;have kb1:=HKB1.out.cell;go_wp2;go_ret
      exact⟨yK (by rw[HAB.out];simp[H0.out,H3.out,H4.out]),HB1.out⟩
    ·have c3:decide (a.zO=b.zO)=false:=by simp[h3]
     have H3:=xL h3;clear h3
     go_enter Tryz.func10,Tryz.ntmps10
     go_wp2_with fail
     refine(uH _ _ a.zO b.zO _ (T.yZ.1 (T.yH R3.out HB0.out)) (T.yZ.1 (T.yH Q3.out HB0.out))).mono ?_;rintro e w1 ⟨rfl,hd⟩;rw[c3];have hb:Below ((w.alloc (.cells #[.int .i64 a.zA,(.slice va1 a.zD.length vc1),(.slice va2 a.zB.length vc2),(.slice va3 vl3 vc3),(.slice va4 a.zG.length vc4),(.slice va5 vl5 vc5)] 32)).alloc (.cells #[.int .i64 b.zA,(.slice ua1 b.zD.length uc1),(.slice ua2 b.zB.length uc2),(.slice ua3 ul3 uc3),(.slice ua4 b.zG.length uc4),(.slice ua5 ul5 uc5)] 32)).heap.size ((w.alloc (.cells #[.int .i64 a.zA,(.slice va1 a.zD.length vc1),(.slice va2 a.zB.length vc2),(.slice va3 vl3 vc3),(.slice va4 a.zG.length vc4),(.slice va5 vl5 vc5)] 32)).alloc (.cells #[.int .i64 b.zA,(.slice ua1 b.zD.length uc1),(.slice ua2 b.zB.length uc2),(.slice ua3 ul3 uc3),(.slice ua4 b.zG.length uc4),(.slice ua5 ul5 uc5)] 32)) w1:=by first|exact hd.to_below _|exact hd
     have HKA1:=xL (HKA0.out.below hb HKA0.out.lt);have HKB1:=xL (HKB0.out.below hb HKB0.out.lt);have HB1:=xL (yM HB0.out HB0.out.size hb);clear hb hd;have ka1:=HKA1.out.cell;have kb1:=HKB1.out.cell;go_wp2;go_ret
     exact⟨yK (by rw[HAB.out];simp[H0.out,H3.out]),HB1.out⟩
   ·have e2:((a.zB.length:Int) != (b.zB.length:Int))=true:=by simp;omega
    have H2:=xL (show ¬ a.zB=b.zB from fun e=>h2 (by rw[e]));clear h2
    go_enter Tryz.func10,Tryz.ntmps10
    go_wp2;go_ret
    exact⟨yK (by rw[HAB.out];simp[H0.out,H2.out]),HB0.out⟩
  ·have e1:((a.zD.length:Int) != (b.zD.length:Int))=true:=by simp;omega
   have H1:=xL (show ¬ a.zD=b.zD from fun e=>h1 (by rw[e]));clear h1
   go_enter Tryz.func10,Tryz.ntmps10
   go_wp2;go_ret
   exact⟨yK (by rw[HAB.out];simp[H0.out,H1.out]),HB0.out⟩
 ·have e0:(a.zA != b.zA)=true:=by simp[h0]
  have H0:=xL h0;clear h0
  go_enter Tryz.func10,Tryz.ntmps10
  go_wp2;go_ret
  exact⟨yK (by rw[HAB.out];simp[H0.out]),HB0.out⟩
end Go.Proofs.YtdcofkabaigjpaaGreat
