/- Contracts: which nested data are the same, by the reference. -/
import Derived.Test.YtdcofkabaigjpaaGreatQAiUndone
set_option linter.unusedVariables false
set_option linter.unusedSimpArgs false
set_option maxHeartbeats 2000000
set_option maxRecDepth 20000
namespace Go.Proofs.YtdcofkabaigjpaaGreat
open Go.RowKit
theorem wQz (a b:xP) (b1 o1 b2 o2:Nat) (v3 u3:Value) (w:World) (hb1:b1<w.heap.size) (hb2:b2<w.heap.size)
  (d0:w.cell? ⟨b1,o1,none⟩=some (.int .i64 a.zC)) (d1:w.cell? ⟨b1,o1+1,none⟩=some (.int .i64 a.fA)) (d2:w.cell? ⟨b1,o1+2,none⟩=some (.int .i64 a.fB)) (d3:w.cell? ⟨b1,o1+3,none⟩=some v3)
  (g0:w.cell? ⟨b2,o2,none⟩=some (.int .i64 b.zC)) (g1:w.cell? ⟨b2,o2+1,none⟩=some (.int .i64 b.fA)) (g2:w.cell? ⟨b2,o2+2,none⟩=some (.int .i64 b.fB)) (g3:w.cell? ⟨b2,o2+3,none⟩=some u3)
  (r3:T.rd w (T.ints 2 a.zK) [v3]) (t3:T.rd w (T.ints 2 b.zK) [u3]):
  Calls Tryz.prog 63 #[.pointer (some ⟨b1,o1,none⟩),.pointer (some ⟨b2,o2,none⟩)] w fun e w'=>e= .returned (.bool (decide (a=b)))∧Dr w w':=by
 have hab:decide (a=b)=(decide (a.zC=b.zC) && (decide (a.fA=b.fA) && (decide (a.fB=b.fB) && decide (a.zK=b.zK)))):=by
  obtain⟨x0,x1,x2,x3⟩:=a;obtain⟨y0,y1,y2,y3⟩:=b;rw[Bool.eq_iff_iff];simp only[xP.mk.injEq,decide_eq_true_eq,Bool.and_eq_true]
 have HAB:=xL hab;clear hab;have R3:=xL (T.yZ.1 r3);have Q3:=xL (T.yZ.1 t3);clear r3 t3;by_cases h0:a.zC=b.zC
 ·have e0:(a.zC == b.zC)=true:=by simp[h0]
  have H0:=xL h0;clear h0;by_cases h1:a.fA=b.fA
  ·have e1:(a.fA == b.fA)=true:=by simp[h1]
   have H1:=xL h1;clear h1;by_cases h2:a.fB=b.fB
   ·have e2:(a.fB == b.fB)=true:=by simp[h2]
    have H2:=xL h2;clear h2
    go_enter Tryz.func63,Tryz.ntmps63
    go_wp2
    go_quiet ((go_at_call 27;exact Calls.quiet_of ((uH _ _ a.zK b.zK _ (Rd.drewN R3.out _) (Rd.drewN Q3.out _)).mono (fun e w' h=>h))))
    go_wp2;go_ret
    exact⟨yK (by rw[HAB.out];simp[H0.out,H1.out,H2.out]),(by repeat(first|exact Dr.refl _|exact⟨_,rfl⟩|refine Dr.drewN ?_ _|refine Dr.drew ?_))⟩
   ·have e2:(a.fB == b.fB)=false:=by simp[h2]
    have H2:=xL h2;clear h2
    go_enter Tryz.func63,Tryz.ntmps63
    go_wp2
    go_quiet (fail)
    go_wp2;go_ret
    exact⟨yK (by rw[HAB.out];simp[H0.out,H1.out,H2.out]),(by repeat(first|exact Dr.refl _|exact⟨_,rfl⟩|refine Dr.drewN ?_ _|refine Dr.drew ?_))⟩
  ·have e1:(a.fA == b.fA)=false:=by simp[h1]
   have H1:=xL h1;clear h1
   go_enter Tryz.func63,Tryz.ntmps63
   go_wp2
   go_quiet (fail)
   go_wp2;go_ret
   exact⟨yK (by rw[HAB.out];simp[H0.out,H1.out]),(by repeat(first|exact Dr.refl _|exact⟨_,rfl⟩|refine Dr.drewN ?_ _|refine Dr.drew ?_))⟩
 ·have e0:(a.zC == b.zC)=false:=by simp[h0]
  have H0:=xL h0;clear h0
  go_enter Tryz.func63,Tryz.ntmps63
  go_wp2
  go_quiet (fail)
  go_wp2;go_ret
  exact⟨yK (by rw[HAB.out];simp[H0.out]),(by repeat(first|exact Dr.refl _|exact⟨_,rfl⟩|refine Dr.drewN ?_ _|refine Dr.drew ?_))⟩
theorem vDz (a b:xQ) (v1:Value) (v2:Value) (v3:Value) (u1:Value) (u2:Value) (u3:Value) (w:World) (r1:T.rd w (T.sl 26 1 (a.zU.map (T.ints 2))) [v1]) (r2:T.rd w (T.sl 120 4 (a.zH.map xP.t)) [v2]) (r3:T.rd w (T.ints 2 a.zT) [v3]) (t1:T.rd w (T.sl 26 1 (b.zU.map (T.ints 2))) [u1]) (t2:T.rd w (T.sl 120 4 (b.zH.map xP.t)) [u2]) (t3:T.rd w (T.ints 2 b.zT) [u3]):
  Calls Tryz.prog 30 #[.agg #[.int .i64 a.zS,v1,v2,v3],.agg #[.int .i64 b.zS,u1,u2,u3]] w fun e w'=>e= .returned (.bool (decide (a=b)))∧Below w.heap.size w w':=by
 have hab:decide (a=b)=(decide (a.zS=b.zS) && (decide (a.zU=b.zU) && (decide (a.zH=b.zH) && (decide (a.zT=b.zT))))):=by
  obtain⟨x0,x1,x2,x3⟩:=a;obtain⟨y0,y1,y2,y3⟩:=b;rw[Bool.eq_iff_iff];simp only[xQ.mk.injEq,decide_eq_true_eq,Bool.and_eq_true]
  try (constructor<;>(intro h;simp[h]))
 have R1:=xL r1;have Q1:=xL t1;have R2:=xL r2;have Q2:=xL t2;have R3:=xL r3;have Q3:=xL t3;obtain⟨va1,vc1,rfl,hla1,hca1,hxa1⟩:=T.yR r1;obtain⟨ua1,uc1,rfl,hlb1,hcb1,hxb1⟩:=T.yR t1;rw[List.length_map] at hla1 hlb1 R1 Q1 ⊢;rw[List.length_map];have HXA1:=xL hxa1;have HXB1:=xL hxb1;clear hxa1 hxb1;obtain⟨va2,vc2,rfl,hla2,hca2,hxa2⟩:=T.yR r2;obtain⟨ua2,uc2,rfl,hlb2,hcb2,hxb2⟩:=T.yR t2;rw[List.length_map] at hla2 hlb2 R2 Q2 ⊢;rw[List.length_map];have HXA2:=xL hxa2;have HXB2:=xL hxb2;clear hxa2 hxb2;obtain⟨va3,vl3,vc3,rfl⟩:=T.xB r3;obtain⟨ua3,ul3,uc3,rfl⟩:=T.xB t3;clear r1 t1 r2 t2 r3 t3;have HAB:=xL hab;clear hab;have HB0:=xL (show Below w.heap.size w ((w.alloc (.cells #[.int .i64 a.zS,(.slice va1 a.zU.length vc1),(.slice va2 a.zH.length vc2),(.slice va3 vl3 vc3)] 81)).alloc (.cells #[.int .i64 b.zS,(.slice ua1 b.zU.length uc1),(.slice ua2 b.zH.length uc2),(.slice ua3 ul3 uc3)] 81)) from(zR.alloc zJ _).alloc zQ _);have HKA0:=xL ((Bk.born w 81 #[.int .i64 a.zS,(.slice va1 a.zU.length vc1),(.slice va2 a.zH.length vc2),(.slice va3 vl3 vc3)]).alloc (.cells #[.int .i64 b.zS,(.slice ua1 b.zU.length uc1),(.slice ua2 b.zH.length uc2),(.slice ua3 ul3 uc3)] 81));have HKB0:=xL (Bk.born1' w (.cells #[.int .i64 a.zS,(.slice va1 a.zU.length vc1),(.slice va2 a.zH.length vc2),(.slice va3 vl3 vc3)] 81) 81 #[.int .i64 b.zS,(.slice ua1 b.zU.length uc1),(.slice ua2 b.zH.length uc2),(.slice ua3 ul3 uc3)]);by_cases h0:a.zS=b.zS
 ·have e0:(a.zS != b.zS)=false:=by simp[h0]
  have H0:=xL h0;clear h0;by_cases h1:a.zU.length=b.zU.length
  ·have e1:((a.zU.length:Int) != (b.zU.length:Int))=false:=by simp;omega
   have HL1:=xL h1;clear h1;by_cases h2:a.zH.length=b.zH.length
   ·have e2:((a.zH.length:Int) != (b.zH.length:Int))=false:=by simp;omega
    have HL2:=xL h2;clear h2;by_cases h3:a.zT=b.zT
    ·have c3:decide (a.zT=b.zT)=true:=by simp[h3]
     have H3:=xL h3;clear h3
     go_enter Tryz.func30,Tryz.ntmps30
     go_wp2_with fail
     refine(uH _ _ a.zT b.zT _ (T.yZ.1 (T.yH R3.out HB0.out)) (T.yZ.1 (T.yH Q3.out HB0.out))).mono ?_;rintro e w1 ⟨rfl,hd⟩;rw[c3];have hb:Below ((w.alloc (.cells #[.int .i64 a.zS,(.slice va1 a.zU.length vc1),(.slice va2 a.zH.length vc2),(.slice va3 vl3 vc3)] 81)).alloc (.cells #[.int .i64 b.zS,(.slice ua1 b.zU.length uc1),(.slice ua2 b.zH.length uc2),(.slice ua3 ul3 uc3)] 81)).heap.size ((w.alloc (.cells #[.int .i64 a.zS,(.slice va1 a.zU.length vc1),(.slice va2 a.zH.length vc2),(.slice va3 vl3 vc3)] 81)).alloc (.cells #[.int .i64 b.zS,(.slice ua1 b.zU.length uc1),(.slice ua2 b.zH.length uc2),(.slice ua3 ul3 uc3)] 81)) w1:=by first|exact hd.to_below _|exact hd
     have HKA1:=xL (HKA0.out.below hb HKA0.out.lt);have HKB1:=xL (HKB0.out.below hb HKB0.out.lt);have HB1:=xL (yM HB0.out HB0.out.size hb);clear hb hd;have ka1:=HKA1.out.cell;have kb1:=HKB1.out.cell;go_wp2
     go_loopw [5] (fun i wr=> ∃ k:Nat,k≤a.zU.length∧i= .int .i64 k∧a.zU.take k=b.zU.take k∧Below w1.heap.size w1 wr) (fun i _=>a.zU.length - (intOf i).toNat)
     case atStart=>exact⟨0,Nat.zero_le _,rfl,rfl,zR⟩
     case round=>
      obtain⟨k,hk,rfl,hs,hbw⟩:=hrel;have HS:=xL hs;have HW:=xL hbw;clear hs hbw;have HB:=xL (yM HB1.out HB1.out.size HW.out);have HKA:=xL (HKA1.out.below HW.out HKA1.out.lt);have HKB:=xL (HKB1.out.below HW.out HKB1.out.lt);have ka:=HKA.out.cell;have kb:=HKB.out.cell;have la:w.heap.size<wr.heap.size:=HKA.out.lt;have lb:w.heap.size+1<wr.heap.size:=HKB.out.lt;by_cases hlt:k<a.zU.length
      ·have hlt2:k<b.zU.length:=by have:=HL1.out;omega
       obtain⟨b1,o1,cs1,hA1,hbw1,hcs1,hcell1⟩:=HXA1.out k (T.ints 2 a.zU[k]) (by rw[List.getElem?_map,gE hlt];rfl);obtain⟨b2,o2,cs2,hA2,hbw2,hcs2,hcell2⟩:=HXB1.out k (T.ints 2 b.zU[k]) (by rw[List.getElem?_map,gE hlt2];rfl);subst hA1 hA2;have hg1:=gE hlt;have hg2:=gE hlt2;generalize a.zU[k]=x at *;generalize b.zU[k]=y at *;have HG1:=xL hg1;have HG2:=xL hg2;clear hg1 hg2;obtain⟨v1,rfl⟩:=T.rd_one hcs1;have d1:=(HB.out.cell hbw1).trans (hcell1 0 v1 rfl);rw[Nat.mul_one,Nat.add_zero] at d1;have R1:=xL (T.yZ.1 (T.yH hcs1 HB.out));obtain⟨v2,rfl⟩:=T.rd_one hcs2;have d2:=(HB.out.cell hbw2).trans (hcell2 0 v2 rfl);rw[Nat.mul_one,Nat.add_zero] at d2;have R2:=xL (T.yZ.1 (T.yH hcs2 HB.out));clear hcs1 hcs2 hcell1 hcell2;have hW:=HW.out;have hB:=HB.out;by_cases he:x=y
       ·have hde:decide (x=y)=true:=decide_eq_true he
        have HE:=xL he;clear he;go_wp2
        go_quiet ((go_at_call 27;exact Calls.quiet_of ((uH _ _ x y _ (Rd.drewN R1.out _) (Rd.drewN R2.out _)).mono (fun e w' h=>by rw[hde] at h;exact h))))
        go_wp2
        go_roundw
        case rel=>exact⟨k+1,by omega,by go_num,vS HS.out HG1.out (by rw[HE.out];exact HG2.out),ba⟩
        case measure=>simp[intOf];omega
       ·have hde:decide (x=y)=false:=decide_eq_false he
        have HE:=xL he;clear he;go_wp2
        go_quiet ((go_at_call 27;exact Calls.quiet_of ((uH _ _ x y _ (Rd.drewN R1.out _) (Rd.drewN R2.out _)).mono (fun e w' h=>by rw[hde] at h;exact h))))
        go_wp2;go_ret
        have hne:=xHz HG1.out HG2.out HE.out;exact⟨yK (by rw[HAB.out];simp[H0.out,H3.out,hne]),ba⟩
      ·have hall:=vN (k:=k) zM HL1.out HS.out
       have HALL1:=xL hall;clear hall;have HKAz1:=HKA;have HKBz1:=HKB;have HBz1:=HB;generalize wr=wz1 at *;go_wp2
       go_loopw [6] (fun i wr=> ∃ k:Nat,k≤a.zH.length∧i= .int .i64 k∧a.zH.take k=b.zH.take k∧Below wz1.heap.size wz1 wr) (fun i _=>a.zH.length - (intOf i).toNat)
       case atStart=>exact⟨0,Nat.zero_le _,rfl,rfl,zR⟩
       case round=>
        obtain⟨k,hk,rfl,hs,hbw⟩:=hrel;have HS:=xL hs;have HW:=xL hbw;clear hs hbw;have HB:=xL (yM HBz1.out HBz1.out.size HW.out);have HKA:=xL (HKAz1.out.below HW.out HKAz1.out.lt);have HKB:=xL (HKBz1.out.below HW.out HKBz1.out.lt);have ka:=HKA.out.cell;have kb:=HKB.out.cell;have la:w.heap.size<wr.heap.size:=HKA.out.lt;have lb:w.heap.size+1<wr.heap.size:=HKB.out.lt;by_cases hlt:k<a.zH.length
        ·have hlt2:k<b.zH.length:=by have:=HL2.out;omega
         obtain⟨b1,o1,cs1,hA1,hbw1,hcs1,hcell1⟩:=HXA2.out k (xP.t a.zH[k]) (by rw[List.getElem?_map,gE hlt];rfl);obtain⟨b2,o2,cs2,hA2,hbw2,hcs2,hcell2⟩:=HXB2.out k (xP.t b.zH[k]) (by rw[List.getElem?_map,gE hlt2];rfl);subst hA1 hA2;have hg1:=gE hlt;have hg2:=gE hlt2;generalize a.zH[k]=x at *;generalize b.zH[k]=y at *;have HG1:=xL hg1;have HG2:=xL hg2;clear hg1 hg2;obtain⟨p3,rfl,hR13⟩:=xP.yR (show T.rds _ _ _ by simpa only[xP.t,T.rd] using hcs1);have d10:=(HB.out.cell hbw1).trans (hcell1 0 (.int .i64 x.zC) rfl);have d11:=(HB.out.cell hbw1).trans (hcell1 1 (.int .i64 x.fA) rfl);have d12:=(HB.out.cell hbw1).trans (hcell1 2 (.int .i64 x.fB) rfl);have d13:=(HB.out.cell hbw1).trans (hcell1 3 (p3) rfl);rw[show o1+(k * 4+0)=o1+k * 4 by omega] at d10;rw[show o1+(k * 4+1)=o1+k * 4+1 by omega] at d11;rw[show o1+(k * 4+2)=o1+k * 4+2 by omega] at d12;rw[show o1+(k * 4+3)=o1+k * 4+3 by omega] at d13;have R13:=xL (T.yH hR13 HB.out);clear hR13;clear hcs1 hcell1;have hq1:b1<wr.heap.size:=zW hbw1 HB.out.size;obtain⟨pa3,pl3,pc3,rfl⟩:=T.xB R13.out;obtain⟨q3,rfl,hR23⟩:=xP.yR (show T.rds _ _ _ by simpa only[xP.t,T.rd] using hcs2);have d20:=(HB.out.cell hbw2).trans (hcell2 0 (.int .i64 y.zC) rfl);have d21:=(HB.out.cell hbw2).trans (hcell2 1 (.int .i64 y.fA) rfl);have d22:=(HB.out.cell hbw2).trans (hcell2 2 (.int .i64 y.fB) rfl);have d23:=(HB.out.cell hbw2).trans (hcell2 3 (q3) rfl);rw[show o2+(k * 4+0)=o2+k * 4 by omega] at d20;rw[show o2+(k * 4+1)=o2+k * 4+1 by omega] at d21;rw[show o2+(k * 4+2)=o2+k * 4+2 by omega] at d22;rw[show o2+(k * 4+3)=o2+k * 4+3 by omega] at d23;have R23:=xL (T.yH hR23 HB.out);clear hR23;clear hcs2 hcell2;have hq2:b2<wr.heap.size:=zW hbw2 HB.out.size;obtain⟨qa3,ql3,qc3,rfl⟩:=T.xB R23.out;have hW:=HW.out;have hB:=HB.out;by_cases he:x=y
         ·have hde:decide (x=y)=true:=decide_eq_true he
          have HE:=xL he;clear he;go_wp2
          go_quiet ((go_at_call 63;exact Calls.quiet_of ((wQz x y b1 (o1+k * 4) b2 (o2+k * 4) _ _ _ (by exact hq1) (by exact hq2) (by exact d10) (by exact d11) (by exact d12) (by exact d13) (by exact d20) (by exact d21) (by exact d22) (by exact d23) (T.yH R13.out (by repeat(first|with_reducible exact zR|with_reducible refine Below.alloc ?_ zJ _|with_reducible refine Below.drew ?_|with_reducible refine below_drewN ?_ _))) (T.yH R23.out (by repeat(first|with_reducible exact zR|with_reducible refine Below.alloc ?_ zJ _|with_reducible refine Below.drew ?_|with_reducible refine below_drewN ?_ _)))).mono (fun e w' h=>by rw[hde] at h;exact h))))
          go_wp2
          go_roundw
          case rel=>exact⟨k+1,by omega,by go_num,vS HS.out HG1.out (by rw[HE.out];exact HG2.out),ba⟩
          case measure=>simp[intOf];omega
         ·have hde:decide (x=y)=false:=decide_eq_false he
          have HE:=xL he;clear he;go_wp2
          go_quiet ((go_at_call 63;exact Calls.quiet_of ((wQz x y b1 (o1+k * 4) b2 (o2+k * 4) _ _ _ (by exact hq1) (by exact hq2) (by exact d10) (by exact d11) (by exact d12) (by exact d13) (by exact d20) (by exact d21) (by exact d22) (by exact d23) (T.yH R13.out (by repeat(first|with_reducible exact zR|with_reducible refine Below.alloc ?_ zJ _|with_reducible refine Below.drew ?_|with_reducible refine below_drewN ?_ _))) (T.yH R23.out (by repeat(first|with_reducible exact zR|with_reducible refine Below.alloc ?_ zJ _|with_reducible refine Below.drew ?_|with_reducible refine below_drewN ?_ _)))).mono (fun e w' h=>by rw[hde] at h;exact h))))
          go_wp2;go_ret
          have hne:=xHz HG1.out HG2.out HE.out;exact⟨yK (by rw[HAB.out];simp[H0.out,H3.out,HALL1.out,hne]),ba⟩
        ·have hall:=vN (k:=k) zM HL2.out HS.out
         have HALL2:=xL hall;clear hall;go_wp2;go_ret
         exact⟨yK (by rw[HAB.out];simp[H0.out,H3.out,HALL1.out,HALL2.out]),HB.out⟩
    ·have c3:decide (a.zT=b.zT)=false:=by simp[h3]
     have H3:=xL h3;clear h3
     go_enter Tryz.func30,Tryz.ntmps30
     go_wp2_with fail
     refine(uH _ _ a.zT b.zT _ (T.yZ.1 (T.yH R3.out HB0.out)) (T.yZ.1 (T.yH Q3.out HB0.out))).mono ?_;rintro e w1 ⟨rfl,hd⟩;rw[c3];have hb:Below ((w.alloc (.cells #[.int .i64 a.zS,(.slice va1 a.zU.length vc1),(.slice va2 a.zH.length vc2),(.slice va3 vl3 vc3)] 81)).alloc (.cells #[.int .i64 b.zS,(.slice ua1 b.zU.length uc1),(.slice ua2 b.zH.length uc2),(.slice ua3 ul3 uc3)] 81)).heap.size ((w.alloc (.cells #[.int .i64 a.zS,(.slice va1 a.zU.length vc1),(.slice va2 a.zH.length vc2),(.slice va3 vl3 vc3)] 81)).alloc (.cells #[.int .i64 b.zS,(.slice ua1 b.zU.length uc1),(.slice ua2 b.zH.length uc2),(.slice ua3 ul3 uc3)] 81)) w1:=by first|exact hd.to_below _|exact hd
     have HKA1:=xL (HKA0.out.below hb HKA0.out.lt);have HKB1:=xL (HKB0.out.below hb HKB0.out.lt);have HB1:=xL (yM HB0.out HB0.out.size hb);clear hb hd;have ka1:=HKA1.out.cell;have kb1:=HKB1.out.cell;go_wp2;go_ret
     exact⟨yK (by rw[HAB.out];simp[H0.out,H3.out]),HB1.out⟩
   ·have e2:((a.zH.length:Int) != (b.zH.length:Int))=true:=by simp;omega
    have H2:=xL (show ¬ a.zH=b.zH from fun e=>h2 (by rw[e]));clear h2
    go_enter Tryz.func30,Tryz.ntmps30
    go_wp2;go_ret
    exact⟨yK (by rw[HAB.out];simp[H0.out,H2.out]),HB0.out⟩
  ·have e1:((a.zU.length:Int) != (b.zU.length:Int))=true:=by simp;omega
   have H1:=xL (show ¬ a.zU=b.zU from fun e=>h1 (by rw[e]));clear h1
   go_enter Tryz.func30,Tryz.ntmps30
   go_wp2;go_ret
   exact⟨yK (by rw[HAB.out];simp[H0.out,H1.out]),HB0.out⟩
 ·have e0:(a.zS != b.zS)=true:=by simp[h0]
  have H0:=xL h0;clear h0
  go_enter Tryz.func30,Tryz.ntmps30
  go_wp2;go_ret
  exact⟨yK (by rw[HAB.out];simp[H0.out]),HB0.out⟩
end Go.Proofs.YtdcofkabaigjpaaGreat
