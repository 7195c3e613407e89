/- Contracts: which nested data are the same, by the program. Contracts: the order of a patch's nodes, by the reference; valid patches. -/
import Derived.Test.YtdcofkabaigjpaaGreatQAgUndone
import Derived.Deep.RegionHeld3
import Derived.Test.YtdcofkabaigjpaaGreatQAfUndone
import Derived.Test.YtdcofkabaigjpaaGreatQAhUndone
set_option linter.unusedVariables false
set_option linter.unusedSimpArgs false
set_option maxHeartbeats 2000000
set_option maxRecDepth 20000
namespace Go.Proofs.YtdcofkabaigjpaaGreat
section
open Go.RowKit
theorem c_iSamePatch (a b:xQ) (v1:Value) (v2:Value) (v3:Value) (u1:Value) (u2:Value) (u3:Value) (w:World) (r1:T.rd w (T.sl 26 1 (a.zU.map (T.ints 2))) [v1]) (r2:T.rd w (T.sl 120 4 (a.zH.map xP.t)) [v2]) (r3:T.rd w (T.ints 2 a.zT) [v3]) (t1:T.rd w (T.sl 26 1 (b.zU.map (T.ints 2))) [u1]) (t2:T.rd w (T.sl 120 4 (b.zH.map xP.t)) [u2]) (t3:T.rd w (T.ints 2 b.zT) [u3]):
  Calls Tryz.prog 124 #[.agg #[.int .i64 a.zS,v1,v2,v3],.agg #[.int .i64 b.zS,u1,u2,u3]] w fun e w'=>e= .returned (.bool (decide (a=b)))∧Below w.heap.size w w':=by
 have hab:decide (a=b)=(decide (a.zS=b.zS) && (decide (a.zU=b.zU) && (decide (a.zT=b.zT) && (decide (a.zH=b.zH))))):=by
  obtain⟨x0,x1,x2,x3⟩:=a;obtain⟨y0,y1,y2,y3⟩:=b;rw[Bool.eq_iff_iff];simp only[xQ.mk.injEq,decide_eq_true_eq,Bool.and_eq_true]
  try (constructor<;>(intro h;simp[h]))
 have R1:=xL r1;have Q1:=xL t1;have R2:=xL r2;have Q2:=xL t2;have R3:=xL r3;have Q3:=xL t3;obtain⟨va1,vl1,vc1,rfl⟩:=T.xB r1;obtain⟨ua1,ul1,uc1,rfl⟩:=T.xB t1;obtain⟨va2,vc2,rfl,hla2,hca2,hxa2⟩:=T.yR r2;obtain⟨ua2,uc2,rfl,hlb2,hcb2,hxb2⟩:=T.yR t2;rw[List.length_map] at hla2 hlb2 R2 Q2 ⊢;rw[List.length_map];have HXA2:=xL hxa2;have HXB2:=xL hxb2;clear hxa2 hxb2;obtain⟨va3,vl3,vc3,rfl⟩:=T.xB r3;obtain⟨ua3,ul3,uc3,rfl⟩:=T.xB t3;clear r1 t1 r2 t2 r3 t3;have HAB:=xL hab;clear hab;have HB0:=xL (show Below w.heap.size w ((w.alloc (.cells #[.int .i64 a.zS,(.slice va1 vl1 vc1),(.slice va2 a.zH.length vc2),(.slice va3 vl3 vc3)] 81)).alloc (.cells #[.int .i64 b.zS,(.slice ua1 ul1 uc1),(.slice ua2 b.zH.length uc2),(.slice ua3 ul3 uc3)] 81)) from(zR.alloc zJ _).alloc zQ _);have HKA0:=xL ((Bk.born w 81 #[.int .i64 a.zS,(.slice va1 vl1 vc1),(.slice va2 a.zH.length vc2),(.slice va3 vl3 vc3)]).alloc (.cells #[.int .i64 b.zS,(.slice ua1 ul1 uc1),(.slice ua2 b.zH.length uc2),(.slice ua3 ul3 uc3)] 81));have HKB0:=xL (Bk.born1' w (.cells #[.int .i64 a.zS,(.slice va1 vl1 vc1),(.slice va2 a.zH.length vc2),(.slice va3 vl3 vc3)] 81) 81 #[.int .i64 b.zS,(.slice ua1 ul1 uc1),(.slice ua2 b.zH.length uc2),(.slice ua3 ul3 uc3)]);by_cases h0:a.zS=b.zS
 ·have e0:(a.zS != b.zS)=false:=by simp[h0]
  have H0:=xL h0;clear h0;by_cases h1:a.zU=b.zU
  ·have c1:decide (a.zU=b.zU)=true:=by simp[h1]
   have H1:=xL h1;clear h1;by_cases h2:a.zT=b.zT
   ·have c2:decide (a.zT=b.zT)=true:=by simp[h2]
    have H2:=xL h2;clear h2;by_cases h3:a.zH.length=b.zH.length
    ·have e3:((a.zH.length:Int) != (b.zH.length:Int))=false:=by simp;omega
     have HL2:=xL h3;clear h3
     go_enter Tryz.func124,Tryz.ntmps124
     go_wp2_with fail
     refine(wDz _ _ a.zU b.zU _ (T.yH R1.out HB0.out) (T.yH Q1.out HB0.out)).mono ?_;rintro e w1 ⟨rfl,hd⟩;rw[c1];have hb:Below ((w.alloc (.cells #[.int .i64 a.zS,(.slice va1 vl1 vc1),(.slice va2 a.zH.length vc2),(.slice va3 vl3 vc3)] 81)).alloc (.cells #[.int .i64 b.zS,(.slice ua1 ul1 uc1),(.slice ua2 b.zH.length uc2),(.slice ua3 ul3 uc3)] 81)).heap.size ((w.alloc (.cells #[.int .i64 a.zS,(.slice va1 vl1 vc1),(.slice va2 a.zH.length vc2),(.slice va3 vl3 vc3)] 81)).alloc (.cells #[.int .i64 b.zS,(.slice ua1 ul1 uc1),(.slice ua2 b.zH.length uc2),(.slice ua3 ul3 uc3)] 81)) w1:=by first|exact hd.to_below _|exact hd
     have HKA1:=xL (HKA0.out.below hb HKA0.out.lt);have HKB1:=xL (HKB0.out.below hb HKB0.out.lt);have HB1:=xL (yM HB0.out HB0.out.size hb);clear hb hd;have ka1:=HKA1.out.cell;have kb1:=HKB1.out.cell;go_wp2_with fail
     refine(c_same _ _ a.zT b.zT _ (T.yZ.1 (T.yH R3.out HB1.out)) (T.yZ.1 (T.yH Q3.out HB1.out))).mono ?_;rintro e w2 ⟨rfl,hd⟩;rw[c2];have hb:Below w1.heap.size w1 w2:=by first|exact hd.to_below _|exact hd
     have HKA2:=xL (HKA1.out.below hb HKA1.out.lt);have HKB2:=xL (HKB1.out.below hb HKB1.out.lt);have HB2:=xL (yM HB1.out HB1.out.size hb);clear hb hd;have ka2:=HKA2.out.cell;have kb2:=HKB2.out.cell;go_wp2
     go_loopw [40] (fun i wr=> ∃ k:Nat,k≤a.zH.length∧i= .int .i64 k∧a.zH.take k=b.zH.take k∧Below w2.heap.size w2 wr) (fun i _=>a.zH.length - (intOf i).toNat)
     case atStart=>exact⟨0,Nat.zero_le _,rfl,rfl,zR⟩
     case round=>
      obtain⟨k,hk,rfl,hs,hbw⟩:=hrel;have HS:=xL hs;have HW:=xL hbw;clear hs hbw;have HB:=xL (yM HB2.out HB2.out.size HW.out);have HKA:=xL (HKA2.out.below HW.out HKA2.out.lt);have HKB:=xL (HKB2.out.below HW.out HKB2.out.lt);have ka:=HKA.out.cell;have kb:=HKB.out.cell;have la:w.heap.size<wr.heap.size:=HKA.out.lt;have lb:w.heap.size+1<wr.heap.size:=HKB.out.lt;by_cases hlt:k<a.zH.length
      ·have hlt2:k<b.zH.length:=by have:=HL2.out;omega
       obtain⟨b1,o1,cs1,hA1,hbw1,hcs1,hcell1⟩:=HXA2.out k (xP.t a.zH[k]) (by rw[List.getElem?_map,gE hlt];rfl);obtain⟨b2,o2,cs2,hA2,hbw2,hcs2,hcell2⟩:=HXB2.out k (xP.t b.zH[k]) (by rw[List.getElem?_map,gE hlt2];rfl);subst hA1 hA2;have hg1:=gE hlt;have hg2:=gE hlt2;generalize a.zH[k]=x at *;generalize b.zH[k]=y at *;have HG1:=xL hg1;have HG2:=xL hg2;clear hg1 hg2;obtain⟨p3,rfl,hR13⟩:=xP.yR (show T.rds _ _ _ by simpa only[xP.t,T.rd] using hcs1);have d10:=(HB.out.cell hbw1).trans (hcell1 0 (.int .i64 x.zC) rfl);have d11:=(HB.out.cell hbw1).trans (hcell1 1 (.int .i64 x.fA) rfl);have d12:=(HB.out.cell hbw1).trans (hcell1 2 (.int .i64 x.fB) rfl);have d13:=(HB.out.cell hbw1).trans (hcell1 3 (p3) rfl);rw[show o1+(k * 4+0)=o1+k * 4 by omega] at d10;rw[show o1+(k * 4+1)=o1+k * 4+1 by omega] at d11;rw[show o1+(k * 4+2)=o1+k * 4+2 by omega] at d12;rw[show o1+(k * 4+3)=o1+k * 4+3 by omega] at d13;have R13:=xL (T.yH hR13 HB.out);clear hR13;clear hcs1 hcell1;have hq1:b1<wr.heap.size:=zW hbw1 HB.out.size;obtain⟨pa3,pl3,pc3,rfl⟩:=T.xB R13.out;obtain⟨q3,rfl,hR23⟩:=xP.yR (show T.rds _ _ _ by simpa only[xP.t,T.rd] using hcs2);have d20:=(HB.out.cell hbw2).trans (hcell2 0 (.int .i64 y.zC) rfl);have d21:=(HB.out.cell hbw2).trans (hcell2 1 (.int .i64 y.fA) rfl);have d22:=(HB.out.cell hbw2).trans (hcell2 2 (.int .i64 y.fB) rfl);have d23:=(HB.out.cell hbw2).trans (hcell2 3 (q3) rfl);rw[show o2+(k * 4+0)=o2+k * 4 by omega] at d20;rw[show o2+(k * 4+1)=o2+k * 4+1 by omega] at d21;rw[show o2+(k * 4+2)=o2+k * 4+2 by omega] at d22;rw[show o2+(k * 4+3)=o2+k * 4+3 by omega] at d23;have R23:=xL (T.yH hR23 HB.out);clear hR23;clear hcs2 hcell2;have hq2:b2<wr.heap.size:=zW hbw2 HB.out.size;obtain⟨qa3,ql3,qc3,rfl⟩:=T.xB R23.out;have hW:=HW.out;have hB:=HB.out;by_cases he:x=y
       ·have hde:decide (x=y)=true:=decide_eq_true he
        have HE:=xL he;clear he;go_wp2
        go_region_held3 (fun w'=>w'.cell? ⟨wr.heap.size,0,none⟩=some (.int .i64 x.zC)∧w'.cell? ⟨wr.heap.size,1,none⟩=some (.int .i64 x.fA)∧w'.cell? ⟨wr.heap.size,2,none⟩=some (.int .i64 x.fB)∧w'.cell? ⟨wr.heap.size,3,none⟩=some ((.slice pa3 pl3 pc3))∧w'.cell? ⟨w.heap.size+1,2,none⟩=some (.slice (some ⟨b2,o2,none⟩) b.zH.length uc2)∧w'.cell? ⟨b2,o2+k * 4,none⟩=some (.int .i64 y.zC)∧w'.cell? ⟨b2,o2+k * 4+1,none⟩=some (.int .i64 y.fA)∧w'.cell? ⟨b2,o2+k * 4+2,none⟩=some (.int .i64 y.fB)∧w'.cell? ⟨b2,o2+k * 4+3,none⟩=some ((.slice qa3 ql3 qc3))) (first|go_keep|(refine⟨(hb3.cell ?_).trans ?_,(hb3.cell ?_).trans ?_,(hb3.cell ?_).trans ?_,(hb3.cell ?_).trans ?_,(hb3.cell ?_).trans ?_,(hb3.cell ?_).trans ?_,(hb3.cell ?_).trans ?_,(hb3.cell ?_).trans ?_,(hb3.cell ?_).trans ?_⟩<;>first|assumption|(simp[*];done)|(simp;omega))) (first|(go_at_call 151;refine(c_iSameNode x y _ _ _ (T.yH R13.out (by repeat(first|with_reducible exact zR|with_reducible refine Below.alloc ?_ zJ _|with_reducible refine Below.drew ?_|with_reducible refine below_drewN ?_ _))) (T.yH R23.out (by repeat(first|with_reducible exact zR|with_reducible refine Below.alloc ?_ zJ _|with_reducible refine Below.drew ?_|with_reducible refine below_drewN ?_ _)))).mono ?_;rintro e w3 ⟨rfl,hb3⟩;rw[hde]))
        have hb4:Below wr.heap.size wr w3:=by first|exact yP hb3|exact yP (undrew hb3)|exact yP (vG hb3)|exact hb3|exact undrew hb3|exact vG hb3
        have HC:=xL (yM HW.out HW.out.size hb4);have HC2:=xL (yM HB.out HB.out.size hb4);clear hb4 hb3;go_wp2
        go_roundw
        case rel=>exact⟨k+1,by omega,by go_num,vS HS.out HG1.out (by rw[HE.out];exact HG2.out),(by first|exact HC.out|exact HC.out.drew|exact below_drewN HC.out _)⟩
        case measure=>simp[intOf];omega
       ·have hde:decide (x=y)=false:=decide_eq_false he
        have HE:=xL he;clear he;go_wp2
        go_region_held3 (fun w'=>w'.cell? ⟨wr.heap.size,0,none⟩=some (.int .i64 x.zC)∧w'.cell? ⟨wr.heap.size,1,none⟩=some (.int .i64 x.fA)∧w'.cell? ⟨wr.heap.size,2,none⟩=some (.int .i64 x.fB)∧w'.cell? ⟨wr.heap.size,3,none⟩=some ((.slice pa3 pl3 pc3))∧w'.cell? ⟨w.heap.size+1,2,none⟩=some (.slice (some ⟨b2,o2,none⟩) b.zH.length uc2)∧w'.cell? ⟨b2,o2+k * 4,none⟩=some (.int .i64 y.zC)∧w'.cell? ⟨b2,o2+k * 4+1,none⟩=some (.int .i64 y.fA)∧w'.cell? ⟨b2,o2+k * 4+2,none⟩=some (.int .i64 y.fB)∧w'.cell? ⟨b2,o2+k * 4+3,none⟩=some ((.slice qa3 ql3 qc3))) (first|go_keep|(refine⟨(hb3.cell ?_).trans ?_,(hb3.cell ?_).trans ?_,(hb3.cell ?_).trans ?_,(hb3.cell ?_).trans ?_,(hb3.cell ?_).trans ?_,(hb3.cell ?_).trans ?_,(hb3.cell ?_).trans ?_,(hb3.cell ?_).trans ?_,(hb3.cell ?_).trans ?_⟩<;>first|assumption|(simp[*];done)|(simp;omega))) (first|(go_at_call 151;refine(c_iSameNode x y _ _ _ (T.yH R13.out (by repeat(first|with_reducible exact zR|with_reducible refine Below.alloc ?_ zJ _|with_reducible refine Below.drew ?_|with_reducible refine below_drewN ?_ _))) (T.yH R23.out (by repeat(first|with_reducible exact zR|with_reducible refine Below.alloc ?_ zJ _|with_reducible refine Below.drew ?_|with_reducible refine below_drewN ?_ _)))).mono ?_;rintro e w3 ⟨rfl,hb3⟩;rw[hde]))
        have hb4:Below wr.heap.size wr w3:=by first|exact yP hb3|exact yP (undrew hb3)|exact yP (vG hb3)|exact hb3|exact undrew hb3|exact vG hb3
        have HC:=xL (yM HW.out HW.out.size hb4);have HC2:=xL (yM HB.out HB.out.size hb4);clear hb4 hb3;go_wp2;go_ret
        have hne:=xHz HG1.out HG2.out HE.out;exact⟨yK (by rw[HAB.out];simp[H0.out,H1.out,H2.out,hne]),(by first|exact HC2.out|exact HC2.out.drew|exact below_drewN HC2.out _)⟩
      ·have hall:=vN (k:=k) zM HL2.out HS.out
       have HALL2:=xL hall;clear hall;go_wp2;go_ret
       exact⟨yK (by rw[HAB.out];simp[H0.out,H1.out,H2.out,HALL2.out]),HB.out⟩
    ·have e3:((a.zH.length:Int) != (b.zH.length:Int))=true:=by simp;omega
     have H3:=xL (show ¬ a.zH=b.zH from fun e=>h3 (by rw[e]));clear h3
     go_enter Tryz.func124,Tryz.ntmps124
     go_wp2_with fail
     refine(wDz _ _ a.zU b.zU _ (T.yH R1.out HB0.out) (T.yH Q1.out HB0.out)).mono ?_;rintro e w1 ⟨rfl,hd⟩;rw[c1];have hb:Below ((w.alloc (.cells #[.int .i64 a.zS,(.slice va1 vl1 vc1),(.slice va2 a.zH.length vc2),(.slice va3 vl3 vc3)] 81)).alloc (.cells #[.int .i64 b.zS,(.slice ua1 ul1 uc1),(.slice ua2 b.zH.length uc2),(.slice ua3 ul3 uc3)] 81)).heap.size ((w.alloc (.cells #[.int .i64 a.zS,(.slice va1 vl1 vc1),(.slice va2 a.zH.length vc2),(.slice va3 vl3 vc3)] 81)).alloc (.cells #[.int .i64 b.zS,(.slice ua1 ul1 uc1),(.slice ua2 b.zH.length uc2),(.slice ua3 ul3 uc3)] 81)) w1:=by first|exact hd.to_below _|exact hd
     have HKA1:=xL (HKA0.out.below hb HKA0.out.lt);have HKB1:=xL (HKB0.out.below hb HKB0.out.lt);have HB1:=xL (yM HB0.out HB0.out.size hb);clear hb hd;have ka1:=HKA1.out.cell;have kb1:=HKB1.out.cell;go_wp2_with fail
     refine(c_same _ _ a.zT b.zT _ (T.yZ.1 (T.yH R3.out HB1.out)) (T.yZ.1 (T.yH Q3.out HB1.out))).mono ?_;rintro e w2 ⟨rfl,hd⟩;rw[c2];have hb:Below w1.heap.size w1 w2:=by first|exact hd.to_below _|exact hd
     have HKA2:=xL (HKA1.out.below hb HKA1.out.lt);have HKB2:=xL (HKB1.out.below hb HKB1.out.lt);have HB2:=xL (yM HB1.out HB1.out.size hb);clear hb hd;have ka2:=HKA2.out.cell;have kb2:=HKB2.out.cell;go_wp2;go_ret
     exact⟨yK (by rw[HAB.out];simp[H0.out,H1.out,H2.out,H3.out]),HB2.out⟩
   ·have c2:decide (a.zT=b.zT)=false:=by simp[h2]
    have H2:=xL h2;clear h2
    go_enter Tryz.func124,Tryz.ntmps124
    go_wp2_with fail
    refine(wDz _ _ a.zU b.zU _ (T.yH R1.out HB0.out) (T.yH Q1.out HB0.out)).mono ?_;rintro e w1 ⟨rfl,hd⟩;rw[c1];have hb:Below ((w.alloc (.cells #[.int .i64 a.zS,(.slice va1 vl1 vc1),(.slice va2 a.zH.length vc2),(.slice va3 vl3 vc3)] 81)).alloc (.cells #[.int .i64 b.zS,(.slice ua1 ul1 uc1),(.slice ua2 b.zH.length uc2),(.slice ua3 ul3 uc3)] 81)).heap.size ((w.alloc (.cells #[.int .i64 a.zS,(.slice va1 vl1 vc1),(.slice va2 a.zH.length vc2),(.slice va3 vl3 vc3)] 81)).alloc (.cells #[.int .i64 b.zS,(.slice ua1 ul1 uc1),(.slice ua2 b.zH.length uc2),(.slice ua3 ul3 uc3)] 81)) w1:=by first|exact hd.to_below _|exact hd
    have HKA1:=xL (HKA0.out.below hb HKA0.out.lt);have HKB1:=xL (HKB0.out.below hb HKB0.out.lt);have HB1:=xL (yM HB0.out HB0.out.size hb);clear hb hd;have ka1:=HKA1.out.cell;have kb1:=HKB1.out.cell;go_wp2_with fail
    refine(c_same _ _ a.zT b.zT _ (T.yZ.1 (T.yH R3.out HB1.out)) (T.yZ.1 (T.yH Q3.out HB1.out))).mono ?_;rintro e w2 ⟨rfl,hd⟩;rw[c2];have hb:Below w1.heap.size w1 w2:=by first|exact hd.to_below _|exact hd
    have HKA2:=xL (HKA1.out.below hb HKA1.out.lt);have HKB2:=xL (HKB1.out.below hb HKB1.out.lt);have HB2:=xL (yM HB1.out HB1.out.size hb);clear hb hd;have ka2:=HKA2.out.cell;have kb2:=HKB2.out.cell;go_wp2;go_ret
    exact⟨yK (by rw[HAB.out];simp[H0.out,H1.out,H2.out]),HB2.out⟩
  ·have c1:decide (a.zU=b.zU)=false:=by simp[h1]
   have H1:=xL h1;clear h1
   go_enter Tryz.func124,Tryz.ntmps124
   go_wp2_with fail
   refine(wDz _ _ a.zU b.zU _ (T.yH R1.out HB0.out) (T.yH Q1.out HB0.out)).mono ?_;rintro e w1 ⟨rfl,hd⟩;rw[c1];have hb:Below ((w.alloc (.cells #[.int .i64 a.zS,(.slice va1 vl1 vc1),(.slice va2 a.zH.length vc2),(.slice va3 vl3 vc3)] 81)).alloc (.cells #[.int .i64 b.zS,(.slice ua1 ul1 uc1),(.slice ua2 b.zH.length uc2),(.slice ua3 ul3 uc3)] 81)).heap.size ((w.alloc (.cells #[.int .i64 a.zS,(.slice va1 vl1 vc1),(.slice va2 a.zH.length vc2),(.slice va3 vl3 vc3)] 81)).alloc (.cells #[.int .i64 b.zS,(.slice ua1 ul1 uc1),(.slice ua2 b.zH.length uc2),(.slice ua3 ul3 uc3)] 81)) w1:=by first|exact hd.to_below _|exact hd
   have HKA1:=xL (HKA0.out.below hb HKA0.out.lt);have HKB1:=xL (HKB0.out.below hb HKB0.out.lt);have HB1:=xL (yM HB0.out HB0.out.size hb);clear hb hd;have ka1:=HKA1.out.cell;have kb1:=HKB1.out.cell;go_wp2;go_ret
   exact⟨yK (by rw[HAB.out];simp[H0.out,H1.out]),HB1.out⟩
 ·have e0:(a.zS != b.zS)=true:=by simp[h0]
  have H0:=xL h0;clear h0
  go_enter Tryz.func124,Tryz.ntmps124
  go_wp2;go_ret
  exact⟨yK (by rw[HAB.out];simp[H0.out]),HB0.out⟩
end
section
open Go.RowKit
theorem c_l07Waits (x:xP) (b o:Nat) (w:World) (h:T.at w x.fs b o):Calls Tryz.prog 139 #[.pointer (some ⟨b,o,none⟩)] w fun e w'=> ∃ u,e= .returned u∧RdI w' u (uF x)∧Below w.heap.size w w':=by
 have HAT:=xL h;obtain⟨hlt0,cs,hr,hc⟩:=h;obtain⟨v3,rfl,h3⟩:=xP.yR hr;clear hr;obtain⟨va3,vc3,rfl,vl3,vm3,R3,HX3⟩:=oI h3;clear h3;have HL:=xL hlt0;have HCC:=xL hc;have HB0:=xL (Below.refl w.heap.size w);clear hlt0 hc;have p0:w.cell? ⟨b,o,none⟩=some (.int .i64 x.zC):=(HB0.out.cell HL.out).trans (HCC.out 0 _ rfl);have p1:w.cell? ⟨b,o+1,none⟩=some (.int .i64 x.fA):=(HB0.out.cell HL.out).trans (HCC.out 1 _ rfl);have p2:w.cell? ⟨b,o+2,none⟩=some (.int .i64 x.fB):=(HB0.out.cell HL.out).trans (HCC.out 2 _ rfl);have p3:w.cell? ⟨b,o+3,none⟩=some (.slice va3 x.zK.length vc3):=(HB0.out.cell HL.out).trans (HCC.out 3 _ rfl);have lb:b<w.heap.size:=zW HL.out HB0.out.size
 go_enter Tryz.func139,Tryz.ntmps139
 by_cases h6:x.zC=6
 ·have h6':(x.zC == 6)=true:=yY h6;have H6:=xL h6;clear h6
  have HN:=xL (uX w).rd;have HA:=xL (show Below w.heap.size w (w.alloc (.cells #[] 2)) from zR.alloc zJ _);go_wp2;go_ret
  exact⟨_,rfl,by unfold uF;rw[if_pos H6.out];exact HN.out,HA.out⟩
 ·have h6':(x.zC == 6)=false:=yX h6;have H6:=xL h6;clear h6
  go_wp2;go_ret
  exact⟨_,rfl,by unfold uF;rw[if_neg H6.out];exact R3.out,zR⟩
theorem c_l07All (v u:Value) (xs ys:List Int) (w:World) (hr:RdI w v xs) (hs:RdI w u ys):Calls Tryz.prog 138 #[v,u] w fun e w'=>e= .returned (.bool (xs.all fun f=>decide (f ∈ ys)))∧w=w':=by
 have HS1:=xL hs;obtain⟨A,cap,rfl,hl,hc,hx⟩:=hr.open_;have HX:=xL hx;clear hx hr hs
 go_enter Tryz.func138,Tryz.ntmps138
 go_wp2
 go_loop [5] (fun i=> ∃ k:Nat,k≤xs.length∧i= .int .i64 k∧vF xs (fun _ x=>decide (x ∈ ys)=true) k) (fun i=>xs.length - (intOf i).toNat)
 case atStart=>exact⟨0,Nat.zero_le _,rfl,vF.zero⟩
 case round=>
  obtain⟨k,hk,rfl,hs⟩:=hrel;have HS:=xL hs;clear hs;by_cases hlt:k<xs.length
  ·have hgk:=gE hlt
   obtain⟨b,off,rfl,hb,hcell⟩:=HX.out k xs[k] hgk;generalize xs[k]=x at *;have HG:=xL hgk;clear hgk
   cases hq:decide (x ∈ ys)
   ·have HQ:=xL hq
    go_wp2_with (go_at_call 137;refine(yBz _ ys _ _ HS1.out).mono ?_;rintro e w' ⟨rfl,rfl⟩;rw[hq])
    go_ret
    exact⟨yK (by
     symm
     rw[List.all_eq_false];exact⟨x,List.mem_of_getElem? HG.out,by rw[HQ.out];simp⟩),rfl⟩
   ·have HQ:=xL hq
    go_wp2_with (go_at_call 137;refine(yBz _ ys _ _ HS1.out).mono ?_;rintro e w' ⟨rfl,rfl⟩;rw[hq])
    go_round
    case rel=>exact⟨k+1,by omega,by go_num,HS.out.step HG.out HQ.out⟩
    case measure=>simp[intOf];omega
  ·have hall:=xL (HS.out.all zM)
   go_wp2;go_ret
   exact⟨yK (by
    symm
    rw[List.all_eq_true];exact Each.of_mem.1 hall.out),rfl⟩
theorem c_l07Order (x:xQ) (b o:Nat) (w:World) (hn:x.zH.length≤1048576) (h:T.at w x.fs b o):Calls Tryz.prog 107 #[.pointer (some ⟨b,o,none⟩)] w fun e w'=> ∃ v,e= .returned (.tuple #[v,.bool (decide ((zUz x.zH).length=x.zH.length))])∧((zUz x.zH).length=x.zH.length→OwI 2 w' w.heap.size v (zUz x.zH))∧Below w.heap.size w w':=by
 have HAT:=xL h;obtain⟨hlt0,cs,hr,hc⟩:=h;obtain⟨v1,v2,v3,rfl,h1,h2,h3⟩:=xQ.yR hr;clear hr;obtain⟨va1,vc1,rfl,vl1,vm1,R1,HX1⟩:=oG h1;clear h1;obtain⟨va2,vc2,rfl,vl2,vm2,R2,HX2⟩:=oG h2;clear h2;obtain⟨va3,vc3,rfl,vl3,vm3,R3,HX3⟩:=oI h3;clear h3;have HL:=xL hlt0;have HCC:=xL hc;have HB0:=xL (Below.refl w.heap.size w);clear hlt0 hc;have HN0:=xL (uX w);have HA0:=xL (show Below w.heap.size w (w.alloc (.cells #[] 2)) from zR.alloc zJ _)
 go_enter Tryz.func107,Tryz.ntmps107
 go_wp2
 go_loopw [4] (fun v wr=> ∃ m:Nat,OwI 2 wr w.heap.size v (xH x.zH m)∧(xH x.zH m).length=m∧Below w.heap.size w wr) (fun v _=>x.zH.length - lenV v)
 case atStart=>exact⟨0,HN0.out,rfl,HA0.out⟩
 case round=>
  obtain⟨m,ho,hlen,hbw⟩:=hrel;obtain⟨A,cp,rfl,hcl,hcm,_⟩:=ho.rd.open_;rw[hlen] at ho hcl ⊢;have HO:=xL ho;have HLEN:=xL hlen;have HB:=xL hbw;clear ho hbw hlen;have hcap:=yHz (nodes:=x.zH) m;rw[HLEN.out] at hcap;have p0:wr.cell? ⟨b,o,none⟩=some (.int .i64 x.zS):=(HB.out.cell HL.out).trans (HCC.out 0 _ rfl);have p1:wr.cell? ⟨b,o+1,none⟩=some (.slice va1 x.zU.length vc1):=(HB.out.cell HL.out).trans (HCC.out 1 _ rfl);have p2:wr.cell? ⟨b,o+2,none⟩=some (.slice va2 x.zH.length vc2):=(HB.out.cell HL.out).trans (HCC.out 2 _ rfl);have p3:wr.cell? ⟨b,o+3,none⟩=some (.slice va3 x.zT.length vc3):=(HB.out.cell HL.out).trans (HCC.out 3 _ rfl);have lb:b<wr.heap.size:=zW HL.out HB.out.size;by_cases hmn:m<x.zH.length
  rotate_left
  ·obtain rfl:m=x.zH.length:=by omega
   have hd:decide ((zUz x.zH).length=x.zH.length)=true:=decide_eq_true HLEN.out;have HD:=xL hd;clear hd;go_wp2
   go_ret2
   exact⟨_,by rw[HD.out];rfl,fun _=>HO.out,HB.out⟩
  go_wp2;clear p0 p1 p2 p3 lb;generalize wr=wo at *
  go_loopw [5,6] (fun nx i ws=> ∃ (k:Nat) (z:Int),k≤x.zH.length∧i= .int .i64 k∧nx= .int .i64 z∧((z= -1∧ ∀ j,j<k→uY x.zH (xH x.zH m) j=false)∨(∃ q:Nat,z=(q:Int)∧q<x.zH.length∧uY x.zH (xH x.zH m) q=true∧ ∀ j,j<q→uY x.zH (xH x.zH m) j=false))∧Below wo.heap.size wo ws) (fun _ i _=>x.zH.length - (intOf i).toNat)
  case atStart=>exact⟨0,-1,Nat.zero_le _,rfl,rfl,.inl ⟨rfl,fun j h=>absurd h zM⟩,zR⟩
  case round=>
   obtain⟨k,z,hk,rfl,rfl,hz,hbs⟩:=hrel;have HW:=xL hbs;have HB2:=xL (yM HB.out HB.out.size hbs);have HO2:=xL (HO.out.all hbs);have hsz:=HB2.out.size;clear hbs;have p0:wr.cell? ⟨b,o,none⟩=some (.int .i64 x.zS):=(HB2.out.cell HL.out).trans (HCC.out 0 _ rfl);have p1:wr.cell? ⟨b,o+1,none⟩=some (.slice va1 x.zU.length vc1):=(HB2.out.cell HL.out).trans (HCC.out 1 _ rfl);have p2:wr.cell? ⟨b,o+2,none⟩=some (.slice va2 x.zH.length vc2):=(HB2.out.cell HL.out).trans (HCC.out 2 _ rfl);have p3:wr.cell? ⟨b,o+3,none⟩=some (.slice va3 x.zT.length vc3):=(HB2.out.cell HL.out).trans (HCC.out 3 _ rfl);have lb:b<wr.heap.size:=zW HL.out HB2.out.size
   rcases hz with ⟨rfl,hno⟩|⟨q,rfl,hq,hrd,hno⟩
   rotate_left
   ·have HNX:=xL (nextF_some hq hrd hno);clear hrd hno
    have hll:(xH x.zH m).length+1≤17592186044416:=by rw[HLEN.out];omega
    by_cases hkn:k<x.zH.length
    all_goals
     go_wp2_with (at_builtin;refine xJz (n:=(q:Int)) rfl _ _ rfl rfl HO2.out rfl hll hsz ?_;intro v8 w8 ho8 hg8 hv8;have HO8:=xL ho8;have HG8:=xL hg8;clear ho8 hg8 hv8)
     have HB8:=xL (HB2.out.grown HG8.out hsz (fun j hj=>(HO2.out.lt j hj).1));have HSN:=xL (wJz HNX.out);have HL8:=xL (show (xH x.zH (m+1)).length=m+1 by rw[HSN.out,List.length_append,HLEN.out];rfl);obtain⟨A8,c8,rfl,_,_,_⟩:=HO8.out.rd.open_;have HO9:=xL (show OwI 2 w8 w.heap.size (.slice A8 (m+1) c8) (xH x.zH (m+1)) by have:=HO8.out;rw[HSN.out];simpa[HLEN.out] using this);rw[show (xH x.zH m++ [(q:Int)]).length=m+1 by rw[←HSN.out];exact HL8.out];clear HO8;go_wp2
     go_roundw
     case rel=>exact⟨m+1,HO9.out,HL8.out,HB8.out⟩
     case measure=>show x.zH.length - (m+1)<x.zH.length - m;omega
   have HNO:=xL hno;clear hno;by_cases hlt:k<x.zH.length
   rotate_left
   ·have hnone:=xL (nextF_none (nodes:=x.zH) (out:=(xH x.zH m)) (fun j hj=>HNO.out j zM))
    have HE:=xL (xQz hnone.out HLEN.out);have HD:=xL (show decide ((zUz x.zH).length=x.zH.length)=false by rw[HE.out,HLEN.out];exact decide_eq_false zM);have HD2:=xL (show ¬ (zUz x.zH).length=x.zH.length by rw[HE.out,HLEN.out];omega);go_wp2
    go_ret2
    exact⟨_,by rw[HD.out];rfl,fun h=>absurd h HD2.out,HB2.out⟩
   have hgk:=gE hlt;obtain⟨b1,off,csy,hA,hb1,hcs,hcell⟩:=HX2.out k x.zH[k] hgk;subst hA;generalize x.zH[k]=y at *;have HG:=xL hgk;clear hgk;have HAy:=xL (T.at_elem (o:=off+k * 4) hb1 (show T.rds w y.fs csy by simpa only[xP.t,T.rd] using hcs) hcell zM);clear hcs hcell;have n1:((k:Int)<(x.zH.length:Int)):=by omega
   have hq1:b1<wr.heap.size:=zW hb1 HB2.out.size;have HRDY:=xL (readyB_of (out:=(xH x.zH m)) HG.out)
   cases a1:decide ((k:Int) ∈ (xH x.zH m))
   rotate_left
   ·have HF:=xL (show uY x.zH (xH x.zH m) k=false by rw[HRDY.out,a1];rfl)
    go_wp2_with (go_at_call 137;refine(yBz _ (xH x.zH m) _ _ HO2.out.rd).mono ?_;rintro e w' ⟨rfl,rfl⟩;rw[a1])
    go_roundw
    case rel=>exact⟨k+1,-1,by omega,by go_num,rfl,.inl ⟨rfl,fun j hj=>by
     by_cases e:j=k
     ·subst e;exact HF.out
     ·exact HNO.out j zM⟩,HW.out⟩
    case measure=>simp[intOf];omega
   rw[a1,Bool.not_false,Bool.true_and] at HRDY;go_wp2_with (go_at_call 137;refine(yBz _ (xH x.zH m) _ _ HO2.out.rd).mono ?_;rintro e w' ⟨rfl,rfl⟩;rw[a1])
   refine(c_l07Waits y _ _ _ (T.at_below HAy.out HB2.out)).mono ?_;rintro e w4 ⟨u,rfl,hu,hb4⟩;have HU:=xL hu;have HB4:=xL (yM HB2.out HB2.out.size hb4);have HO4:=xL (HO2.out.all hb4);have HW4:=xL (yM HW.out HW.out.size hb4);clear hu hb4 a1;obtain⟨ua,uc,rfl,_,_,_⟩:=HU.out.open_
   cases a2:(uF y).all fun f=>decide (f ∈ (xH x.zH m))
   ·have HF:=xL (show uY x.zH (xH x.zH m) k=false by rw[HRDY.out,a2])
    go_wp2_with (go_at_call 138;refine(c_l07All _ _ (uF y) (xH x.zH m) _ HU.out HO4.out.rd).mono ?_;rintro e w' ⟨rfl,rfl⟩;rw[a2])
    go_roundw
    case rel=>exact⟨k+1,-1,by omega,by go_num,rfl,.inl ⟨rfl,fun j hj=>by
     by_cases e:j=k
     ·subst e;exact HF.out
     ·exact HNO.out j zM⟩,HW4.out⟩
    case measure=>simp[intOf];omega
   ·have HF:=xL (show uY x.zH (xH x.zH m) k=true by rw[HRDY.out,a2])
    go_wp2_with (go_at_call 138;refine(c_l07All _ _ (uF y) (xH x.zH m) _ HU.out HO4.out.rd).mono ?_;rintro e w' ⟨rfl,rfl⟩;rw[a2])
    go_roundw
    case rel=>exact⟨k+1,(k:Int),by omega,by go_num,rfl,.inr ⟨k,rfl,hlt,HF.out,HNO.out⟩,HW4.out⟩
    case measure=>simp[intOf];omega
theorem c_l07Ok (x:xQ) (b o:Nat) (w:World) (hn:x.zH.length≤1048576) (ht:x.zU.length≤1048576) (h:T.at w x.fs b o):Calls Tryz.prog 72 #[.pointer (some ⟨b,o,none⟩)] w fun e w'=>e= .returned (.bool (tf (PatchOk x)))∧Below w.heap.size w w':=by
 have HAT:=xL h;obtain⟨hlt0,cs,hr,hc⟩:=h;obtain⟨v1,v2,v3,rfl,h1,h2,h3⟩:=xQ.yR hr;clear hr;obtain⟨va1,vc1,rfl,vl1,vm1,R1,HX1⟩:=oG h1;clear h1;obtain⟨va2,vc2,rfl,vl2,vm2,R2,HX2⟩:=oG h2;clear h2;obtain⟨va3,vc3,rfl,vl3,vm3,R3,HX3⟩:=oI h3;clear h3;have HL:=xL hlt0;have HCC:=xL hc;have HB0:=xL (Below.refl w.heap.size w);clear hlt0 hc
 go_enter Tryz.func72,Tryz.ntmps72
 go_wp2_with fail
 refine(c_l07Formed x _ _ _ ht HAT.out).mono ?_;rintro e w1 ⟨rfl,hb1⟩;have HB1:=xL hb1;clear hb1;by_cases q1:xOz x
 rotate_left
 ·rw[xE q1];have Q1:=xL q1;clear q1
  go_wp2;go_ret
  exact⟨yK (xE fun h=>Q1.out h.formed).symm,HB1.out⟩
 rw[xG q1];have Q1:=xL q1;clear q1;go_wp2_with fail
 refine(c_l07Order x _ _ _ hn (T.at_below HAT.out HB1.out)).mono ?_;rintro e w2 ⟨v,rfl,_,hb2⟩;have HB2:=xL (yM HB1.out HB1.out.size hb2);clear hb2;go_wp2;go_ret
 exact⟨yK (by
  by_cases h:(zUz x.zH).length=x.zH.length
  ·rw[xG ⟨Q1.out,h⟩];exact decide_eq_true h
  ·rw[xE fun hh=>h hh.order];exact decide_eq_false h),HB2.out⟩
def lenA:Value→Option Addr
 | .slice a _ _=>a
 |_=>none
def capA:Value→Nat
 | .slice _ _ c=>c
 |_=>0
theorem len_form {w:World} {v:Value} {xs:List Int} (h:RdI w v xs):v= .slice (lenA v) xs.length (capA v):=by
 obtain⟨A,c,rfl,_⟩:=h.open_
 rfl
theorem rd_none {α:Type} (w:World) (E:TypeId) (sz:Nat) (tr:α→T):T.rd w (T.sl E sz (([]:List α).map tr)) [.slice none 0 0]:=by
 simp only[T.rd,List.map_nil];exact⟨_,[],rfl,by simp,Rd.nil_ w sz,by simp[T.rds]⟩
theorem c_isPatch (x:xQ) (cs:List Value) (w:World) (hn:x.zH.length≤1048576) (h:T.rds w x.fs cs):Calls Tryz.prog 92 #[.agg cs.toArray] w fun e w'=>e= .returned (.bool (tf (PatchOk x)))∧Below w.heap.size w w':=by
 obtain⟨v1,v2,v3,rfl,h1,h2,h3⟩:=xQ.yR h;clear h;obtain⟨va1,vc1,rfl,vl1,vm1,R1,HX1⟩:=oG h1;clear h1;obtain⟨va2,vc2,rfl,vl2,vm2,R2,HX2⟩:=oG h2;clear h2;obtain⟨va3,vc3,rfl,vl3,vm3,R3,HX3⟩:=oI h3;clear h3;have HB0:=xL (show Below w.heap.size w (w.alloc (.cells #[.int .i64 x.zS,(.slice va1 x.zU.length vc1),(.slice va2 x.zH.length vc2),(.slice va3 x.zT.length vc3)] 81)) from zR.alloc zJ _);have HK0:=xL (Bk.born w 81 #[.int .i64 x.zS,(.slice va1 x.zU.length vc1),(.slice va2 x.zH.length vc2),(.slice va3 x.zT.length vc3)])
 go_enter Tryz.func92,Tryz.ntmps92
 go_wp2;generalize (w.alloc (.cells #[.int .i64 x.zS,(.slice va1 x.zU.length vc1),(.slice va2 x.zH.length vc2),(.slice va3 x.zT.length vc3)] 81))=W at *;have g0:=xK HK0.out;have HRW:=xL (fun u=>xQ.rd_mk (T.yH R1.out (yM HB0.out HB0.out.size (yJ W u))) (T.yH R2.out (yM HB0.out HB0.out.size (yJ W u))) (T.yZ.2 (Rd.below R3.out (yM HB0.out HB0.out.size (yJ W u)))));by_cases q1:xOz x
 rotate_left
 ·have a1:=xE q1;have Q1:=xL q1;clear q1
  refine rB ?_
  repeat(first|go_big_quiet_skip|(go_big_quiet_want;go_big_quiet_op;first|go_big_quiet_on|(apply Exists.intro;refine⟨fun _=>?_,?_⟩;(· (go_at_call 125;exact Calls.yO ((xUz x _ _ (HRW.out _)).mono (fun e w' h=>by(first|rw[a1] at h|skip);exact h))));go_big_quiet_on)))
  refine wpQuiet_nil ?_;rintro w9 ⟨uu,rfl⟩;have hb9:=yJ W uu;generalize bel W uu=w9 at *;have HB9:=xL (yM HB0.out HB0.out.size hb9);go_wp2;go_ret
  exact⟨yK (xE fun h=>Q1.out h.formed).symm,HB9.out⟩
 have a1:=xG q1;have Q1:=xL q1;clear q1;have ka:=HK0.out.cell;have lW:=HK0.out.lt;have HWF:=xL (show Each x.zH fun _ y=>Idx y.zK (x.zH.length:Int) from fun i y hy=>(Q1.out.nodes i y hy).2.1)
 go_region_held3 (fun w'=>w'.cell? ⟨w.heap.size,0,none⟩=some (.int .i64 x.zS)∧w'.cell? ⟨w.heap.size,1,none⟩=some (.slice va1 x.zU.length vc1)∧w'.cell? ⟨w.heap.size,2,none⟩=some (.slice va2 x.zH.length vc2)∧w'.cell? ⟨w.heap.size,3,none⟩=some (.slice va3 x.zT.length vc3)) (first|go_keep|(refine⟨(hb4.cell ?_).trans ?_,(hb4.cell ?_).trans ?_,(hb4.cell ?_).trans ?_,(hb4.cell ?_).trans ?_⟩<;>first|assumption|(simp[*];done)|(simp;omega)|omega)|(refine⟨(hb3.cell ?_).trans ?_,(hb3.cell ?_).trans ?_,(hb3.cell ?_).trans ?_,(hb3.cell ?_).trans ?_⟩<;>first|assumption|(simp[*];done)|(simp;omega)|omega)) (first|(go_at_call 125;refine(xUz x _ _ (xQ.rd_mk (T.yH R1.out (by first|exact HB0.out|exact HB0.out.drew|exact below_drewN HB0.out _)) (T.yH R2.out (by first|exact HB0.out|exact HB0.out.drew|exact below_drewN HB0.out _)) (T.yZ.2 (Rd.below R3.out (by first|exact HB0.out|exact HB0.out.drew|exact below_drewN HB0.out _))))).mono ?_;rintro e w3 ⟨rfl,hb3⟩;rw[a1];have hl3:=zW HK0.out.lt hb3.size;have H3:=xL (yM HB0.out HB0.out.size (by first|exact hb3|exact undrew hb3|exact vG hb3)))|(go_at_call 126;refine(c_order x _ _ hn HWF.out (xQ.rd_mk (T.yH R1.out (by first|exact H3.out|exact H3.out.drew|exact below_drewN H3.out _)) (T.yH R2.out (by first|exact H3.out|exact H3.out.drew|exact below_drewN H3.out _)) (T.yZ.2 (Rd.below R3.out (by first|exact H3.out|exact H3.out.drew|exact below_drewN H3.out _))))).mono ?_;rintro e w4 ⟨v4,rfl,hv4,hb4⟩;have H4:=xL (yM H3.out H3.out.size (by first|exact hb4|exact undrew hb4|exact vG hb4));have HV:=xL (show v4= .slice (lenA v4) (zUz x.zH).length (capA v4) from len_form hv4.rd);rw[HV.out]))
 go_wp2;go_ret
 exact⟨yK (by
  by_cases h:(zUz x.zH).length=x.zH.length
  ·rw[xG ⟨Q1.out,h⟩];exact yY zM
  ·rw[xE fun hh=>h hh.order];exact yX zM),H4.out⟩
theorem c_isEmpty (x:xQ) (cs:List Value) (w:World) (h:T.rds w x.fs cs):Calls Tryz.prog 91 #[.agg cs.toArray] w fun e w'=>e= .returned (.bool (tf (x=yPz)))∧Below w.heap.size w w':=by
 obtain⟨v1,v2,v3,rfl,h1,h2,h3⟩:=xQ.yR h;clear h;obtain⟨va1,vc1,rfl,vl1,vm1,R1,HX1⟩:=oG h1;clear h1;obtain⟨va2,vc2,rfl,vl2,vm2,R2,HX2⟩:=oG h2;clear h2;obtain⟨va3,vc3,rfl,vl3,vm3,R3,HX3⟩:=oI h3;clear h3;have HB0:=xL (show Below w.heap.size w (w.alloc (.cells #[.int .i64 x.zS,(.slice va1 x.zU.length vc1),(.slice va2 x.zH.length vc2),(.slice va3 x.zT.length vc3)] 81)) from zR.alloc zJ _);have HK0:=xL (Bk.born w 81 #[.int .i64 x.zS,(.slice va1 x.zU.length vc1),(.slice va2 x.zH.length vc2),(.slice va3 x.zT.length vc3)])
 go_enter Tryz.func91,Tryz.ntmps91
 go_wp2_with fail
 refine(c_iSamePatch x yPz _ _ _ (.slice none 0 0) (.slice none 0 0) (.slice none 0 0) _ (T.yH R1.out HB0.out) (T.yH R2.out HB0.out) (T.yZ.2 (Rd.below R3.out HB0.out)) ?_ ?_ ?_).mono ?_
 ·exact rd_none _ _ _ _
 ·exact rd_none _ _ _ _
 ·exact T.yZ.2 (Rd.nil_ _ _)
 rintro e w1 ⟨rfl,hb1⟩;have H1:=xL (yM HB0.out HB0.out.size hb1);clear hb1;go_wp2;go_ret
 exact⟨yK uE.symm,H1.out⟩
theorem c_isEffect (x:xQ) (cs:List Value) (w:World) (hn:x.zH.length≤1048576) (h:T.rds w x.fs cs):Calls Tryz.prog 55 #[.agg cs.toArray] w fun e w'=>e= .returned (.bool (tf (xRz x)))∧Below w.heap.size w w':=by
 obtain⟨v1,v2,v3,rfl,h1,h2,h3⟩:=xQ.yR h;clear h;obtain⟨va1,vc1,rfl,vl1,vm1,R1,HX1⟩:=oG h1;clear h1;obtain⟨va2,vc2,rfl,vl2,vm2,R2,HX2⟩:=oG h2;clear h2;obtain⟨va3,vc3,rfl,vl3,vm3,R3,HX3⟩:=oI h3;clear h3;have HB0:=xL (show Below w.heap.size w (w.alloc (.cells #[.int .i64 x.zS,(.slice va1 x.zU.length vc1),(.slice va2 x.zH.length vc2),(.slice va3 x.zT.length vc3)] 81)) from zR.alloc zJ _);have HK0:=xL (Bk.born w 81 #[.int .i64 x.zS,(.slice va1 x.zU.length vc1),(.slice va2 x.zH.length vc2),(.slice va3 x.zT.length vc3)])
 go_enter Tryz.func55,Tryz.ntmps55
 go_wp2_with fail
 refine(c_isEmpty x _ _ (xQ.rd_mk (T.yH R1.out HB0.out) (T.yH R2.out HB0.out) (T.yZ.2 (Rd.below R3.out HB0.out)))).mono ?_;rintro e w1 ⟨rfl,hd⟩;have hb:Below (w.alloc (.cells #[.int .i64 x.zS,(.slice va1 x.zU.length vc1),(.slice va2 x.zH.length vc2),(.slice va3 x.zT.length vc3)] 81)).heap.size (w.alloc (.cells #[.int .i64 x.zS,(.slice va1 x.zU.length vc1),(.slice va2 x.zH.length vc2),(.slice va3 x.zT.length vc3)] 81)) w1:=by first|exact hd|exact hd.to_below _|exact hd ▸ zR
 have HK1:=xL (HK0.out.below hb HK0.out.lt);have HB1:=xL (yM HB0.out HB0.out.size hb);clear hb hd;have ka:=HK1.out.cell;have la:=HK1.out.lt;by_cases q1:x=yPz
 ·rw[xG q1];have Q1:=xL q1;clear q1
  go_wp2;go_ret
  exact⟨yK (xG (.inl Q1.out)).symm,HB1.out⟩
 rw[xE q1];have Q1:=xL q1;clear q1;go_wp2_with fail
 refine(c_isPatch x _ _ hn (xQ.rd_mk (T.yH R1.out HB1.out) (T.yH R2.out HB1.out) (T.yZ.2 (Rd.below R3.out HB1.out)))).mono ?_;rintro e w2 ⟨rfl,hd⟩;have hb:Below w1.heap.size w1 w2:=by first|exact hd|exact hd.to_below _|exact hd ▸ zR
 have HK2:=xL (HK1.out.below hb HK1.out.lt);have HB2:=xL (yM HB1.out HB1.out.size hb);clear hb hd ka la;have ka:=HK2.out.cell;have la:=HK2.out.lt;by_cases q2:PatchOk x
 rotate_left
 ·rw[xE q2];have Q2:=xL q2;clear q2
  go_wp2;go_ret
  exact⟨yK (xE fun h=>h.elim Q1.out fun h=>Q2.out h.1).symm,HB2.out⟩
 rw[xG q2];have Q2:=xL q2;clear q2;by_cases q3:x.zS=1
 rotate_left
 ·have b3:(x.zS == 1)=false:=yX q3;have Q3:=xL q3;clear q3
  go_wp2;go_ret
  exact⟨yK (xE fun h=>h.elim Q1.out fun h=>Q3.out h.2.1).symm,HB2.out⟩
 have b3:(x.zS == 1)=true:=yY q3;have Q3:=xL q3;clear q3;by_cases q4:x.zT.length=1
 rotate_left
 ·have b4:((x.zT.length:Int) == 1)=false:=yX zM;have Q4:=xL q4;clear q4
  go_wp2;go_ret
  exact⟨yK (xE fun h=>h.elim Q1.out fun h=>Q4.out h.2.2).symm,HB2.out⟩
 have b4:((x.zT.length:Int) == 1)=true:=yY zM;have Q4:=xL q4;clear q4;go_wp2;go_ret
 exact⟨yK (xG (.inr ⟨Q2.out,Q3.out,Q4.out⟩)).symm,HB2.out⟩
end
end Go.Proofs.YtdcofkabaigjpaaGreat
