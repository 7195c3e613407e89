/- Contracts: which nested data are the same, by the program. -/
import Derived.Test.YtoibekfhepnedaaGreatQAmExactSoundCache
import Derived.Deep.RegionHeld3
set_option linter.unusedVariables false
set_option linter.unusedSimpArgs false
set_option maxHeartbeats 2000000
set_option maxRecDepth 20000
namespace Go.Proofs.YtoibekfhepnedaaGreat
open Go.RowKit
theorem c_iSamePatch (a b:GPatch) (v1:Value) (v2:Value) (v3:Value) (u1:Value) (u2:Value) (u3:Value) (w:World) (r1:T.rd w (T.sl 26 1 (a.zM.map (T.ints 2))) [v1]) (r2:T.rd w (T.sl 167 4 (a.zB.map GNode.t)) [v2]) (r3:T.rd w (T.ints 2 a.zL) [v3]) (t1:T.rd w (T.sl 26 1 (b.zM.map (T.ints 2))) [u1]) (t2:T.rd w (T.sl 167 4 (b.zB.map GNode.t)) [u2]) (t3:T.rd w (T.ints 2 b.zL) [u3]):
  Calls Tryz.prog 221 #[.agg #[.int .i64 a.zK,v1,v2,v3],.agg #[.int .i64 b.zK,u1,u2,u3]] w fun e w'=>e= .returned (.bool (decide (a=b)))∧Below w.heap.size w w':=by
 have hab:decide (a=b)=(decide (a.zK=b.zK) && (decide (a.zM=b.zM) && (decide (a.zL=b.zL) && (decide (a.zB=b.zB))))):=by
  obtain⟨x0,x1,x2,x3⟩:=a
  obtain⟨y0,y1,y2,y3⟩:=b
  rw[Bool.eq_iff_iff]
  simp only[GPatch.mk.injEq,decide_eq_true_eq,Bool.and_eq_true]
  try (constructor<;>(intro h;simp[h]))
 have R1:=hide r1;have Q1:=hide t1
 have R2:=hide r2;have Q2:=hide t2
 have R3:=hide r3;have Q3:=hide t3
 obtain⟨va1,vl1,vc1,rfl⟩:=T.yT r1
 obtain⟨ua1,ul1,uc1,rfl⟩:=T.yT t1
 obtain⟨va2,vc2,rfl,hla2,hca2,hxa2⟩:=T.yN r2
 obtain⟨ua2,uc2,rfl,hlb2,hcb2,hxb2⟩:=T.yN t2
 rw[List.length_map] at hla2 hlb2 R2 Q2 ⊢
 rw[List.length_map]
 have HXA2:=hide hxa2;have HXB2:=hide hxb2;clear hxa2 hxb2
 obtain⟨va3,vl3,vc3,rfl⟩:=T.yT r3
 obtain⟨ua3,ul3,uc3,rfl⟩:=T.yT t3
 clear r1 t1 r2 t2 r3 t3
 have HAB:=hide hab;clear hab
 have HB0:=hide (show Below w.heap.size w ((w.alloc (.cells #[.int .i64 a.zK,(.slice va1 vl1 vc1),(.slice va2 a.zB.length vc2),(.slice va3 vl3 vc3)] 108)).alloc (.cells #[.int .i64 b.zK,(.slice ua1 ul1 uc1),(.slice ua2 b.zB.length uc2),(.slice ua3 ul3 uc3)] 108)) from((Below.refl _ _).alloc (Nat.le_refl _) _).alloc (by first|(simp;done)|(simp;omega)|omega) _)
 have HKA0:=hide ((Bk.born w 108 #[.int .i64 a.zK,(.slice va1 vl1 vc1),(.slice va2 a.zB.length vc2),(.slice va3 vl3 vc3)]).alloc (.cells #[.int .i64 b.zK,(.slice ua1 ul1 uc1),(.slice ua2 b.zB.length uc2),(.slice ua3 ul3 uc3)] 108))
 have HKB0:=hide (Bk.born1' w (.cells #[.int .i64 a.zK,(.slice va1 vl1 vc1),(.slice va2 a.zB.length vc2),(.slice va3 vl3 vc3)] 108) 108 #[.int .i64 b.zK,(.slice ua1 ul1 uc1),(.slice ua2 b.zB.length uc2),(.slice ua3 ul3 uc3)])
 by_cases h0:a.zK=b.zK
 ·have e0:(a.zK != b.zK)=false:=by simp[h0]
  have H0:=hide h0;clear h0
  by_cases h1:a.zM=b.zM
  ·have c1:decide (a.zM=b.zM)=true:=by simp[h1]
   have H1:=hide h1;clear h1
   by_cases h2:a.zL=b.zL
   ·have c2:decide (a.zL=b.zL)=true:=by simp[h2]
    have H2:=hide h2;clear h2
    by_cases h3:a.zB.length=b.zB.length
    ·have e3:((a.zB.length:Int) != (b.zB.length:Int))=false:=by simp;omega
     have HL2:=hide h3;clear h3
     go_enter Tryz.func221,Tryz.ntmps221
     go_wp2_with fail
     refine(c_sameAll _ _ a.zM b.zM _ (T.yE R1.out HB0.out) (T.yE Q1.out HB0.out)).mono ?_;rintro e w1 ⟨rfl,hd⟩;rw[c1]
     have hb:Below ((w.alloc (.cells #[.int .i64 a.zK,(.slice va1 vl1 vc1),(.slice va2 a.zB.length vc2),(.slice va3 vl3 vc3)] 108)).alloc (.cells #[.int .i64 b.zK,(.slice ua1 ul1 uc1),(.slice ua2 b.zB.length uc2),(.slice ua3 ul3 uc3)] 108)).heap.size ((w.alloc (.cells #[.int .i64 a.zK,(.slice va1 vl1 vc1),(.slice va2 a.zB.length vc2),(.slice va3 vl3 vc3)] 108)).alloc (.cells #[.int .i64 b.zK,(.slice ua1 ul1 uc1),(.slice ua2 b.zB.length uc2),(.slice ua3 ul3 uc3)] 108)) w1:=by first|exact hd.to_below _|exact hd
     have HKA1:=hide (HKA0.out.below hb HKA0.out.lt);have HKB1:=hide (HKB0.out.below hb HKB0.out.lt);have HB1:=hide (yI HB0.out HB0.out.size hb);clear hb hd
     have ka1:=HKA1.out.cell;have kb1:=HKB1.out.cell
     go_wp2_with fail
     refine(c_same _ _ a.zL b.zL _ (T.yR.1 (T.yE R3.out HB1.out)) (T.yR.1 (T.yE Q3.out HB1.out))).mono ?_;rintro e w2 ⟨rfl,hd⟩;rw[c2]
     have hb:Below w1.heap.size w1 w2:=by first|exact hd.to_below _|exact hd
     have HKA2:=hide (HKA1.out.below hb HKA1.out.lt);have HKB2:=hide (HKB1.out.below hb HKB1.out.lt);have HB2:=hide (yI HB1.out HB1.out.size hb);clear hb hd
     have ka2:=HKA2.out.cell;have kb2:=HKB2.out.cell
     go_wp2
     go_loopw [40] (fun i wr=> ∃ k:Nat,k≤a.zB.length∧i= .int .i64 k∧a.zB.take k=b.zB.take k∧Below w2.heap.size w2 wr) (fun i _=>a.zB.length - (intOf i).toNat)
     case atStart=>exact⟨0,Nat.zero_le _,rfl,rfl,Below.refl _ _⟩
     case round=>
      obtain⟨k,hk,rfl,hs,hbw⟩:=hrel
      have HS:=hide hs;have HW:=hide hbw;clear hs hbw
      have HB:=hide (yI HB2.out HB2.out.size HW.out)
      have HKA:=hide (HKA2.out.below HW.out HKA2.out.lt);have HKB:=hide (HKB2.out.below HW.out HKB2.out.lt)
      have ka:=HKA.out.cell;have kb:=HKB.out.cell
      have la:w.heap.size<wr.heap.size:=HKA.out.lt
      have lb:w.heap.size+1<wr.heap.size:=HKB.out.lt
      by_cases hlt:k<a.zB.length
      ·have hlt2:k<b.zB.length:=by have:=HL2.out;omega
       obtain⟨b1,o1,cs1,hA1,hbw1,hcs1,hcell1⟩:=HXA2.out k (GNode.t a.zB[k]) (by rw[List.getElem?_map,List.getElem?_eq_getElem hlt];rfl)
       obtain⟨b2,o2,cs2,hA2,hbw2,hcs2,hcell2⟩:=HXB2.out k (GNode.t b.zB[k]) (by rw[List.getElem?_map,List.getElem?_eq_getElem hlt2];rfl)
       subst hA1 hA2
       have hg1:=List.getElem?_eq_getElem hlt
       have hg2:=List.getElem?_eq_getElem hlt2
       generalize a.zB[k]=x at *
       generalize b.zB[k]=y at *
       have HG1:=hide hg1;have HG2:=hide hg2;clear hg1 hg2
       obtain⟨p3,rfl,hR13⟩:=GNode.yN (show T.rds _ _ _ by simpa only[GNode.t,T.rd] using hcs1)
       have d10:=(HB.out.cell hbw1).trans (hcell1 0 (.int .i64 x.zD) rfl)
       have d11:=(HB.out.cell hbw1).trans (hcell1 1 (.int .i64 x.fA) rfl)
       have d12:=(HB.out.cell hbw1).trans (hcell1 2 (.int .i64 x.fB) rfl)
       have d13:=(HB.out.cell hbw1).trans (hcell1 3 (p3) rfl)
       rw[show o1+(k * 4+0)=o1+k * 4 by omega] at d10
       rw[show o1+(k * 4+1)=o1+k * 4+1 by omega] at d11
       rw[show o1+(k * 4+2)=o1+k * 4+2 by omega] at d12
       rw[show o1+(k * 4+3)=o1+k * 4+3 by omega] at d13
       have R13:=hide (T.yE hR13 HB.out);clear hR13
       clear hcs1 hcell1
       have hq1:b1<wr.heap.size:=Nat.lt_of_lt_of_le hbw1 HB.out.size
       obtain⟨pa3,pl3,pc3,rfl⟩:=T.yT R13.out
       obtain⟨q3,rfl,hR23⟩:=GNode.yN (show T.rds _ _ _ by simpa only[GNode.t,T.rd] using hcs2)
       have d20:=(HB.out.cell hbw2).trans (hcell2 0 (.int .i64 y.zD) rfl)
       have d21:=(HB.out.cell hbw2).trans (hcell2 1 (.int .i64 y.fA) rfl)
       have d22:=(HB.out.cell hbw2).trans (hcell2 2 (.int .i64 y.fB) rfl)
       have d23:=(HB.out.cell hbw2).trans (hcell2 3 (q3) rfl)
       rw[show o2+(k * 4+0)=o2+k * 4 by omega] at d20
       rw[show o2+(k * 4+1)=o2+k * 4+1 by omega] at d21
       rw[show o2+(k * 4+2)=o2+k * 4+2 by omega] at d22
       rw[show o2+(k * 4+3)=o2+k * 4+3 by omega] at d23
       have R23:=hide (T.yE hR23 HB.out);clear hR23
       clear hcs2 hcell2
       have hq2:b2<wr.heap.size:=Nat.lt_of_lt_of_le hbw2 HB.out.size
       obtain⟨qa3,ql3,qc3,rfl⟩:=T.yT R23.out
       have hW:=HW.out
       have hB:=HB.out
       by_cases he:x=y
       ·have hde:decide (x=y)=true:=decide_eq_true he
        have HE:=hide he;clear he
        go_wp2
        go_region_held3 (fun w'=>w'.cell? ⟨wr.heap.size,0,none⟩=some (.int .i64 x.zD)∧w'.cell? ⟨wr.heap.size,1,none⟩=some (.int .i64 x.fA)∧w'.cell? ⟨wr.heap.size,2,none⟩=some (.int .i64 x.fB)∧w'.cell? ⟨wr.heap.size,3,none⟩=some ((.slice pa3 pl3 pc3))∧w'.cell? ⟨w.heap.size+1,2,none⟩=some (.slice (some ⟨b2,o2,none⟩) b.zB.length uc2)∧w'.cell? ⟨b2,o2+k * 4,none⟩=some (.int .i64 y.zD)∧w'.cell? ⟨b2,o2+k * 4+1,none⟩=some (.int .i64 y.fA)∧w'.cell? ⟨b2,o2+k * 4+2,none⟩=some (.int .i64 y.fB)∧w'.cell? ⟨b2,o2+k * 4+3,none⟩=some ((.slice qa3 ql3 qc3))) (first|go_keep|(refine⟨(hb3.cell ?_).trans ?_,(hb3.cell ?_).trans ?_,(hb3.cell ?_).trans ?_,(hb3.cell ?_).trans ?_,(hb3.cell ?_).trans ?_,(hb3.cell ?_).trans ?_,(hb3.cell ?_).trans ?_,(hb3.cell ?_).trans ?_,(hb3.cell ?_).trans ?_⟩<;>first|assumption|(simp[*];done)|(simp;omega))) (first|(go_at_call 259;refine(c_iSameNode x y _ _ _ (T.yE R13.out (by repeat(first|with_reducible exact Below.refl _ _|with_reducible refine Below.alloc ?_ (Nat.le_refl _) _|with_reducible refine Below.drew ?_|with_reducible refine below_drewN ?_ _))) (T.yE R23.out (by repeat(first|with_reducible exact Below.refl _ _|with_reducible refine Below.alloc ?_ (Nat.le_refl _) _|with_reducible refine Below.drew ?_|with_reducible refine below_drewN ?_ _)))).mono ?_;rintro e w3 ⟨rfl,hb3⟩;rw[hde]))
        have hb4:Below wr.heap.size wr w3:=by first|exact yL hb3|exact yL (undrew hb3)|exact yL (undrewN hb3)|exact hb3|exact undrew hb3|exact undrewN hb3
        have HC:=hide (yI HW.out HW.out.size hb4);have HC2:=hide (yI HB.out HB.out.size hb4);clear hb4 hb3
        go_wp2
        go_roundw
        case rel=>exact⟨k+1,by omega,by go_num,takes_succ HS.out HG1.out (by rw[HE.out];exact HG2.out),(by first|exact HC.out|exact HC.out.drew|exact below_drewN HC.out _)⟩
        case measure=>simp[intOf];omega
       ·have hde:decide (x=y)=false:=decide_eq_false he
        have HE:=hide he;clear he
        go_wp2
        go_region_held3 (fun w'=>w'.cell? ⟨wr.heap.size,0,none⟩=some (.int .i64 x.zD)∧w'.cell? ⟨wr.heap.size,1,none⟩=some (.int .i64 x.fA)∧w'.cell? ⟨wr.heap.size,2,none⟩=some (.int .i64 x.fB)∧w'.cell? ⟨wr.heap.size,3,none⟩=some ((.slice pa3 pl3 pc3))∧w'.cell? ⟨w.heap.size+1,2,none⟩=some (.slice (some ⟨b2,o2,none⟩) b.zB.length uc2)∧w'.cell? ⟨b2,o2+k * 4,none⟩=some (.int .i64 y.zD)∧w'.cell? ⟨b2,o2+k * 4+1,none⟩=some (.int .i64 y.fA)∧w'.cell? ⟨b2,o2+k * 4+2,none⟩=some (.int .i64 y.fB)∧w'.cell? ⟨b2,o2+k * 4+3,none⟩=some ((.slice qa3 ql3 qc3))) (first|go_keep|(refine⟨(hb3.cell ?_).trans ?_,(hb3.cell ?_).trans ?_,(hb3.cell ?_).trans ?_,(hb3.cell ?_).trans ?_,(hb3.cell ?_).trans ?_,(hb3.cell ?_).trans ?_,(hb3.cell ?_).trans ?_,(hb3.cell ?_).trans ?_,(hb3.cell ?_).trans ?_⟩<;>first|assumption|(simp[*];done)|(simp;omega))) (first|(go_at_call 259;refine(c_iSameNode x y _ _ _ (T.yE R13.out (by repeat(first|with_reducible exact Below.refl _ _|with_reducible refine Below.alloc ?_ (Nat.le_refl _) _|with_reducible refine Below.drew ?_|with_reducible refine below_drewN ?_ _))) (T.yE R23.out (by repeat(first|with_reducible exact Below.refl _ _|with_reducible refine Below.alloc ?_ (Nat.le_refl _) _|with_reducible refine Below.drew ?_|with_reducible refine below_drewN ?_ _)))).mono ?_;rintro e w3 ⟨rfl,hb3⟩;rw[hde]))
        have hb4:Below wr.heap.size wr w3:=by first|exact yL hb3|exact yL (undrew hb3)|exact yL (undrewN hb3)|exact hb3|exact undrew hb3|exact undrewN hb3
        have HC:=hide (yI HW.out HW.out.size hb4);have HC2:=hide (yI HB.out HB.out.size hb4);clear hb4 hb3
        go_wp2
        go_ret
        have hne:=ne_at HG1.out HG2.out HE.out
        exact⟨yH (by rw[HAB.out];simp[H0.out,H1.out,H2.out,hne]),(by first|exact HC2.out|exact HC2.out.drew|exact below_drewN HC2.out _)⟩
      ·have hall:=eq_of_takes (k:=k) (by omega) HL2.out HS.out
       have HALL2:=hide hall;clear hall
       go_wp2
       go_ret
       exact⟨yH (by rw[HAB.out];simp[H0.out,H1.out,H2.out,HALL2.out]),HB.out⟩
    ·have e3:((a.zB.length:Int) != (b.zB.length:Int))=true:=by simp;omega
     have H3:=hide (show ¬ a.zB=b.zB from fun e=>h3 (by rw[e]));clear h3
     go_enter Tryz.func221,Tryz.ntmps221
     go_wp2_with fail
     refine(c_sameAll _ _ a.zM b.zM _ (T.yE R1.out HB0.out) (T.yE Q1.out HB0.out)).mono ?_;rintro e w1 ⟨rfl,hd⟩;rw[c1]
     have hb:Below ((w.alloc (.cells #[.int .i64 a.zK,(.slice va1 vl1 vc1),(.slice va2 a.zB.length vc2),(.slice va3 vl3 vc3)] 108)).alloc (.cells #[.int .i64 b.zK,(.slice ua1 ul1 uc1),(.slice ua2 b.zB.length uc2),(.slice ua3 ul3 uc3)] 108)).heap.size ((w.alloc (.cells #[.int .i64 a.zK,(.slice va1 vl1 vc1),(.slice va2 a.zB.length vc2),(.slice va3 vl3 vc3)] 108)).alloc (.cells #[.int .i64 b.zK,(.slice ua1 ul1 uc1),(.slice ua2 b.zB.length uc2),(.slice ua3 ul3 uc3)] 108)) w1:=by first|exact hd.to_below _|exact hd
     have HKA1:=hide (HKA0.out.below hb HKA0.out.lt);have HKB1:=hide (HKB0.out.below hb HKB0.out.lt);have HB1:=hide (yI HB0.out HB0.out.size hb);clear hb hd
     have ka1:=HKA1.out.cell;have kb1:=HKB1.out.cell
     go_wp2_with fail
     refine(c_same _ _ a.zL b.zL _ (T.yR.1 (T.yE R3.out HB1.out)) (T.yR.1 (T.yE Q3.out HB1.out))).mono ?_;rintro e w2 ⟨rfl,hd⟩;rw[c2]
     have hb:Below w1.heap.size w1 w2:=by first|exact hd.to_below _|exact hd
     have HKA2:=hide (HKA1.out.below hb HKA1.out.lt);have HKB2:=hide (HKB1.out.below hb HKB1.out.lt);have HB2:=hide (yI HB1.out HB1.out.size hb);clear hb hd
     have ka2:=HKA2.out.cell;have kb2:=HKB2.out.cell
     go_wp2
     go_ret
     exact⟨yH (by rw[HAB.out];simp[H0.out,H1.out,H2.out,H3.out]),HB2.out⟩
   ·have c2:decide (a.zL=b.zL)=false:=by simp[h2]
    have H2:=hide h2;clear h2
    go_enter Tryz.func221,Tryz.ntmps221
    go_wp2_with fail
    refine(c_sameAll _ _ a.zM b.zM _ (T.yE R1.out HB0.out) (T.yE Q1.out HB0.out)).mono ?_;rintro e w1 ⟨rfl,hd⟩;rw[c1]
    have hb:Below ((w.alloc (.cells #[.int .i64 a.zK,(.slice va1 vl1 vc1),(.slice va2 a.zB.length vc2),(.slice va3 vl3 vc3)] 108)).alloc (.cells #[.int .i64 b.zK,(.slice ua1 ul1 uc1),(.slice ua2 b.zB.length uc2),(.slice ua3 ul3 uc3)] 108)).heap.size ((w.alloc (.cells #[.int .i64 a.zK,(.slice va1 vl1 vc1),(.slice va2 a.zB.length vc2),(.slice va3 vl3 vc3)] 108)).alloc (.cells #[.int .i64 b.zK,(.slice ua1 ul1 uc1),(.slice ua2 b.zB.length uc2),(.slice ua3 ul3 uc3)] 108)) w1:=by first|exact hd.to_below _|exact hd
    have HKA1:=hide (HKA0.out.below hb HKA0.out.lt);have HKB1:=hide (HKB0.out.below hb HKB0.out.lt);have HB1:=hide (yI HB0.out HB0.out.size hb);clear hb hd
    have ka1:=HKA1.out.cell;have kb1:=HKB1.out.cell
    go_wp2_with fail
    refine(c_same _ _ a.zL b.zL _ (T.yR.1 (T.yE R3.out HB1.out)) (T.yR.1 (T.yE Q3.out HB1.out))).mono ?_;rintro e w2 ⟨rfl,hd⟩;rw[c2]
    have hb:Below w1.heap.size w1 w2:=by first|exact hd.to_below _|exact hd
    have HKA2:=hide (HKA1.out.below hb HKA1.out.lt);have HKB2:=hide (HKB1.out.below hb HKB1.out.lt);have HB2:=hide (yI HB1.out HB1.out.size hb);clear hb hd
    have ka2:=HKA2.out.cell;have kb2:=HKB2.out.cell
    go_wp2
    go_ret
    exact⟨yH (by rw[HAB.out];simp[H0.out,H1.out,H2.out]),HB2.out⟩
  ·have c1:decide (a.zM=b.zM)=false:=by simp[h1]
   have H1:=hide h1;clear h1
   go_enter Tryz.func221,Tryz.ntmps221
   go_wp2_with fail
   refine(c_sameAll _ _ a.zM b.zM _ (T.yE R1.out HB0.out) (T.yE Q1.out HB0.out)).mono ?_;rintro e w1 ⟨rfl,hd⟩;rw[c1]
   have hb:Below ((w.alloc (.cells #[.int .i64 a.zK,(.slice va1 vl1 vc1),(.slice va2 a.zB.length vc2),(.slice va3 vl3 vc3)] 108)).alloc (.cells #[.int .i64 b.zK,(.slice ua1 ul1 uc1),(.slice ua2 b.zB.length uc2),(.slice ua3 ul3 uc3)] 108)).heap.size ((w.alloc (.cells #[.int .i64 a.zK,(.slice va1 vl1 vc1),(.slice va2 a.zB.length vc2),(.slice va3 vl3 vc3)] 108)).alloc (.cells #[.int .i64 b.zK,(.slice ua1 ul1 uc1),(.slice ua2 b.zB.length uc2),(.slice ua3 ul3 uc3)] 108)) w1:=by first|exact hd.to_below _|exact hd
   have HKA1:=hide (HKA0.out.below hb HKA0.out.lt);have HKB1:=hide (HKB0.out.below hb HKB0.out.lt);have HB1:=hide (yI HB0.out HB0.out.size hb);clear hb hd
   have ka1:=HKA1.out.cell;have kb1:=HKB1.out.cell
   go_wp2
   go_ret
   exact⟨yH (by rw[HAB.out];simp[H0.out,H1.out]),HB1.out⟩
 ·have e0:(a.zK != b.zK)=true:=by simp[h0]
  have H0:=hide h0;clear h0
  go_enter Tryz.func221,Tryz.ntmps221
  go_wp2
  go_ret
  exact⟨yH (by rw[HAB.out];simp[H0.out]),HB0.out⟩
end Go.Proofs.YtoibekfhepnedaaGreat
