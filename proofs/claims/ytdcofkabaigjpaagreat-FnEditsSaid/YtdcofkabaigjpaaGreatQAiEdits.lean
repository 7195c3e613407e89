/- Contracts: which nested data are the same, by the program. Contracts: the order of a patch's nodes, by the reference; valid patches. Contracts: valid sessions, both sides. -/
import Derived.Test.YtdcofkabaigjpaaGreatQAhEdits
set_option linter.unusedVariables false
set_option linter.unusedSimpArgs false
set_option maxHeartbeats 2000000
set_option maxRecDepth 20000
namespace Go.Proofs.YtdcofkabaigjpaaGreat
section
open Go.RowKit
theorem c_iSamePatch (a b:xQ) (v1:Value) (v2:Value) (v3:Value) (u1:Value) (u2:Value) (u3:Value) (w:World) (r1:T.rd w (T.sl 26 1 (a.zY.map (T.ints 2))) [v1]) (r2:T.rd w (T.sl 120 4 (a.zF.map xR.t)) [v2]) (r3:T.rd w (T.ints 2 a.zX) [v3]) (t1:T.rd w (T.sl 26 1 (b.zY.map (T.ints 2))) [u1]) (t2:T.rd w (T.sl 120 4 (b.zF.map xR.t)) [u2]) (t3:T.rd w (T.ints 2 b.zX) [u3]):
  Calls Tryz.prog 124 #[.agg #[.int .i64 a.zU,v1,v2,v3],.agg #[.int .i64 b.zU,u1,u2,u3]] w fun e w'=>e= .returned (.bool (decide (a=b)))∧Below w.heap.size w w':=by
 have hab:decide (a=b)=(decide (a.zU=b.zU) && (decide (a.zY=b.zY) && (decide (a.zX=b.zX) && (decide (a.zF=b.zF))))):=by
  obtain⟨x0,x1,x2,x3⟩:=a;obtain⟨y0,y1,y2,y3⟩:=b;rw[Bool.eq_iff_iff];simp only[xQ.mk.injEq,decide_eq_true_eq,Bool.and_eq_true]
  try (constructor<;>(intro h;simp[h]))
 have R1:=xN r1;have Q1:=xN t1;have R2:=xN r2;have Q2:=xN t2;have R3:=xN r3;have Q3:=xN t3;obtain⟨va1,vl1,vc1,rfl⟩:=T.xD r1;obtain⟨ua1,ul1,uc1,rfl⟩:=T.xD t1;obtain⟨va2,vc2,rfl,hla2,hca2,hxa2⟩:=T.yT r2;obtain⟨ua2,uc2,rfl,hlb2,hcb2,hxb2⟩:=T.yT t2;rw[List.length_map] at hla2 hlb2 R2 Q2 ⊢;rw[List.length_map];have HXA2:=xN hxa2;have HXB2:=xN hxb2;clear hxa2 hxb2;obtain⟨va3,vl3,vc3,rfl⟩:=T.xD r3;obtain⟨ua3,ul3,uc3,rfl⟩:=T.xD t3;clear r1 t1 r2 t2 r3 t3;have HAB:=xN hab;clear hab;have HB0:=xN (show Below w.heap.size w ((w.alloc (.cells #[.int .i64 a.zU,(.slice va1 vl1 vc1),(.slice va2 a.zF.length vc2),(.slice va3 vl3 vc3)] 81)).alloc (.cells #[.int .i64 b.zU,(.slice ua1 ul1 uc1),(.slice ua2 b.zF.length uc2),(.slice ua3 ul3 uc3)] 81)) from(zR.alloc zJ _).alloc zQ _);have HKA0:=xN ((Bk.born w 81 #[.int .i64 a.zU,(.slice va1 vl1 vc1),(.slice va2 a.zF.length vc2),(.slice va3 vl3 vc3)]).alloc (.cells #[.int .i64 b.zU,(.slice ua1 ul1 uc1),(.slice ua2 b.zF.length uc2),(.slice ua3 ul3 uc3)] 81));have HKB0:=xN (Bk.born1' w (.cells #[.int .i64 a.zU,(.slice va1 vl1 vc1),(.slice va2 a.zF.length vc2),(.slice va3 vl3 vc3)] 81) 81 #[.int .i64 b.zU,(.slice ua1 ul1 uc1),(.slice ua2 b.zF.length uc2),(.slice ua3 ul3 uc3)]);by_cases h0:a.zU=b.zU
 ·have e0:(a.zU != b.zU)=false:=by simp[h0]
  have H0:=xN h0;clear h0;by_cases h1:a.zY=b.zY
  ·have c1:decide (a.zY=b.zY)=true:=by simp[h1]
   have H1:=xN h1;clear h1;by_cases h2:a.zX=b.zX
   ·have c2:decide (a.zX=b.zX)=true:=by simp[h2]
    have H2:=xN h2;clear h2;by_cases h3:a.zF.length=b.zF.length
    ·have e3:((a.zF.length:Int) != (b.zF.length:Int))=false:=by simp;omega
     have HL2:=xN h3;clear h3
     go_enter Tryz.func124,Tryz.ntmps124
     go_wp2_with fail
     refine(zSy _ _ a.zY b.zY _ (T.yJ R1.o HB0.o) (T.yJ Q1.o HB0.o)).mono ?_;rintro e w1 ⟨rfl,hd⟩;rw[c1];have hb:Below ((w.alloc (.cells #[.int .i64 a.zU,(.slice va1 vl1 vc1),(.slice va2 a.zF.length vc2),(.slice va3 vl3 vc3)] 81)).alloc (.cells #[.int .i64 b.zU,(.slice ua1 ul1 uc1),(.slice ua2 b.zF.length uc2),(.slice ua3 ul3 uc3)] 81)).heap.size ((w.alloc (.cells #[.int .i64 a.zU,(.slice va1 vl1 vc1),(.slice va2 a.zF.length vc2),(.slice va3 vl3 vc3)] 81)).alloc (.cells #[.int .i64 b.zU,(.slice ua1 ul1 uc1),(.slice ua2 b.zF.length uc2),(.slice ua3 ul3 uc3)] 81)) w1:=by first|exact hd.to_below _|exact hd
     have HKA1:=xN (HKA0.o.below hb HKA0.o.lt);have HKB1:=xN (HKB0.o.below hb HKB0.o.lt);have HB1:=xN (yO HB0.o HB0.o.size hb);clear hb hd;have ka1:=HKA1.o.cell;have kb1:=HKB1.o.cell;go_wp2_with fail
     refine(c_same _ _ a.zX b.zX _ (T.xB.1 (T.yJ R3.o HB1.o)) (T.xB.1 (T.yJ Q3.o HB1.o))).mono ?_;rintro e w2 ⟨rfl,hd⟩;rw[c2];have hb:Below w1.heap.size w1 w2:=by first|exact hd.to_below _|exact hd
     have HKA2:=xN (HKA1.o.below hb HKA1.o.lt);have HKB2:=xN (HKB1.o.below hb HKB1.o.lt);have HB2:=xN (yO HB1.o HB1.o.size hb);clear hb hd;have ka2:=HKA2.o.cell;have kb2:=HKB2.o.cell;go_wp2
     go_loopw [40] (fun i wr=> ∃ k:Nat,k≤a.zF.length∧i= .int .i64 k∧a.zF.take k=b.zF.take k∧Below w2.heap.size w2 wr) (fun i _=>a.zF.length - (intOf i).toNat)
     case atStart=>exact⟨0,Nat.zero_le _,rfl,rfl,zR⟩
     case round=>
      obtain⟨k,hk,rfl,hs,hbw⟩:=hrel;have HS:=xN hs;have HW:=xN hbw;clear hs hbw;have HB:=xN (yO HB2.o HB2.o.size HW.o);have HKA:=xN (HKA2.o.below HW.o HKA2.o.lt);have HKB:=xN (HKB2.o.below HW.o HKB2.o.lt);have ka:=HKA.o.cell;have kb:=HKB.o.cell;have la:w.heap.size<wr.heap.size:=HKA.o.lt;have lb:w.heap.size+1<wr.heap.size:=HKB.o.lt;by_cases hlt:k<a.zF.length
      ·have hlt2:k<b.zF.length:=by have:=HL2.o;omega
       obtain⟨b1,o1,cs1,hA1,hbw1,hcs1,hcell1⟩:=HXA2.o k (xR.t a.zF[k]) (by rw[List.getElem?_map,gE hlt];rfl);obtain⟨b2,o2,cs2,hA2,hbw2,hcs2,hcell2⟩:=HXB2.o k (xR.t b.zF[k]) (by rw[List.getElem?_map,gE hlt2];rfl);subst hA1 hA2;have hg1:=gE hlt;have hg2:=gE hlt2;generalize a.zF[k]=x at *;generalize b.zF[k]=y at *;have HG1:=xN hg1;have HG2:=xN hg2;clear hg1 hg2;obtain⟨p3,rfl,hR13⟩:=xR.yT (show T.rds _ _ _ by simpa only[xR.t,T.rd] using hcs1);obtain⟨d10,d11,d12,d13⟩:=oc4 HB.o hbw1 hcell1;have R13:=xN (T.yJ hR13 HB.o);clear hR13;clear hcs1 hcell1;have hq1:b1<wr.heap.size:=zW hbw1 HB.o.size;obtain⟨pa3,pl3,pc3,rfl⟩:=T.xD R13.o;obtain⟨q3,rfl,hR23⟩:=xR.yT (show T.rds _ _ _ by simpa only[xR.t,T.rd] using hcs2);obtain⟨d20,d21,d22,d23⟩:=oc4 HB.o hbw2 hcell2;have R23:=xN (T.yJ hR23 HB.o);clear hR23;clear hcs2 hcell2;have hq2:b2<wr.heap.size:=zW hbw2 HB.o.size;obtain⟨qa3,ql3,qc3,rfl⟩:=T.xD R23.o;have hW:=HW.o;have hB:=HB.o;by_cases he:x=y
       ·have hde:decide (x=y)=true:=decide_eq_true he
        have HE:=xN he;clear he;go_wp2
        go_region_held3 (fun w'=>w'.cell? ⟨wr.heap.size,0,none⟩=some (.int .i64 x.zD)∧w'.cell? ⟨wr.heap.size,1,none⟩=some (.int .i64 x.fA)∧w'.cell? ⟨wr.heap.size,2,none⟩=some (.int .i64 x.fB)∧w'.cell? ⟨wr.heap.size,3,none⟩=some ((.slice pa3 pl3 pc3))∧w'.cell? ⟨w.heap.size+1,2,none⟩=some (.slice (some ⟨b2,o2,none⟩) b.zF.length uc2)∧w'.cell? ⟨b2,o2+k * 4,none⟩=some (.int .i64 y.zD)∧w'.cell? ⟨b2,o2+k * 4+1,none⟩=some (.int .i64 y.fA)∧w'.cell? ⟨b2,o2+k * 4+2,none⟩=some (.int .i64 y.fB)∧w'.cell? ⟨b2,o2+k * 4+3,none⟩=some ((.slice qa3 ql3 qc3))) (first|go_keep|(refine⟨(hb3.cell ?_).trans ?_,(hb3.cell ?_).trans ?_,(hb3.cell ?_).trans ?_,(hb3.cell ?_).trans ?_,(hb3.cell ?_).trans ?_,(hb3.cell ?_).trans ?_,(hb3.cell ?_).trans ?_,(hb3.cell ?_).trans ?_,(hb3.cell ?_).trans ?_⟩<;>first|assumption|(simp[*];done)|(simp;omega))) (first|(go_at_call 151;refine(c_iSameNode x y _ _ _ (T.yJ R13.o bz) (T.yJ R23.o bz)).mono ?_;rintro e w3 ⟨rfl,hb3⟩;rw[hde]))
        have hb4:Below wr.heap.size wr w3:=by first|exact yR hb3|exact yR (undrew hb3)|exact yR (uH hb3)|exact hb3|exact undrew hb3|exact uH hb3
        have HC:=xN (yO HW.o HW.o.size hb4);have HC2:=xN (yO HB.o HB.o.size hb4);clear hb4 hb3;go_wp2
        go_roundw
        case rel=>exact⟨k+1,by omega,by go_num,uW HS.o HG1.o (by rw[HE.o];exact HG2.o),(by first|exact HC.o|exact HC.o.drew|exact below_drewN HC.o _)⟩
        case measure=>simp[intOf];omega
       ·have hde:decide (x=y)=false:=decide_eq_false he
        have HE:=xN he;clear he;go_wp2
        go_region_held3 (fun w'=>w'.cell? ⟨wr.heap.size,0,none⟩=some (.int .i64 x.zD)∧w'.cell? ⟨wr.heap.size,1,none⟩=some (.int .i64 x.fA)∧w'.cell? ⟨wr.heap.size,2,none⟩=some (.int .i64 x.fB)∧w'.cell? ⟨wr.heap.size,3,none⟩=some ((.slice pa3 pl3 pc3))∧w'.cell? ⟨w.heap.size+1,2,none⟩=some (.slice (some ⟨b2,o2,none⟩) b.zF.length uc2)∧w'.cell? ⟨b2,o2+k * 4,none⟩=some (.int .i64 y.zD)∧w'.cell? ⟨b2,o2+k * 4+1,none⟩=some (.int .i64 y.fA)∧w'.cell? ⟨b2,o2+k * 4+2,none⟩=some (.int .i64 y.fB)∧w'.cell? ⟨b2,o2+k * 4+3,none⟩=some ((.slice qa3 ql3 qc3))) (first|go_keep|(refine⟨(hb3.cell ?_).trans ?_,(hb3.cell ?_).trans ?_,(hb3.cell ?_).trans ?_,(hb3.cell ?_).trans ?_,(hb3.cell ?_).trans ?_,(hb3.cell ?_).trans ?_,(hb3.cell ?_).trans ?_,(hb3.cell ?_).trans ?_,(hb3.cell ?_).trans ?_⟩<;>first|assumption|(simp[*];done)|(simp;omega))) (first|(go_at_call 151;refine(c_iSameNode x y _ _ _ (T.yJ R13.o bz) (T.yJ R23.o bz)).mono ?_;rintro e w3 ⟨rfl,hb3⟩;rw[hde]))
        have hb4:Below wr.heap.size wr w3:=by first|exact yR hb3|exact yR (undrew hb3)|exact yR (uH hb3)|exact hb3|exact undrew hb3|exact uH hb3
        have HC:=xN (yO HW.o HW.o.size hb4);have HC2:=xN (yO HB.o HB.o.size hb4);clear hb4 hb3;go_wp2;go_ret
        have hne:=uQz HG1.o HG2.o HE.o;exact⟨yN (by rw[HAB.o];simp[H0.o,H1.o,H2.o,hne]),(by first|exact HC2.o|exact HC2.o.drew|exact below_drewN HC2.o _)⟩
      ·have hall:=uK (k:=k) zM HL2.o HS.o
       have HALL2:=xN hall;clear hall;go_wp2;go_ret
       exact⟨yN (by rw[HAB.o];simp[H0.o,H1.o,H2.o,HALL2.o]),HB.o⟩
    ·have e3:((a.zF.length:Int) != (b.zF.length:Int))=true:=by simp;omega
     have H3:=xN (show ¬ a.zF=b.zF from fun e=>h3 (by rw[e]));clear h3
     go_enter Tryz.func124,Tryz.ntmps124
     go_wp2_with fail
     refine(zSy _ _ a.zY b.zY _ (T.yJ R1.o HB0.o) (T.yJ Q1.o HB0.o)).mono ?_;rintro e w1 ⟨rfl,hd⟩;rw[c1];have hb:Below ((w.alloc (.cells #[.int .i64 a.zU,(.slice va1 vl1 vc1),(.slice va2 a.zF.length vc2),(.slice va3 vl3 vc3)] 81)).alloc (.cells #[.int .i64 b.zU,(.slice ua1 ul1 uc1),(.slice ua2 b.zF.length uc2),(.slice ua3 ul3 uc3)] 81)).heap.size ((w.alloc (.cells #[.int .i64 a.zU,(.slice va1 vl1 vc1),(.slice va2 a.zF.length vc2),(.slice va3 vl3 vc3)] 81)).alloc (.cells #[.int .i64 b.zU,(.slice ua1 ul1 uc1),(.slice ua2 b.zF.length uc2),(.slice ua3 ul3 uc3)] 81)) w1:=by first|exact hd.to_below _|exact hd
     have HKA1:=xN (HKA0.o.below hb HKA0.o.lt);have HKB1:=xN (HKB0.o.below hb HKB0.o.lt);have HB1:=xN (yO HB0.o HB0.o.size hb);clear hb hd;have ka1:=HKA1.o.cell;have kb1:=HKB1.o.cell;go_wp2_with fail
     refine(c_same _ _ a.zX b.zX _ (T.xB.1 (T.yJ R3.o HB1.o)) (T.xB.1 (T.yJ Q3.o HB1.o))).mono ?_;rintro e w2 ⟨rfl,hd⟩;rw[c2];have hb:Below w1.heap.size w1 w2:=by first|exact hd.to_below _|exact hd
     have HKA2:=xN (HKA1.o.below hb HKA1.o.lt);have HKB2:=xN (HKB1.o.below hb HKB1.o.lt);have HB2:=xN (yO HB1.o HB1.o.size hb);clear hb hd;have ka2:=HKA2.o.cell;have kb2:=HKB2.o.cell;go_wp2;go_ret
     exact⟨yN (by rw[HAB.o];simp[H0.o,H1.o,H2.o,H3.o]),HB2.o⟩
   ·have c2:decide (a.zX=b.zX)=false:=by simp[h2]
    have H2:=xN h2;clear h2
    go_enter Tryz.func124,Tryz.ntmps124
    go_wp2_with fail
    refine(zSy _ _ a.zY b.zY _ (T.yJ R1.o HB0.o) (T.yJ Q1.o HB0.o)).mono ?_;rintro e w1 ⟨rfl,hd⟩;rw[c1];have hb:Below ((w.alloc (.cells #[.int .i64 a.zU,(.slice va1 vl1 vc1),(.slice va2 a.zF.length vc2),(.slice va3 vl3 vc3)] 81)).alloc (.cells #[.int .i64 b.zU,(.slice ua1 ul1 uc1),(.slice ua2 b.zF.length uc2),(.slice ua3 ul3 uc3)] 81)).heap.size ((w.alloc (.cells #[.int .i64 a.zU,(.slice va1 vl1 vc1),(.slice va2 a.zF.length vc2),(.slice va3 vl3 vc3)] 81)).alloc (.cells #[.int .i64 b.zU,(.slice ua1 ul1 uc1),(.slice ua2 b.zF.length uc2),(.slice ua3 ul3 uc3)] 81)) w1:=by first|exact hd.to_below _|exact hd
    have HKA1:=xN (HKA0.o.below hb HKA0.o.lt);have HKB1:=xN (HKB0.o.below hb HKB0.o.lt);have HB1:=xN (yO HB0.o HB0.o.size hb);clear hb hd;have ka1:=HKA1.o.cell;have kb1:=HKB1.o.cell;go_wp2_with fail
    refine(c_same _ _ a.zX b.zX _ (T.xB.1 (T.yJ R3.o HB1.o)) (T.xB.1 (T.yJ Q3.o HB1.o))).mono ?_;rintro e w2 ⟨rfl,hd⟩;rw[c2];have hb:Below w1.heap.size w1 w2:=by first|exact hd.to_below _|exact hd
    have HKA2:=xN (HKA1.o.below hb HKA1.o.lt);have HKB2:=xN (HKB1.o.below hb HKB1.o.lt);have HB2:=xN (yO HB1.o HB1.o.size hb);clear hb hd;have ka2:=HKA2.o.cell;have kb2:=HKB2.o.cell;go_wp2;go_ret
    exact⟨yN (by rw[HAB.o];simp[H0.o,H1.o,H2.o]),HB2.o⟩
  ·have c1:decide (a.zY=b.zY)=false:=by simp[h1]
   have H1:=xN h1;clear h1
   go_enter Tryz.func124,Tryz.ntmps124
   go_wp2_with fail
   refine(zSy _ _ a.zY b.zY _ (T.yJ R1.o HB0.o) (T.yJ Q1.o HB0.o)).mono ?_;rintro e w1 ⟨rfl,hd⟩;rw[c1];have hb:Below ((w.alloc (.cells #[.int .i64 a.zU,(.slice va1 vl1 vc1),(.slice va2 a.zF.length vc2),(.slice va3 vl3 vc3)] 81)).alloc (.cells #[.int .i64 b.zU,(.slice ua1 ul1 uc1),(.slice ua2 b.zF.length uc2),(.slice ua3 ul3 uc3)] 81)).heap.size ((w.alloc (.cells #[.int .i64 a.zU,(.slice va1 vl1 vc1),(.slice va2 a.zF.length vc2),(.slice va3 vl3 vc3)] 81)).alloc (.cells #[.int .i64 b.zU,(.slice ua1 ul1 uc1),(.slice ua2 b.zF.length uc2),(.slice ua3 ul3 uc3)] 81)) w1:=by first|exact hd.to_below _|exact hd
   have HKA1:=xN (HKA0.o.below hb HKA0.o.lt);have HKB1:=xN (HKB0.o.below hb HKB0.o.lt);have HB1:=xN (yO HB0.o HB0.o.size hb);clear hb hd;have ka1:=HKA1.o.cell;have kb1:=HKB1.o.cell;go_wp2;go_ret
   exact⟨yN (by rw[HAB.o];simp[H0.o,H1.o]),HB1.o⟩
 ·have e0:(a.zU != b.zU)=true:=by simp[h0]
  have H0:=xN h0;clear h0
  go_enter Tryz.func124,Tryz.ntmps124
  go_wp2;go_ret
  exact⟨yN (by rw[HAB.o];simp[H0.o]),HB0.o⟩
end
section
open Go.RowKit
theorem c_l07Waits (x:xR) (b o:Nat) (w:World) (h:T.at w x.fs b o):Calls Tryz.prog 139 #[.pointer (some ⟨b,o,none⟩)] w fun e w'=> ∃ u,e= .returned u∧RdI w' u (zBz x)∧Below w.heap.size w w':=by
 have HAT:=xN h;obtain⟨hlt0,cs,hr,hc⟩:=h;obtain⟨v3,rfl,h3⟩:=xR.yT hr;clear hr;obtain⟨va3,vc3,rfl,vl3,vm3,R3,HX3⟩:=oI h3;clear h3;have HL:=xN hlt0;have HCC:=xN hc;have HB0:=xN (Below.refl w.heap.size w);clear hlt0 hc;obtain⟨p0,p1,p2,p3⟩:=pc4 HB0.o HL.o HCC.o;have lb:b<w.heap.size:=zW HL.o HB0.o.size
 go_enter Tryz.func139,Tryz.ntmps139
 by_cases h6:x.zD=6
 ·have h6':(x.zD == 6)=true:=xA h6;have H6:=xN h6;clear h6
  have HN:=xN (vP w).rd;have HA:=xN (show Below w.heap.size w (w.alloc (.cells #[] 2)) from zR.alloc zJ _);go_wp2;go_ret
  exact⟨_,rfl,by unfold zBz;rw[if_pos H6.o];exact HN.o,HA.o⟩
 ·have h6':(x.zD == 6)=false:=yZ h6;have H6:=xN h6;clear h6
  go_wp2;go_ret
  exact⟨_,rfl,by unfold zBz;rw[if_neg H6.o];exact R3.o,zR⟩
theorem c_l07All (v u:Value) (xs ys:List Int) (w:World) (hr:RdI w v xs) (hs:RdI w u ys):Calls Tryz.prog 138 #[v,u] w fun e w'=>e= .returned (.bool (xs.all fun f=>decide (f ∈ ys)))∧w=w':=by
 have HS1:=xN hs;obtain⟨A,cap,rfl,hl,hc,hx⟩:=hr.open_;have HX:=xN hx;clear hx hr hs
 go_enter Tryz.func138,Tryz.ntmps138
 go_wp2
 go_loop [5] (fun i=> ∃ k:Nat,k≤xs.length∧i= .int .i64 k∧vU xs (fun _ x=>decide (x ∈ ys)=true) k) (fun i=>xs.length - (intOf i).toNat)
 case atStart=>exact⟨0,Nat.zero_le _,rfl,vU.zero⟩
 case round=>
  obtain⟨k,hk,rfl,hs⟩:=hrel;have HS:=xN hs;clear hs;by_cases hlt:k<xs.length
  ·have hgk:=gE hlt
   obtain⟨b,off,rfl,hb,hcell⟩:=HX.o k xs[k] hgk;generalize xs[k]=x at *;have HG:=xN hgk;clear hgk
   cases hq:decide (x ∈ ys)
   ·have HQ:=xN hq
    go_wp2_with (go_at_call 137;refine(wHz _ ys _ _ HS1.o).mono ?_;rintro e w' ⟨rfl,rfl⟩;rw[hq])
    go_ret
    exact⟨yN (by
     symm
     rw[List.all_eq_false];exact⟨x,List.mem_of_getElem? HG.o,by rw[HQ.o];simp⟩),rfl⟩
   ·have HQ:=xN hq
    go_wp2_with (go_at_call 137;refine(wHz _ ys _ _ HS1.o).mono ?_;rintro e w' ⟨rfl,rfl⟩;rw[hq])
    go_round
    case rel=>exact⟨k+1,by omega,by go_num,HS.o.step HG.o HQ.o⟩
    case measure=>simp[intOf];omega
  ·have hall:=xN (HS.o.all zM)
   go_wp2;go_ret
   exact⟨yN (by
    symm
    rw[List.all_eq_true];exact Each.of_mem.1 hall.o),rfl⟩
theorem c_l07Order (x:xQ) (b o:Nat) (w:World) (hn:x.zF.length≤1048576) (h:T.at w x.fs b o):Calls Tryz.prog 107 #[.pointer (some ⟨b,o,none⟩)] w fun e w'=> ∃ v,e= .returned (.tuple #[v,.bool (decide ((xY x.zF).length=x.zF.length))])∧((xY x.zF).length=x.zF.length→OwI 2 w' w.heap.size v (xY x.zF))∧Below w.heap.size w w':=by
 have HAT:=xN h;obtain⟨hlt0,cs,hr,hc⟩:=h;obtain⟨v1,v2,v3,rfl,h1,h2,h3⟩:=xQ.yT hr;clear hr;obtain⟨va1,vc1,rfl,vl1,vm1,R1,HX1⟩:=oG h1;clear h1;obtain⟨va2,vc2,rfl,vl2,vm2,R2,HX2⟩:=oG h2;clear h2;obtain⟨va3,vc3,rfl,vl3,vm3,R3,HX3⟩:=oI h3;clear h3;have HL:=xN hlt0;have HCC:=xN hc;have HB0:=xN (Below.refl w.heap.size w);clear hlt0 hc;have HN0:=xN (vP w);have HA0:=xN (show Below w.heap.size w (w.alloc (.cells #[] 2)) from zR.alloc zJ _)
 go_enter Tryz.func107,Tryz.ntmps107
 go_wp2
 go_loopw [4] (fun v wr=> ∃ m:Nat,OwI 2 wr w.heap.size v (xJ x.zF m)∧(xJ x.zF m).length=m∧Below w.heap.size w wr) (fun v _=>x.zF.length - lenV v)
 case atStart=>exact⟨0,HN0.o,rfl,HA0.o⟩
 case round=>
  obtain⟨m,ho,hlen,hbw⟩:=hrel;obtain⟨A,cp,rfl,hcl,hcm,_⟩:=ho.rd.open_;rw[hlen] at ho hcl ⊢;have HO:=xN ho;have HLEN:=xN hlen;have HB:=xN hbw;clear ho hbw hlen;have hcap:=wUz (nodes:=x.zF) m;rw[HLEN.o] at hcap;obtain⟨p0,p1,p2,p3⟩:=pc4 HB.o HL.o HCC.o;have lb:b<wr.heap.size:=zW HL.o HB.o.size;by_cases hmn:m<x.zF.length
  rotate_left
  ·obtain rfl:m=x.zF.length:=by omega
   have hd:decide ((xY x.zF).length=x.zF.length)=true:=decide_eq_true HLEN.o;have HD:=xN hd;clear hd;go_wp2
   go_ret2
   exact⟨_,by rw[HD.o];rfl,fun _=>HO.o,HB.o⟩
  go_wp2;clear p0 p1 p2 p3 lb;generalize wr=wo at *
  go_loopw [5,6] (fun nx i ws=> ∃ (k:Nat) (z:Int),k≤x.zF.length∧i= .int .i64 k∧nx= .int .i64 z∧((z= -1∧ ∀ j,j<k→yNz x.zF (xJ x.zF m) j=false)∨(∃ q:Nat,z=(q:Int)∧q<x.zF.length∧yNz x.zF (xJ x.zF m) q=true∧ ∀ j,j<q→yNz x.zF (xJ x.zF m) j=false))∧Below wo.heap.size wo ws) (fun _ i _=>x.zF.length - (intOf i).toNat)
  case atStart=>exact⟨0,-1,Nat.zero_le _,rfl,rfl,.inl ⟨rfl,fun j h=>absurd h zM⟩,zR⟩
  case round=>
   obtain⟨k,z,hk,rfl,rfl,hz,hbs⟩:=hrel;have HW:=xN hbs;have HB2:=xN (yO HB.o HB.o.size hbs);have HO2:=xN (HO.o.all hbs);have hsz:=HB2.o.size;clear hbs;obtain⟨p0,p1,p2,p3⟩:=pc4 HB2.o HL.o HCC.o;have lb:b<wr.heap.size:=zW HL.o HB2.o.size
   rcases hz with ⟨rfl,hno⟩|⟨q,rfl,hq,hrd,hno⟩
   rotate_left
   ·have HNX:=xN (nextF_some hq hrd hno);clear hrd hno
    have hll:(xJ x.zF m).length+1≤17592186044416:=by rw[HLEN.o];omega
    by_cases hkn:k<x.zF.length
    all_goals
     go_wp2_with (at_builtin;refine yGz (n:=(q:Int)) rfl _ _ rfl rfl HO2.o rfl hll hsz ?_;intro v8 w8 ho8 hg8 hv8;have HO8:=xN ho8;have HG8:=xN hg8;clear ho8 hg8 hv8)
     have HB8:=xN (HB2.o.grown HG8.o hsz (fun j hj=>(HO2.o.lt j hj).1));have HSN:=xN (vLz HNX.o);have HL8:=xN (show (xJ x.zF (m+1)).length=m+1 by rw[HSN.o,List.length_append,HLEN.o];rfl);obtain⟨A8,c8,rfl,_,_,_⟩:=HO8.o.rd.open_;have HO9:=xN (show OwI 2 w8 w.heap.size (.slice A8 (m+1) c8) (xJ x.zF (m+1)) by have:=HO8.o;rw[HSN.o];simpa[HLEN.o] using this);rw[show (xJ x.zF m++ [(q:Int)]).length=m+1 by rw[←HSN.o];exact HL8.o];clear HO8;go_wp2
     go_roundw
     case rel=>exact⟨m+1,HO9.o,HL8.o,HB8.o⟩
     case measure=>show x.zF.length - (m+1)<x.zF.length - m;omega
   have HNO:=xN hno;clear hno;by_cases hlt:k<x.zF.length
   rotate_left
   ·have hnone:=xN (nextF_none (nodes:=x.zF) (out:=(xJ x.zF m)) (fun j hj=>HNO.o j zM))
    have HE:=xN (uVz hnone.o HLEN.o);have HD:=xN (show decide ((xY x.zF).length=x.zF.length)=false by rw[HE.o,HLEN.o];exact decide_eq_false zM);have HD2:=xN (show ¬ (xY x.zF).length=x.zF.length by rw[HE.o,HLEN.o];omega);go_wp2
    go_ret2
    exact⟨_,by rw[HD.o];rfl,fun h=>absurd h HD2.o,HB2.o⟩
   have hgk:=gE hlt;obtain⟨b1,off,csy,hA,hb1,hcs,hcell⟩:=HX2.o k x.zF[k] hgk;subst hA;generalize x.zF[k]=y at *;have HG:=xN hgk;clear hgk;have HAy:=xN (T.at_elem (o:=off+k * 4) hb1 (show T.rds w y.fs csy by simpa only[xR.t,T.rd] using hcs) hcell zM);clear hcs hcell;have n1:((k:Int)<(x.zF.length:Int)):=by omega
   have hq1:b1<wr.heap.size:=zW hb1 HB2.o.size;have HRDY:=xN (readyB_of (out:=(xJ x.zF m)) HG.o)
   cases a1:decide ((k:Int) ∈ (xJ x.zF m))
   rotate_left
   ·have HF:=xN (show yNz x.zF (xJ x.zF m) k=false by rw[HRDY.o,a1];rfl)
    go_wp2_with (go_at_call 137;refine(wHz _ (xJ x.zF m) _ _ HO2.o.rd).mono ?_;rintro e w' ⟨rfl,rfl⟩;rw[a1])
    go_roundw
    case rel=>exact⟨k+1,-1,by omega,by go_num,rfl,.inl ⟨rfl,fun j hj=>by
     by_cases e:j=k
     ·subst e;exact HF.o
     ·exact HNO.o j zM⟩,HW.o⟩
    case measure=>simp[intOf];omega
   rw[a1,Bool.not_false,Bool.true_and] at HRDY;go_wp2_with (go_at_call 137;refine(wHz _ (xJ x.zF m) _ _ HO2.o.rd).mono ?_;rintro e w' ⟨rfl,rfl⟩;rw[a1])
   refine(c_l07Waits y _ _ _ (T.at_below HAy.o HB2.o)).mono ?_;rintro e w4 ⟨u,rfl,hu,hb4⟩;have HU:=xN hu;have HB4:=xN (yO HB2.o HB2.o.size hb4);have HO4:=xN (HO2.o.all hb4);have HW4:=xN (yO HW.o HW.o.size hb4);clear hu hb4 a1;obtain⟨ua,uc,rfl,_,_,_⟩:=HU.o.open_
   cases a2:(zBz y).all fun f=>decide (f ∈ (xJ x.zF m))
   ·have HF:=xN (show yNz x.zF (xJ x.zF m) k=false by rw[HRDY.o,a2])
    go_wp2_with (go_at_call 138;refine(c_l07All _ _ (zBz y) (xJ x.zF m) _ HU.o HO4.o.rd).mono ?_;rintro e w' ⟨rfl,rfl⟩;rw[a2])
    go_roundw
    case rel=>exact⟨k+1,-1,by omega,by go_num,rfl,.inl ⟨rfl,fun j hj=>by
     by_cases e:j=k
     ·subst e;exact HF.o
     ·exact HNO.o j zM⟩,HW4.o⟩
    case measure=>simp[intOf];omega
   ·have HF:=xN (show yNz x.zF (xJ x.zF m) k=true by rw[HRDY.o,a2])
    go_wp2_with (go_at_call 138;refine(c_l07All _ _ (zBz y) (xJ x.zF m) _ HU.o HO4.o.rd).mono ?_;rintro e w' ⟨rfl,rfl⟩;rw[a2])
    go_roundw
    case rel=>exact⟨k+1,(k:Int),by omega,by go_num,rfl,.inr ⟨k,rfl,hlt,HF.o,HNO.o⟩,HW4.o⟩
    case measure=>simp[intOf];omega
theorem c_l07Ok (x:xQ) (b o:Nat) (w:World) (hn:x.zF.length≤1048576) (ht:x.zY.length≤1048576) (h:T.at w x.fs b o):Calls Tryz.prog 72 #[.pointer (some ⟨b,o,none⟩)] w fun e w'=>e= .returned (.bool (tf (vZ x)))∧Below w.heap.size w w':=by
 have HAT:=xN h;obtain⟨hlt0,cs,hr,hc⟩:=h;obtain⟨v1,v2,v3,rfl,h1,h2,h3⟩:=xQ.yT hr;clear hr;obtain⟨va1,vc1,rfl,vl1,vm1,R1,HX1⟩:=oG h1;clear h1;obtain⟨va2,vc2,rfl,vl2,vm2,R2,HX2⟩:=oG h2;clear h2;obtain⟨va3,vc3,rfl,vl3,vm3,R3,HX3⟩:=oI h3;clear h3;have HL:=xN hlt0;have HCC:=xN hc;have HB0:=xN (Below.refl w.heap.size w);clear hlt0 hc
 go_enter Tryz.func72,Tryz.ntmps72
 go_wp2_with fail
 refine(c_l07Formed x _ _ _ ht HAT.o).mono ?_;rintro e w1 ⟨rfl,hb1⟩;have HB1:=xN hb1;clear hb1;by_cases q1:wDz x
 rotate_left
 ·rw[xH q1];have Q1:=xN q1;clear q1
  go_wp2;go_ret
  exact⟨yN (xH fun h=>Q1.o h.formed).symm,HB1.o⟩
 rw[xI q1];have Q1:=xN q1;clear q1;go_wp2_with fail
 refine(c_l07Order x _ _ _ hn (T.at_below HAT.o HB1.o)).mono ?_;rintro e w2 ⟨v,rfl,_,hb2⟩;have HB2:=xN (yO HB1.o HB1.o.size hb2);clear hb2;go_wp2;go_ret
 exact⟨yN (by
  by_cases h:(xY x.zF).length=x.zF.length
  ·rw[xI ⟨Q1.o,h⟩];exact decide_eq_true h
  ·rw[xH fun hh=>h hh.order];exact decide_eq_false h),HB2.o⟩
def lenA:Value→Option Addr
 | .slice a _ _=>a
 |_=>none
def capA:Value→Nat
 | .slice _ _ c=>c
 |_=>0
theorem len_form {w:World} {v:Value} {xs:List Int} (h:RdI w v xs):v= .slice (lenA v) xs.length (capA v):=by
 obtain⟨A,c,rfl,_⟩:=h.open_
 rfl
theorem rd_none {α:Type} (w:World) (E:TypeId) (sz:Nat) (tr:α→T):T.rd w (T.sl E sz (([]:List α).map tr)) [.slice none 0 0]:=by
 simp only[T.rd,List.map_nil];exact⟨_,[],rfl,by simp,Rd.nil_ w sz,by simp[T.rds]⟩
theorem c_isPatch (x:xQ) (cs:List Value) (w:World) (hn:x.zF.length≤1048576) (h:T.rds w x.fs cs):Calls Tryz.prog 92 #[.agg cs.toArray] w fun e w'=>e= .returned (.bool (tf (vZ x)))∧Below w.heap.size w w':=by
 obtain⟨v1,v2,v3,rfl,h1,h2,h3⟩:=xQ.yT h;clear h;obtain⟨va1,vc1,rfl,vl1,vm1,R1,HX1⟩:=oG h1;clear h1;obtain⟨va2,vc2,rfl,vl2,vm2,R2,HX2⟩:=oG h2;clear h2;obtain⟨va3,vc3,rfl,vl3,vm3,R3,HX3⟩:=oI h3;clear h3;obtain⟨HB0,HK0⟩:=aK w 81 #[.int .i64 x.zU,(.slice va1 x.zY.length vc1),(.slice va2 x.zF.length vc2),(.slice va3 x.zX.length vc3)]
 go_enter Tryz.func92,Tryz.ntmps92
 go_wp2;generalize (w.alloc (.cells #[.int .i64 x.zU,(.slice va1 x.zY.length vc1),(.slice va2 x.zF.length vc2),(.slice va3 x.zX.length vc3)] 81))=W at *;have g0:=xM HK0.o;have HRW:=xN (fun u=>xQ.rd_mk (T.yJ R1.o (yO HB0.o HB0.o.size (yM W u))) (T.yJ R2.o (yO HB0.o HB0.o.size (yM W u))) (T.xB.2 (Rd.below R3.o (yO HB0.o HB0.o.size (yM W u)))));by_cases q1:wDz x
 rotate_left
 ·have a1:=xH q1;have Q1:=xN q1;clear q1
  refine rB ?_
  repeat(first|go_big_quiet_skip|(go_big_quiet_want;go_big_quiet_op;first|go_big_quiet_on|(apply Exists.intro;refine⟨fun _=>?_,?_⟩;(· (go_at_call 125;exact Calls.yQ ((uYz x _ _ (HRW.o _)).mono (fun e w' h=>by(first|rw[a1] at h|skip);exact h))));go_big_quiet_on)))
  refine wpQuiet_nil ?_;rintro w9 ⟨uu,rfl⟩;have hb9:=yM W uu;generalize bel W uu=w9 at *;have HB9:=xN (yO HB0.o HB0.o.size hb9);go_wp2;go_ret
  exact⟨yN (xH fun h=>Q1.o h.formed).symm,HB9.o⟩
 have a1:=xI q1;have Q1:=xN q1;clear q1;have ka:=HK0.o.cell;have lW:=HK0.o.lt;have HWF:=xN (show Each x.zF fun _ y=>Idx y.zO (x.zF.length:Int) from fun i y hy=>(Q1.o.nodes i y hy).2.1)
 go_region_held3 (fun w'=>w'.cell? ⟨w.heap.size,0,none⟩=some (.int .i64 x.zU)∧w'.cell? ⟨w.heap.size,1,none⟩=some (.slice va1 x.zY.length vc1)∧w'.cell? ⟨w.heap.size,2,none⟩=some (.slice va2 x.zF.length vc2)∧w'.cell? ⟨w.heap.size,3,none⟩=some (.slice va3 x.zX.length vc3)) (first|go_keep|(refine⟨(hb4.cell ?_).trans ?_,(hb4.cell ?_).trans ?_,(hb4.cell ?_).trans ?_,(hb4.cell ?_).trans ?_⟩<;>first|assumption|(simp[*];done)|(simp;omega)|omega)|(refine⟨(hb3.cell ?_).trans ?_,(hb3.cell ?_).trans ?_,(hb3.cell ?_).trans ?_,(hb3.cell ?_).trans ?_⟩<;>first|assumption|(simp[*];done)|(simp;omega)|omega)) (first|(go_at_call 125;refine(uYz x _ _ (xQ.rd_mk (T.yJ R1.o (by first|exact HB0.o|exact HB0.o.drew|exact below_drewN HB0.o _)) (T.yJ R2.o (by first|exact HB0.o|exact HB0.o.drew|exact below_drewN HB0.o _)) (T.xB.2 (Rd.below R3.o (by first|exact HB0.o|exact HB0.o.drew|exact below_drewN HB0.o _))))).mono ?_;rintro e w3 ⟨rfl,hb3⟩;rw[a1];have hl3:=zW HK0.o.lt hb3.size;have H3:=xN (yO HB0.o HB0.o.size (by first|exact hb3|exact undrew hb3|exact uH hb3)))|(go_at_call 126;refine(c_order x _ _ hn HWF.o (xQ.rd_mk (T.yJ R1.o (by first|exact H3.o|exact H3.o.drew|exact below_drewN H3.o _)) (T.yJ R2.o (by first|exact H3.o|exact H3.o.drew|exact below_drewN H3.o _)) (T.xB.2 (Rd.below R3.o (by first|exact H3.o|exact H3.o.drew|exact below_drewN H3.o _))))).mono ?_;rintro e w4 ⟨v4,rfl,hv4,hb4⟩;have H4:=xN (yO H3.o H3.o.size (by first|exact hb4|exact undrew hb4|exact uH hb4));have HV:=xN (show v4= .slice (lenA v4) (xY x.zF).length (capA v4) from len_form hv4.rd);rw[HV.o]))
 go_wp2;go_ret
 exact⟨yN (by
  by_cases h:(xY x.zF).length=x.zF.length
  ·rw[xI ⟨Q1.o,h⟩];exact xA zM
  ·rw[xH fun hh=>h hh.order];exact yZ zM),H4.o⟩
theorem c_isEmpty (x:xQ) (cs:List Value) (w:World) (h:T.rds w x.fs cs):Calls Tryz.prog 91 #[.agg cs.toArray] w fun e w'=>e= .returned (.bool (tf (x=uO)))∧Below w.heap.size w w':=by
 obtain⟨v1,v2,v3,rfl,h1,h2,h3⟩:=xQ.yT h;clear h;obtain⟨va1,vc1,rfl,vl1,vm1,R1,HX1⟩:=oG h1;clear h1;obtain⟨va2,vc2,rfl,vl2,vm2,R2,HX2⟩:=oG h2;clear h2;obtain⟨va3,vc3,rfl,vl3,vm3,R3,HX3⟩:=oI h3;clear h3;obtain⟨HB0,HK0⟩:=aK w 81 #[.int .i64 x.zU,(.slice va1 x.zY.length vc1),(.slice va2 x.zF.length vc2),(.slice va3 x.zX.length vc3)]
 go_enter Tryz.func91,Tryz.ntmps91
 go_wp2_with fail
 refine(c_iSamePatch x uO _ _ _ (.slice none 0 0) (.slice none 0 0) (.slice none 0 0) _ (T.yJ R1.o HB0.o) (T.yJ R2.o HB0.o) (T.xB.2 (Rd.below R3.o HB0.o)) ?_ ?_ ?_).mono ?_
 ·exact rd_none _ _ _ _
 ·exact rd_none _ _ _ _
 ·exact T.xB.2 (Rd.nil_ _ _)
 rintro e w1 ⟨rfl,hb1⟩;have H1:=xN (yO HB0.o HB0.o.size hb1);clear hb1;go_wp2;go_ret
 exact⟨yN uZ.symm,H1.o⟩
theorem c_isEffect (x:xQ) (cs:List Value) (w:World) (hn:x.zF.length≤1048576) (h:T.rds w x.fs cs):Calls Tryz.prog 55 #[.agg cs.toArray] w fun e w'=>e= .returned (.bool (tf (wEz x)))∧Below w.heap.size w w':=by
 obtain⟨v1,v2,v3,rfl,h1,h2,h3⟩:=xQ.yT h;clear h;obtain⟨va1,vc1,rfl,vl1,vm1,R1,HX1⟩:=oG h1;clear h1;obtain⟨va2,vc2,rfl,vl2,vm2,R2,HX2⟩:=oG h2;clear h2;obtain⟨va3,vc3,rfl,vl3,vm3,R3,HX3⟩:=oI h3;clear h3;obtain⟨HB0,HK0⟩:=aK w 81 #[.int .i64 x.zU,(.slice va1 x.zY.length vc1),(.slice va2 x.zF.length vc2),(.slice va3 x.zX.length vc3)]
 go_enter Tryz.func55,Tryz.ntmps55
 go_wp2_with fail
 refine(c_isEmpty x _ _ (xQ.rd_mk (T.yJ R1.o HB0.o) (T.yJ R2.o HB0.o) (T.xB.2 (Rd.below R3.o HB0.o)))).mono ?_;rintro e w1 ⟨rfl,hd⟩;have hb:Below (w.alloc (.cells #[.int .i64 x.zU,(.slice va1 x.zY.length vc1),(.slice va2 x.zF.length vc2),(.slice va3 x.zX.length vc3)] 81)).heap.size (w.alloc (.cells #[.int .i64 x.zU,(.slice va1 x.zY.length vc1),(.slice va2 x.zF.length vc2),(.slice va3 x.zX.length vc3)] 81)) w1:=by first|exact hd|exact hd.to_below _|exact hd ▸ zR
 have HK1:=xN (HK0.o.below hb HK0.o.lt);have HB1:=xN (yO HB0.o HB0.o.size hb);clear hb hd;have ka:=HK1.o.cell;have la:=HK1.o.lt;by_cases q1:x=uO
 ·rw[xI q1];have Q1:=xN q1;clear q1
  go_wp2;go_ret
  exact⟨yN (xI (.inl Q1.o)).symm,HB1.o⟩
 rw[xH q1];have Q1:=xN q1;clear q1;go_wp2_with fail
 refine(c_isPatch x _ _ hn (xQ.rd_mk (T.yJ R1.o HB1.o) (T.yJ R2.o HB1.o) (T.xB.2 (Rd.below R3.o HB1.o)))).mono ?_;rintro e w2 ⟨rfl,hd⟩;have hb:Below w1.heap.size w1 w2:=by first|exact hd|exact hd.to_below _|exact hd ▸ zR
 have HK2:=xN (HK1.o.below hb HK1.o.lt);have HB2:=xN (yO HB1.o HB1.o.size hb);clear hb hd ka la;have ka:=HK2.o.cell;have la:=HK2.o.lt;by_cases q2:vZ x
 rotate_left
 ·rw[xH q2];have Q2:=xN q2;clear q2
  go_wp2;go_ret
  exact⟨yN (xH fun h=>h.elim Q1.o fun h=>Q2.o h.1).symm,HB2.o⟩
 rw[xI q2];have Q2:=xN q2;clear q2;by_cases q3:x.zU=1
 rotate_left
 ·have b3:(x.zU == 1)=false:=yZ q3;have Q3:=xN q3;clear q3
  go_wp2;go_ret
  exact⟨yN (xH fun h=>h.elim Q1.o fun h=>Q3.o h.2.1).symm,HB2.o⟩
 have b3:(x.zU == 1)=true:=xA q3;have Q3:=xN q3;clear q3;by_cases q4:x.zX.length=1
 rotate_left
 ·have b4:((x.zX.length:Int) == 1)=false:=yZ zM;have Q4:=xN q4;clear q4
  go_wp2;go_ret
  exact⟨yN (xH fun h=>h.elim Q1.o fun h=>Q4.o h.2.2).symm,HB2.o⟩
 have b4:((x.zX.length:Int) == 1)=true:=xA zM;have Q4:=xN q4;clear q4;go_wp2;go_ret
 exact⟨yN (xI (.inr ⟨Q2.o,Q3.o,Q4.o⟩)).symm,HB2.o⟩
end
section
open Go.RowKit
theorem c_isSession (x:xO) (cs:List Value) (w:World) (hs:x.small) (h:T.rds w x.fs cs):Calls Tryz.prog 23 #[.agg cs.toArray] w fun e w'=>e= .returned (.bool (tf (xW x)))∧Below w.heap.size w w':=by
 obtain⟨v1,v2,v3,v4,v5,rfl,h1,h2,h3,h4,h5⟩:=xO.yT h;clear h;obtain⟨va1,vc1,rfl,vl1,vm1,R1,HX1⟩:=oG h1;clear h1;obtain⟨va2,vc2,rfl,vl2,vm2,R2,HX2⟩:=oG h2;clear h2;obtain⟨va3,vc3,rfl,vl3,vm3,R3,HX3⟩:=oI h3;clear h3;obtain⟨va4,vc4,rfl,vl4,vm4,R4,HX4⟩:=oG h4;clear h4;obtain⟨va5,vc5,rfl,vl5,vm5,R5,HX5⟩:=oG h5;clear h5;obtain⟨HB0,HK0⟩:=aK w 32 #[.int .i64 x.zB,(.slice va1 x.zI.length vc1),(.slice va2 x.zG.length vc2),(.slice va3 x.zL.length vc3),(.slice va4 x.zK.length vc4),(.slice va5 x.zH.zC.length vc5)];have hn5:x.zH.zC.length≤1048576:=hs.2.2.2.2.1;have HEF:=xN hs.2.2.2.1.2;clear hs
 go_enter Tryz.func23,Tryz.ntmps23
 by_cases q1:inB x.zB 0 1000=true
 rotate_left
 ·have q1':inB x.zB 0 1000=false:=(by simpa using q1)
  go_wp2_with (first|(go_at_call 47;refine(xX _ _ _ _).mono ?_;rintro e w' ⟨rfl,rfl⟩)|(go_at_call 46;refine(uG _ _ _ _ zM).mono ?_;rintro e w' ⟨rfl,rfl⟩)|(go_at_call 51;refine(yAz _ _ _ _ zM).mono ?_;rintro e w' ⟨rfl,rfl⟩)|(go_at_call 48;refine(zTz _ x.zI _ (T.yJ R1.o HB0.o)).mono ?_;rintro e w' ⟨rfl,rfl⟩;rw[a2])|(go_at_call 50;refine(wZ _ x.zL _ _ (Rd.below R3.o HB0.o) zM zM).mono ?_;rintro e w' ⟨rfl,rfl⟩;rw[a6]))
  go_ret
  exact⟨yN (xH fun h=>q1 h.length).symm,HB0.o⟩
 skip
 by_cases q2:xGz x.zI
 rotate_left
 ·have a2:=xH q2;have Q2:=xN q2;clear q2
  go_wp2_with (first|(go_at_call 47;refine(xX _ _ _ _).mono ?_;rintro e w' ⟨rfl,rfl⟩)|(go_at_call 46;refine(uG _ _ _ _ zM).mono ?_;rintro e w' ⟨rfl,rfl⟩)|(go_at_call 51;refine(yAz _ _ _ _ zM).mono ?_;rintro e w' ⟨rfl,rfl⟩)|(go_at_call 48;refine(zTz _ x.zI _ (T.yJ R1.o HB0.o)).mono ?_;rintro e w' ⟨rfl,rfl⟩;rw[a2])|(go_at_call 50;refine(wZ _ x.zL _ _ (Rd.below R3.o HB0.o) zM zM).mono ?_;rintro e w' ⟨rfl,rfl⟩;rw[a6]))
  go_ret
  exact⟨yN (xH fun h=>Q2.o h.sources).symm,HB0.o⟩
 have a2:=xI q2;have Q2:=xN q2;clear q2;by_cases q3:x.zG.length≤6
 rotate_left
 ·skip
  go_wp2_with (first|(go_at_call 47;refine(xX _ _ _ _).mono ?_;rintro e w' ⟨rfl,rfl⟩)|(go_at_call 46;refine(uG _ _ _ _ zM).mono ?_;rintro e w' ⟨rfl,rfl⟩)|(go_at_call 51;refine(yAz _ _ _ _ zM).mono ?_;rintro e w' ⟨rfl,rfl⟩)|(go_at_call 48;refine(zTz _ x.zI _ (T.yJ R1.o HB0.o)).mono ?_;rintro e w' ⟨rfl,rfl⟩;rw[a2])|(go_at_call 50;refine(wZ _ x.zL _ _ (Rd.below R3.o HB0.o) zM zM).mono ?_;rintro e w' ⟨rfl,rfl⟩;rw[a6]))
  go_ret
  exact⟨yN (xH fun h=>q3 h.few).symm,HB0.o⟩
 have Q3:=xN q3;go_wp2_with (first|(go_at_call 47;refine(xX _ _ _ _).mono ?_;rintro e w' ⟨rfl,rfl⟩)|(go_at_call 46;refine(uG _ _ _ _ zM).mono ?_;rintro e w' ⟨rfl,rfl⟩)|(go_at_call 51;refine(yAz _ _ _ _ zM).mono ?_;rintro e w' ⟨rfl,rfl⟩)|(go_at_call 48;refine(zTz _ x.zI _ (T.yJ R1.o HB0.o)).mono ?_;rintro e w' ⟨rfl,rfl⟩;rw[a2])|(go_at_call 50;refine(wZ _ x.zL _ _ (Rd.below R3.o HB0.o) zM zM).mono ?_;rintro e w' ⟨rfl,rfl⟩;rw[a6]))
 refine(c_isMixer x.zH _ _ hn5 (vF.rd_mk (T.yJ R5.o HB0.o))).mono ?_;rintro e w1 ⟨rfl,hd⟩;have hb:Below (w.alloc (.cells #[.int .i64 x.zB,(.slice va1 x.zI.length vc1),(.slice va2 x.zG.length vc2),(.slice va3 x.zL.length vc3),(.slice va4 x.zK.length vc4),(.slice va5 x.zH.zC.length vc5)] 32)).heap.size (w.alloc (.cells #[.int .i64 x.zB,(.slice va1 x.zI.length vc1),(.slice va2 x.zG.length vc2),(.slice va3 x.zL.length vc3),(.slice va4 x.zK.length vc4),(.slice va5 x.zH.zC.length vc5)] 32)) w1:=by first|exact hd|exact hd.to_below _|exact hd ▸ zR
 have HK1:=xN (HK0.o.below hb HK0.o.lt);have HB1:=xN (yO HB0.o HB0.o.size hb);clear hb hd;have ka:=HK1.o.cell;have la:=HK1.o.lt;by_cases q4:zSz x.zH
 rotate_left
 ·rw[xH q4];have Q4:=xN q4;clear q4
  go_wp2;go_ret
  exact⟨yN (xH fun h=>Q4.o h.mixer).symm,HB1.o⟩
 rw[xI q4];have Q4:=xN q4;clear q4 a2;by_cases q5:x.zL.length=x.zG.length
 rotate_left
 ·have b5:((x.zL.length:Int) != (x.zG.length:Int))=true:=ySz zM;have Q5:=xN q5;clear q5
  go_wp2_with (first|(go_at_call 47;refine(xX _ _ _ _).mono ?_;rintro e w' ⟨rfl,rfl⟩)|(go_at_call 46;refine(uG _ _ _ _ zM).mono ?_;rintro e w' ⟨rfl,rfl⟩)|(go_at_call 51;refine(yAz _ _ _ _ zM).mono ?_;rintro e w' ⟨rfl,rfl⟩)|(go_at_call 48;refine(zTz _ x.zI _ (T.yJ R1.o HB1.o)).mono ?_;rintro e w' ⟨rfl,rfl⟩;rw[a2])|(go_at_call 50;refine(wZ _ x.zL _ _ (Rd.below R3.o HB1.o) zM zM).mono ?_;rintro e w' ⟨rfl,rfl⟩;rw[a6]))
  go_ret
  exact⟨yN (xH fun h=>Q5.o h.feed).symm,HB1.o⟩
 have b5:((x.zL.length:Int) != (x.zG.length:Int))=false:=yTz zM;have Q5:=xN q5;clear q5;by_cases q6:Idx x.zL (x.zH.zC.length:Int)
 rotate_left
 ·have a6:=xH q6;have Q6:=xN q6;clear q6
  go_wp2_with (first|(go_at_call 47;refine(xX _ _ _ _).mono ?_;rintro e w' ⟨rfl,rfl⟩)|(go_at_call 46;refine(uG _ _ _ _ zM).mono ?_;rintro e w' ⟨rfl,rfl⟩)|(go_at_call 51;refine(yAz _ _ _ _ zM).mono ?_;rintro e w' ⟨rfl,rfl⟩)|(go_at_call 48;refine(zTz _ x.zI _ (T.yJ R1.o HB1.o)).mono ?_;rintro e w' ⟨rfl,rfl⟩;rw[a2])|(go_at_call 50;refine(wZ _ x.zL _ _ (Rd.below R3.o HB1.o) zM zM).mono ?_;rintro e w' ⟨rfl,rfl⟩;rw[a6]))
  go_ret
  exact⟨yN (xH fun h=>Q6.o h.feeds).symm,HB1.o⟩
 have a6:=xI q6;have Q6:=xN q6;clear q6;by_cases q7:x.zK.length=x.zH.zC.length
 rotate_left
 ·have b7:((x.zK.length:Int) != (x.zH.zC.length:Int))=true:=ySz zM;have Q7:=xN q7;clear q7
  go_wp2_with (first|(go_at_call 47;refine(xX _ _ _ _).mono ?_;rintro e w' ⟨rfl,rfl⟩)|(go_at_call 46;refine(uG _ _ _ _ zM).mono ?_;rintro e w' ⟨rfl,rfl⟩)|(go_at_call 51;refine(yAz _ _ _ _ zM).mono ?_;rintro e w' ⟨rfl,rfl⟩)|(go_at_call 48;refine(zTz _ x.zI _ (T.yJ R1.o HB1.o)).mono ?_;rintro e w' ⟨rfl,rfl⟩;rw[a2])|(go_at_call 50;refine(wZ _ x.zL _ _ (Rd.below R3.o HB1.o) zM zM).mono ?_;rintro e w' ⟨rfl,rfl⟩;rw[a6]))
  go_ret
  exact⟨yN (xH fun h=>Q7.o h.effect).symm,HB1.o⟩
 have b7:((x.zK.length:Int) != (x.zH.zC.length:Int))=false:=yTz zM;have Q7:=xN q7;clear q7;go_wp2_with (first|(go_at_call 47;refine(xX _ _ _ _).mono ?_;rintro e w' ⟨rfl,rfl⟩)|(go_at_call 46;refine(uG _ _ _ _ zM).mono ?_;rintro e w' ⟨rfl,rfl⟩)|(go_at_call 51;refine(yAz _ _ _ _ zM).mono ?_;rintro e w' ⟨rfl,rfl⟩)|(go_at_call 48;refine(zTz _ x.zI _ (T.yJ R1.o HB1.o)).mono ?_;rintro e w' ⟨rfl,rfl⟩;rw[a2])|(go_at_call 50;refine(wZ _ x.zL _ _ (Rd.below R3.o HB1.o) zM zM).mono ?_;rintro e w' ⟨rfl,rfl⟩;rw[a6]))
 clear a6 ka la
 go_loopw [60] (fun i wr=> ∃ k:Nat,k≤x.zG.length∧i= .int .i64 k∧vU x.zG (fun _ t=>zAz t∧ ∀ c ∈ t.zS,c.zV<(x.zI.length:Int)) k∧Below w1.heap.size w1 wr) (fun i _=>x.zG.length - (intOf i).toNat)
 case atStart=>exact⟨0,Nat.zero_le _,rfl,vU.zero,zR⟩
 case round=>
  obtain⟨k,hk,rfl,hs,hbw⟩:=hrel;have HS:=xN hs;have HW:=xN hbw;have HB:=xN (yO HB1.o HB1.o.size hbw);have HK:=xN (HK1.o.below hbw HK1.o.lt);clear hs hbw;have ka:=HK.o.cell;have la:=HK.o.lt;by_cases hlt:k<x.zG.length
  rotate_left
  ·have hall:=xN (HS.o.all zM);clear HS
   generalize wr=w2 at *;have HB2:=HB;have HK2:=HK;clear HB HK;go_wp2;clear ka la
   go_loopw [79] (fun i wr=> ∃ k:Nat,k≤x.zK.length∧i= .int .i64 k∧vU x.zK (fun _ p=>wEz p) k∧Below w2.heap.size w2 wr) (fun i _=>x.zK.length - (intOf i).toNat)
   case atStart=>exact⟨0,Nat.zero_le _,rfl,vU.zero,zR⟩
   case round=>
    obtain⟨k,hk,rfl,hs,hbw⟩:=hrel;have HS:=xN hs;have HW:=xN hbw;have HB:=xN (yO HB2.o HB2.o.size hbw);have HK:=xN (HK2.o.below hbw HK2.o.lt);clear hs hbw;have ka:=HK.o.cell;have la:=HK.o.lt;by_cases hlt:k<x.zK.length
    rotate_left
    ·have hall2:=xN (HS.o.all zM);clear HS
     go_wp2;go_ret
     exact⟨yN (xI ⟨q1,Q2.o,Q3.o,Q4.o,Q5.o,Q6.o,Q7.o,fun i t ht=>⟨(hall.o i t ht).1,Each.of_mem.2 (hall.o i t ht).2⟩,hall2.o⟩).symm,HB.o⟩
    have hgk:=gE hlt;obtain⟨b1,off,cs1,hA,hb1,hcs,hcell⟩:=HX4.o k x.zK[k] hgk;subst hA;generalize x.zK[k]=y at *;have HG:=xN hgk;clear hgk;obtain⟨u1,u2,u3,rfl,hRY1,hRY2,hRY3⟩:=xQ.yT (show T.rds _ _ _ by simpa only[xQ.t,T.rd] using hcs);obtain⟨d0,d1,d2,d3⟩:=oc4 HB.o hb1 hcell;have RY1:=xN (T.yJ hRY1 HB.o);clear hRY1;have RY2:=xN (T.yJ hRY2 HB.o);clear hRY2;have RY3:=xN (T.yJ hRY3 HB.o);clear hRY3;clear hcs hcell;obtain⟨ua1,uc1,rfl,ul1,um1,ux1⟩:=T.yS RY1.o;clear ux1;obtain⟨ua2,uc2,rfl,ul2,um2,ux2⟩:=T.yS RY2.o;clear ux2;have RY3i:=xN (T.xB.1 RY3.o);obtain⟨ua3,uc3,rfl,ul3,um3,ux3⟩:=RY3i.o.open_;clear ux3;have hq1:b1<wr.heap.size:=zW hb1 HB.o.size;have hny:=(HEF.o y (List.mem_of_getElem? HG.o)).2.1.1;have HWP:=xN (show Below wr.heap.size wr (wr.alloc (.cells #[.int .i64 y.zU,(.slice ua1 y.zY.length uc1),(.slice ua2 y.zF.length uc2),(.slice ua3 y.zX.length uc3)] 81)) from zR.alloc zJ _);go_wp2_with fail
    refine(c_isEffect y _ _ hny (xQ.rd_mk (T.yJ RY1.o HWP.o) (T.yJ RY2.o HWP.o) (T.yJ RY3.o HWP.o))).mono ?_;rintro e w3 ⟨rfl,hb3⟩;have H3:=xN (yO HWP.o HWP.o.size hb3);have HB3:=xN (yO HB.o HB.o.size H3.o);have HW3:=xN (yO HW.o HW.o.size H3.o);clear hb3;by_cases q8:wEz y
    rotate_left
    ·rw[xH q8];have Q8:=xN q8;clear q8
     go_wp2;go_ret
     exact⟨yN (xH fun h=>Q8.o (h.effects k y HG.o)).symm,HB3.o⟩
    rw[xI q8];have Q8:=xN q8;clear q8;go_wp2
    go_roundw
    case rel=>exact⟨k+1,by omega,by go_num,HS.o.step HG.o Q8.o,HW3.o⟩
    case measure=>simp[intOf];omega
  have hgk:=gE hlt;obtain⟨b1,off,cs1,hA,hb1,hcs,hcell⟩:=HX2.o k x.zG[k] hgk;subst hA;generalize x.zG[k]=y at *;have HG:=xN hgk;clear hgk;obtain⟨u0,rfl,hRY0⟩:=xS.yT (show T.rds _ _ _ by simpa only[xS.t,T.rd] using hcs);have d0:=oc1 HB.o hb1 hcell;have RY0:=xN (T.yJ hRY0 HB.o);clear hRY0;clear hcs hcell;obtain⟨ua0,uc0,rfl,ul0,um0,ux0⟩:=T.yS RY0.o;clear ux0;have hq1:b1<wr.heap.size:=zW hb1 HB.o.size;by_cases q8:zAz y
  rotate_left
  ·have b8:=xH q8;have Q8:=xN q8;clear q8
   have hWb:Below wr.heap.size wr (wr.alloc (.cells #[(.slice ua0 y.zS.length uc0)] 69)):=zR.alloc zJ _;have hNb:=Bk.born wr 69 #[(.slice ua0 y.zS.length uc0)];go_wp2;generalize wr.alloc (.cells #[(.slice ua0 y.zS.length uc0)] 69)=W at *;have HWb:=xN hWb;have HNb:=xN hNb;have HKW:=xN (HK.o.below hWb HK.o.lt);have g0:=xM hNb;have g1:=xM HKW.o;clear hWb hNb;refine rB ?_
   repeat(first|go_big_quiet_skip|(go_big_quiet_want;go_big_quiet_op;first|go_big_quiet_on|(apply Exists.intro;refine⟨fun _=>?_,?_⟩;(· (first|(go_at_call 52;exact Calls.yQ ((vTz y _ _ (xS.rd_mk (T.yJ RY0.o (yO HWb.o HWb.o.size (yM W _))))).mono (fun e w' h=>by(first|rw[b8] at h|skip);exact h)))|(go_at_call 54;exact Calls.yP (xKz _ _ _ _ zM))|(go_at_call 53;exact Calls.yQ ((uDz y _ (x.zI.length:Int) _ (xS.rd_mk (T.yJ RY0.o (yO HWb.o HWb.o.size (yM W _))))).mono (fun e w' h=>by(first|rw[b9] at h|skip);exact h)))));go_big_quiet_on)))
   refine wpQuiet_nil ?_;rintro w9 ⟨uu,rfl⟩;have hb9:=yM W uu;generalize bel W uu=w9 at *;have HC:=xN (yO HWb.o HWb.o.size hb9);have HC2:=xN (yO HB.o HB.o.size HC.o);have HC3:=xN (yO HW.o HW.o.size HC.o);clear hb9 g0 g1;go_wp2;go_ret
   exact⟨yN (xH fun h=>Q8.o (h.tracks k y HG.o).1).symm,HC2.o⟩
  have b8:=xI q8;have Q8:=xN q8;clear q8;by_cases q9: ∀ c ∈ y.zS,c.zV<(x.zI.length:Int)
  rotate_left
  ·have b9:=xH q9;have Q9:=xN q9;clear q9
   have hWb:Below wr.heap.size wr (wr.alloc (.cells #[(.slice ua0 y.zS.length uc0)] 69)):=zR.alloc zJ _;have hNb:=Bk.born wr 69 #[(.slice ua0 y.zS.length uc0)];go_wp2;generalize wr.alloc (.cells #[(.slice ua0 y.zS.length uc0)] 69)=W at *;have HWb:=xN hWb;have HNb:=xN hNb;have HKW:=xN (HK.o.below hWb HK.o.lt);have g0:=xM hNb;have g1:=xM HKW.o;clear hWb hNb;refine rB ?_
   repeat(first|go_big_quiet_skip|(go_big_quiet_want;go_big_quiet_op;first|go_big_quiet_on|(apply Exists.intro;refine⟨fun _=>?_,?_⟩;(· (first|(go_at_call 52;exact Calls.yQ ((vTz y _ _ (xS.rd_mk (T.yJ RY0.o (yO HWb.o HWb.o.size (yM W _))))).mono (fun e w' h=>by(first|rw[b8] at h|skip);exact h)))|(go_at_call 54;exact Calls.yP (xKz _ _ _ _ zM))|(go_at_call 53;exact Calls.yQ ((uDz y _ (x.zI.length:Int) _ (xS.rd_mk (T.yJ RY0.o (yO HWb.o HWb.o.size (yM W _))))).mono (fun e w' h=>by(first|rw[b9] at h|skip);exact h)))));go_big_quiet_on)))
   refine wpQuiet_nil ?_;rintro w9 ⟨uu,rfl⟩;have hb9:=yM W uu;generalize bel W uu=w9 at *;have HC:=xN (yO HWb.o HWb.o.size hb9);have HC2:=xN (yO HB.o HB.o.size HC.o);have HC3:=xN (yO HW.o HW.o.size HC.o);clear hb9 g0 g1;go_wp2;go_ret
   exact⟨yN (xH fun h=>Q9.o (Each.of_mem.1 (h.tracks k y HG.o).2)).symm,HC2.o⟩
  have b9:=xI q9;have Q9:=xN q9;clear q9;have hWb:Below wr.heap.size wr (wr.alloc (.cells #[(.slice ua0 y.zS.length uc0)] 69)):=zR.alloc zJ _;have hNb:=Bk.born wr 69 #[(.slice ua0 y.zS.length uc0)];go_wp2;generalize wr.alloc (.cells #[(.slice ua0 y.zS.length uc0)] 69)=W at *;have HWb:=xN hWb;have HNb:=xN hNb;have HKW:=xN (HK.o.below hWb HK.o.lt);have g0:=xM hNb;have g1:=xM HKW.o;clear hWb hNb;refine rB ?_
  repeat(first|go_big_quiet_skip|(go_big_quiet_want;go_big_quiet_op;first|go_big_quiet_on|(apply Exists.intro;refine⟨fun _=>?_,?_⟩;(· (first|(go_at_call 52;exact Calls.yQ ((vTz y _ _ (xS.rd_mk (T.yJ RY0.o (yO HWb.o HWb.o.size (yM W _))))).mono (fun e w' h=>by(first|rw[b8] at h|skip);exact h)))|(go_at_call 54;exact Calls.yP (xKz _ _ _ _ zM))|(go_at_call 53;exact Calls.yQ ((uDz y _ (x.zI.length:Int) _ (xS.rd_mk (T.yJ RY0.o (yO HWb.o HWb.o.size (yM W _))))).mono (fun e w' h=>by(first|rw[b9] at h|skip);exact h)))));go_big_quiet_on)))
  refine wpQuiet_nil ?_;rintro w9 ⟨uu,rfl⟩;have hb9:=yM W uu;generalize bel W uu=w9 at *;have HC:=xN (yO HWb.o HWb.o.size hb9);have HC2:=xN (yO HB.o HB.o.size HC.o);have HC3:=xN (yO HW.o HW.o.size HC.o);clear hb9 g0 g1;go_wp2
  go_roundw
  case rel=>exact⟨k+1,by omega,by go_num,HS.o.step HG.o ⟨Q8.o,Q9.o⟩,HC3.o⟩
  case measure=>simp[intOf];omega
end
end Go.Proofs.YtdcofkabaigjpaaGreat
