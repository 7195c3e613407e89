/- Contracts: which nested data are the same. Contracts: what is valid, by the reference: strips, mixers. -/
import Derived.Test.YtoibekfhepnedaaGreatQAiExactMakeCache
import Derived.Laws.StructEq
import Derived.Test.YtoibekfhepnedaaGreatQAfExactMakeCache
import Derived.Test.YtoibekfhepnedaaGreatQAdExactMakeCache
set_option linter.unusedVariables false
set_option linter.unusedSimpArgs false
set_option maxHeartbeats 2000000
set_option maxRecDepth 20000
namespace Go.Proofs.YtoibekfhepnedaaGreat
section
open Go.RowKit
theorem c_same (v u:Value) (xs ys:List Int) (w:World) (hr1:RdI w v xs) (hr2:RdI w u ys):Calls Tryz.prog 258 #[v,u] w fun e w'=>e= .returned (.bool (decide (xs=ys)))∧Dr w w':=by
 obtain⟨A1,cap1,rfl,hl1,hc1,hx1⟩:=hr1.open_
 obtain⟨A2,cap2,rfl,hl2,hc2,hx2⟩:=hr2.open_
 have HX1:=hide hx1;have HX2:=hide hx2;clear hx1 hx2 hr1 hr2
 by_cases hll:xs.length=ys.length
 ·have hb:((xs.length:Int) != (ys.length:Int))=false:=by simp[hll]
  have HL:=hide hll;clear hll
  go_enter Tryz.func258,Tryz.ntmps258
  go_wp2
  go_loopw [14] (fun i wr=> ∃ k:Nat,k≤xs.length∧i= .int .i64 k∧xs.take k=ys.take k∧Dr w wr) (fun i _=>xs.length - (intOf i).toNat)
  case atStart=>exact⟨0,Nat.zero_le _,rfl,rfl,Dr.refl _⟩
  case round=>
   obtain⟨k,hk,rfl,hs,nr,rfl⟩:=hrel
   have HS:=hide hs;clear hs
   by_cases hlt:k<xs.length
   ·have hlt2:k<ys.length:=by have:=HL.out;omega
    obtain⟨b1,off1,rfl,hb1,hcell1⟩:=HX1.out k xs[k] (gE hlt)
    obtain⟨b2,off2,rfl,hb2,hcell2⟩:=HX2.out k ys[k] (gE hlt2)
    by_cases he:xs[k]=ys[k]
    ·have hd:(xs[k] != ys[k])=false:=by simp[he]
     have HE:=hide he;clear he
     go_wp2
     go_roundw
     case rel=>exact⟨k+1,by omega,by go_num,takes_succ HS.out (gE hlt) (by rw[HE.out];exact gE hlt2),(by repeat(first|exact Dr.refl _|exact⟨_,rfl⟩|refine Dr.drewN ?_ _|refine Dr.drew ?_))⟩
     case measure=>simp[intOf];omega
    ·have hd:(xs[k] != ys[k])=true:=by simp[he]
     have HE:=hide he;clear he
     go_wp2
     go_ret
     exact⟨by simp[ne_at (gE hlt) (gE hlt2) HE.out],(by repeat(first|exact Dr.refl _|exact⟨_,rfl⟩|refine Dr.drewN ?_ _|refine Dr.drew ?_))⟩
   ·go_wp2
    go_ret
    exact⟨by simp[eq_of_takes (k:=k) (by omega) HL.out HS.out],(by repeat(first|exact Dr.refl _|exact⟨_,rfl⟩|refine Dr.drewN ?_ _|refine Dr.drew ?_))⟩
 ·have hb:((xs.length:Int) != (ys.length:Int))=true:=by simp;omega
  have hne:xs≠ys:=fun e=>hll (by rw[e])
  have HN:=hide hne;clear hll hne
  go_enter Tryz.func258,Tryz.ntmps258
  go_wp2
  go_ret
  exact⟨by simp[HN.out],Dr.refl _⟩
theorem c_sameAll (v u:Value) (xs ys:List (List Int)) (w:World) (hr:T.rd w (T.sl 26 1 (xs.map (T.ints 2))) [v]) (ht:T.rd w (T.sl 26 1 (ys.map (T.ints 2))) [u]):
  Calls Tryz.prog 257 #[v,u] w fun e w'=>e= .returned (.bool (decide (xs=ys)))∧Dr w w':=by
 obtain⟨A1,cap1,rfl,hl1,hc1,hx1⟩:=T.yO hr
 obtain⟨A2,cap2,rfl,hl2,hc2,hx2⟩:=T.yO ht
 rw[List.length_map] at hl1 hl2 ⊢
 rw[List.length_map]
 have HX1:=hide hx1;have HX2:=hide hx2;clear hx1 hx2 hr ht
 by_cases hll:xs.length=ys.length
 ·have hb:((xs.length:Int) != (ys.length:Int))=false:=by simp[hll]
  have HL:=hide hll;clear hll
  go_enter Tryz.func257,Tryz.ntmps257
  go_wp2
  go_loopw [14] (fun i wr=> ∃ k:Nat,k≤xs.length∧i= .int .i64 k∧xs.take k=ys.take k∧Dr w wr) (fun i _=>xs.length - (intOf i).toNat)
  case atStart=>exact⟨0,Nat.zero_le _,rfl,rfl,Dr.refl _⟩
  case round=>
   obtain⟨k,hk,rfl,hs,nr,rfl⟩:=hrel
   have HS:=hide hs;clear hs
   by_cases hlt:k<xs.length
   ·have hlt2:k<ys.length:=by have:=HL.out;omega
    obtain⟨b1,o1,cs1,rfl,hb1,hcs1,hcell1⟩:=HX1.out k (T.ints 2 xs[k]) (by rw[List.getElem?_map,gE hlt];rfl)
    obtain⟨b2,o2,cs2,rfl,hb2,hcs2,hcell2⟩:=HX2.out k (T.ints 2 ys[k]) (by rw[List.getElem?_map,gE hlt2];rfl)
    have hg1:=gE hlt
    have hg2:=gE hlt2
    generalize xs[k]=x at *
    generalize ys[k]=y at *
    have HG1:=hide hg1;have HG2:=hide hg2;clear hg1 hg2
    obtain⟨v3,rfl⟩:=T.rd_one hcs1
    obtain⟨v4,rfl⟩:=T.rd_one hcs2
    have d0:=hcell1 0 v3 rfl
    have g0:=hcell2 0 v4 rfl
    rw[Nat.mul_one,Nat.add_zero] at d0 g0
    have R1:=hide (show RdI (w.drewN nr) v3 x from Rd.drewN (T.yT.1 hcs1) nr);have R2:=hide (show RdI (w.drewN nr) v4 y from Rd.drewN (T.yT.1 hcs2) nr)
    clear hcs1 hcs2 hcell1 hcell2
    by_cases he:x=y
    ·have hde:decide (x=y)=true:=decide_eq_true he
     have HE:=hide he;clear he
     go_wp2_with (go_at_call 258;refine(c_same _ _ x y _ R1.out R2.out).mono ?_;rintro e w3 ⟨rfl,hd3⟩;rw[hde])
     go_roundw
     case rel=>exact⟨k+1,by omega,by go_num,takes_succ HS.out HG1.out (by rw[HE.out];exact HG2.out),(Dr.drewN (Dr.refl _) _).trans hd3⟩
     case measure=>simp[intOf];omega
    ·have hde:decide (x=y)=false:=decide_eq_false he
     have HE:=hide he;clear he
     go_wp2_with (go_at_call 258;refine(c_same _ _ x y _ R1.out R2.out).mono ?_;rintro e w3 ⟨rfl,hd3⟩;rw[hde])
     go_ret
     exact⟨by simp[ne_at HG1.out HG2.out HE.out],(Dr.drewN (Dr.refl _) _).trans hd3⟩
   ·go_wp2
    go_ret
    exact⟨by simp[eq_of_takes (k:=k) (by omega) HL.out HS.out],(by repeat(first|exact Dr.refl _|exact⟨_,rfl⟩|refine Dr.drewN ?_ _|refine Dr.drew ?_))⟩
 ·have hb:((xs.length:Int) != (ys.length:Int))=true:=by simp;omega
  have hne:xs≠ys:=fun e=>hll (by rw[e])
  have HN:=hide hne;clear hll hne
  go_enter Tryz.func257,Tryz.ntmps257
  go_wp2
  go_ret
  exact⟨by simp[HN.out],Dr.refl _⟩
theorem c_iSameNode (a b:xJ) (v3:Value) (u3:Value) (w:World) (r3:T.rd w (T.ints 2 a.zH) [v3]) (t3:T.rd w (T.ints 2 b.zH) [u3]):
  Calls Tryz.prog 259 #[.agg #[.int .i64 a.zD,.int .i64 a.fA,.int .i64 a.fB,v3],.agg #[.int .i64 b.zD,.int .i64 b.fA,.int .i64 b.fB,u3]] w fun e w'=>e= .returned (.bool (decide (a=b)))∧Below w.heap.size w w':=by
 have hab:decide (a=b)=(decide (a.zD=b.zD) && (decide (a.fA=b.fA) && (decide (a.fB=b.fB) && (decide (a.zH=b.zH))))):=by
  obtain⟨x0,x1,x2,x3⟩:=a
  obtain⟨y0,y1,y2,y3⟩:=b
  rw[Bool.eq_iff_iff]
  simp only[xJ.mk.injEq,decide_eq_true_eq,Bool.and_eq_true]
  try (constructor<;>(intro h;simp[h]))
 have R3:=hide r3;have Q3:=hide t3
 obtain⟨va3,vl3,vc3,rfl⟩:=T.yV r3
 obtain⟨ua3,ul3,uc3,rfl⟩:=T.yV t3
 clear r3 t3
 have HAB:=hide hab;clear hab
 have HB0:=hide (show Below w.heap.size w ((w.alloc (.cells #[.int .i64 a.zD,.int .i64 a.fA,.int .i64 a.fB,(.slice va3 vl3 vc3)] 167)).alloc (.cells #[.int .i64 b.zD,.int .i64 b.fA,.int .i64 b.fB,(.slice ua3 ul3 uc3)] 167)) from((Below.refl _ _).alloc (Nat.le_refl _) _).alloc so _)
 have HKA0:=hide ((Bk.born w 167 #[.int .i64 a.zD,.int .i64 a.fA,.int .i64 a.fB,(.slice va3 vl3 vc3)]).alloc (.cells #[.int .i64 b.zD,.int .i64 b.fA,.int .i64 b.fB,(.slice ua3 ul3 uc3)] 167))
 have HKB0:=hide (Bk.born1' w (.cells #[.int .i64 a.zD,.int .i64 a.fA,.int .i64 a.fB,(.slice va3 vl3 vc3)] 167) 167 #[.int .i64 b.zD,.int .i64 b.fA,.int .i64 b.fB,(.slice ua3 ul3 uc3)])
 by_cases h0:a.zD=b.zD
 ·have e0:(a.zD == b.zD)=true:=by simp[h0]
  have H0:=hide h0;clear h0
  by_cases h1:a.fA=b.fA
  ·have e1:(a.fA == b.fA)=true:=by simp[h1]
   have H1:=hide h1;clear h1
   by_cases h2:a.fB=b.fB
   ·have e2:(a.fB == b.fB)=true:=by simp[h2]
    have H2:=hide h2;clear h2
    by_cases h3:a.zH=b.zH
    ·have c3:decide (a.zH=b.zH)=true:=by simp[h3]
     have H3:=hide h3;clear h3
     go_enter Tryz.func259,Tryz.ntmps259
     go_wp2_with fail
     refine(c_same _ _ a.zH b.zH _ (T.yT.1 (T.yF R3.out HB0.out)) (T.yT.1 (T.yF Q3.out HB0.out))).mono ?_;rintro e w1 ⟨rfl,hd⟩;rw[c3]
     have hb:Below (((w.alloc (.cells #[.int .i64 a.zD,.int .i64 a.fA,.int .i64 a.fB,(.slice va3 vl3 vc3)] 167)).alloc (.cells #[.int .i64 b.zD,.int .i64 b.fA,.int .i64 b.fB,(.slice ua3 ul3 uc3)] 167))).heap.size ((w.alloc (.cells #[.int .i64 a.zD,.int .i64 a.fA,.int .i64 a.fB,(.slice va3 vl3 vc3)] 167)).alloc (.cells #[.int .i64 b.zD,.int .i64 b.fA,.int .i64 b.fB,(.slice ua3 ul3 uc3)] 167)) w1:=by first|exact hd.to_below _|exact hd
     have HKA1:=hide (HKA0.out.below hb HKA0.out.lt);have HKB1:=hide (HKB0.out.below hb HKB0.out.lt);have HB1:=hide (yJ HB0.out HB0.out.size hb);clear hb hd
     have ka1:=HKA1.out.cell;have kb1:=HKB1.out.cell
     go_wp2
     go_ret
     exact⟨yI (by rw[HAB.out];simp[H0.out,H1.out,H2.out,H3.out]),HB1.out⟩
    ·have c3:decide (a.zH=b.zH)=false:=by simp[h3]
     have H3:=hide h3;clear h3
     go_enter Tryz.func259,Tryz.ntmps259
     go_wp2_with fail
     refine(c_same _ _ a.zH b.zH _ (T.yT.1 (T.yF R3.out HB0.out)) (T.yT.1 (T.yF Q3.out HB0.out))).mono ?_;rintro e w1 ⟨rfl,hd⟩;rw[c3]
     have hb:Below (((w.alloc (.cells #[.int .i64 a.zD,.int .i64 a.fA,.int .i64 a.fB,(.slice va3 vl3 vc3)] 167)).alloc (.cells #[.int .i64 b.zD,.int .i64 b.fA,.int .i64 b.fB,(.slice ua3 ul3 uc3)] 167))).heap.size ((w.alloc (.cells #[.int .i64 a.zD,.int .i64 a.fA,.int .i64 a.fB,(.slice va3 vl3 vc3)] 167)).alloc (.cells #[.int .i64 b.zD,.int .i64 b.fA,.int .i64 b.fB,(.slice ua3 ul3 uc3)] 167)) w1:=by first|exact hd.to_below _|exact hd
     have HKA1:=hide (HKA0.out.below hb HKA0.out.lt);have HKB1:=hide (HKB0.out.below hb HKB0.out.lt);have HB1:=hide (yJ HB0.out HB0.out.size hb);clear hb hd
     have ka1:=HKA1.out.cell;have kb1:=HKB1.out.cell
     go_wp2
     go_ret
     exact⟨yI (by rw[HAB.out];simp[H0.out,H1.out,H2.out,H3.out]),HB1.out⟩
   ·have e2:(a.fB == b.fB)=false:=by simp[h2]
    have H2:=hide h2;clear h2
    go_enter Tryz.func259,Tryz.ntmps259
    go_wp2
    go_ret
    exact⟨yI (by rw[HAB.out];simp[H0.out,H1.out,H2.out]),HB0.out⟩
  ·have e1:(a.fA == b.fA)=false:=by simp[h1]
   have H1:=hide h1;clear h1
   go_enter Tryz.func259,Tryz.ntmps259
   go_wp2
   go_ret
   exact⟨yI (by rw[HAB.out];simp[H0.out,H1.out]),HB0.out⟩
 ·have e0:(a.zD == b.zD)=false:=by simp[h0]
  have H0:=hide h0;clear h0
  go_enter Tryz.func259,Tryz.ntmps259
  go_wp2
  go_ret
  exact⟨yI (by rw[HAB.out];simp[H0.out]),HB0.out⟩
end
section
open Go.RowKit
theorem SendsOk.le {l:List xM} {p n:Int} (h:SendsOk l p n):l.length≤4:=by
 by_cases e:p=n - 1
 ·have:=h.last e;omega
 ·exact(h.few e).2
theorem c_l26Strip (x:xH) (b o:Nat) (k:Int) (n:Int) (w:World) (k0:0≤k) (k1:k≤1048576) (n0:0≤n) (n1:n≤1048576) (h:T.at w x.fs b o):Calls Tryz.prog 178 #[.pointer (some ⟨b,o,none⟩),.int .i64 k,.int .i64 n] w fun e w'=>e= .returned (.bool (tf (StripOk x k n)))∧Below w.heap.size w w':=by
 have HAT:=hide h
 obtain⟨hlt0,cs,hr,hc⟩:=h
 obtain⟨v2,rfl,h2⟩:=xH.yO hr
 clear hr
 have R2:=hide h2;obtain⟨va2,vc2,rfl,vl2,vm2,vx2⟩:=T.yN h2
 have HX2:=hide vx2;clear vx2 h2
 have HL:=hide hlt0;have HCC:=hide hc;have HB0:=hide (Below.refl w.heap.size w);clear hlt0 hc
 have p0:w.cell? ⟨b,o,none⟩=some (.string x.zV):=(HB0.out.cell HL.out).trans (HCC.out 0 _ rfl)
 have p1:w.cell? ⟨b,o+1,none⟩=some (.int .i64 x.zI):=(HB0.out.cell HL.out).trans (HCC.out 1 _ rfl)
 have p2:w.cell? ⟨b,o+2,none⟩=some (.slice va2 x.zM.length vc2):=(HB0.out.cell HL.out).trans (HCC.out 2 _ rfl)
 have lb:b<w.heap.size:=lL HL.out HB0.out.size
 go_enter Tryz.func178,Tryz.ntmps178
 by_cases q1:NameOk x.zV
 rotate_left
 ·have a1:=yZ q1;have Q1:=hide q1;clear q1
  go_wp2_with (first|(go_at_call 230;refine(c_sIsName _ _).mono ?_;rintro e w' ⟨rfl,rfl⟩;rw[a1])|(go_at_call 87;refine(xX _ _ _ _).mono ?_;rintro e w' ⟨rfl,rfl⟩)|(go_at_call 158;refine(wG _ _).mono ?_;rintro e w' ⟨rfl,rfl⟩))
  go_ret
  exact⟨yI (yZ fun h=>Q1.out h.name).symm,HB0.out⟩
 have a1:=xA q1;have Q1:=hide q1;clear q1
 by_cases q2:inB x.zI 0 32=true
 rotate_left
 ·have q2':inB x.zI 0 32=false:=(by simpa using q2)
  go_wp2_with (first|(go_at_call 230;refine(c_sIsName _ _).mono ?_;rintro e w' ⟨rfl,rfl⟩;rw[a1])|(go_at_call 87;refine(xX _ _ _ _).mono ?_;rintro e w' ⟨rfl,rfl⟩)|(go_at_call 158;refine(wG _ _).mono ?_;rintro e w' ⟨rfl,rfl⟩))
  go_ret
  exact⟨yI (yZ fun h=>q2 h.latency).symm,HB0.out⟩
 skip
 by_cases q3:x.zM.length≤4
 rotate_left
 ·skip
  go_wp2_with (first|(go_at_call 230;refine(c_sIsName _ _).mono ?_;rintro e w' ⟨rfl,rfl⟩;rw[a1])|(go_at_call 87;refine(xX _ _ _ _).mono ?_;rintro e w' ⟨rfl,rfl⟩)|(go_at_call 158;refine(wG _ _).mono ?_;rintro e w' ⟨rfl,rfl⟩))
  go_ret
  exact⟨yI (yZ fun h=>q3 h.sends.le).symm,HB0.out⟩
 have Q3:=hide q3
 by_cases zl:k=n - 1
 ·by_cases zz:x.zM.length=0
  rotate_left
  ·have z1:((x.zM.length:Int) == 0)=false:=yR (by omega);have z2:(k == n - 1)=true:=yS zl;have ZL:=hide zl;have ZZ:=hide zz;clear zl zz
   go_wp2_with (first|(go_at_call 230;refine(c_sIsName _ _).mono ?_;rintro e w' ⟨rfl,rfl⟩;rw[a1])|(go_at_call 87;refine(xX _ _ _ _).mono ?_;rintro e w' ⟨rfl,rfl⟩)|(go_at_call 158;refine(wG _ _).mono ?_;rintro e w' ⟨rfl,rfl⟩))
   go_ret
   exact⟨yI (yZ fun h=>ZZ.out (h.sends.last ZL.out)).symm,HB0.out⟩
  have z1:((x.zM.length:Int) == 0)=true:=yS (by omega);have z2:(k == n - 1)=true:=yS zl;have ZL:=hide zl;have ZZ:=hide zz;clear zl zz
  go_wp2_with (first|(go_at_call 230;refine(c_sIsName _ _).mono ?_;rintro e w' ⟨rfl,rfl⟩;rw[a1])|(go_at_call 87;refine(xX _ _ _ _).mono ?_;rintro e w' ⟨rfl,rfl⟩)|(go_at_call 158;refine(wG _ _).mono ?_;rintro e w' ⟨rfl,rfl⟩))
  clear p0 p1 p2 lb z1 z2
  go_loopw [7,8] (fun bv i wr=> ∃ (j:Nat) (bf:Int),j≤x.zM.length∧i= .int .i64 j∧bv= .int .i64 bf∧bf=befS x.zM k j∧0≤bf∧bf≤1048576∧vI x.zM (fun i x_1=>inB x_1.zW (befS x.zM k i+1) (n - 1)=true∧Smp x_1.zS) j∧Below w.heap.size w wr) (fun _ i _=>x.zM.length - (intOf i).toNat)
  case atStart=>exact⟨0,k,Nat.zero_le _,rfl,rfl,rfl,k0,k1,vI.zero,Below.refl _ _⟩
  case round=>
   obtain⟨j,bf,hk,rfl,rfl,hbf,b0,b1',hs,hbw⟩:=hrel
   have HS:=hide hs;have HB:=hide hbw;have HBF:=hide hbf;clear hs hbw hbf
   have p0:wr.cell? ⟨b,o,none⟩=some (.string x.zV):=(HB.out.cell HL.out).trans (HCC.out 0 _ rfl)
   have p1:wr.cell? ⟨b,o+1,none⟩=some (.int .i64 x.zI):=(HB.out.cell HL.out).trans (HCC.out 1 _ rfl)
   have p2:wr.cell? ⟨b,o+2,none⟩=some (.slice va2 x.zM.length vc2):=(HB.out.cell HL.out).trans (HCC.out 2 _ rfl)
   have lb:b<wr.heap.size:=lL HL.out HB.out.size
   by_cases hlt:j<x.zM.length
   rotate_left
   ·have hall:=hide (HS.out.all (by omega));clear HS
    go_wp2
    go_ret
    exact⟨yI (xA ⟨Q1.out,q2,⟨hall.out,fun _=>ZZ.out,fun h=>absurd ZL.out h⟩⟩).symm,HB.out⟩
   have hgk:=gE hlt
   obtain⟨b1,off,csy,hA,hb1,hcs,hcell⟩:=HX2.out j x.zM[j] hgk
   subst hA
   generalize x.zM[j]=y at *
   have HG:=hide hgk;clear hgk
   have HAy:=hide (T.at_elem (o:=off+j * 2) hb1 (show T.rds w y.fs csy by simpa only[xM.t,T.rd] using hcs) hcell (by omega));clear hcs hcell
   obtain⟨_,csy',hry,hcy⟩:=HAy.out
   obtain rfl:=xM.yO hry
   have cy0:wr.cell? ⟨b1,off+j * 2,none⟩=some (.int .i64 y.zW):=(HB.out.cell hb1).trans (hcy 0 _ rfl)
   have cy1:wr.cell? ⟨b1,off+j * 2+1,none⟩=some (.int .i64 y.zS):=(HB.out.cell hb1).trans (hcy 1 _ rfl)
   have hq1:b1<wr.heap.size:=lL hb1 HB.out.size
   clear hry hcy
   by_cases s1:inB y.zW (bf+1) (n - 1)=true
   rotate_left
   ·have s1':inB y.zW (bf+1) (n - 1)=false:=(by simpa using s1)
    go_wp2_with (first|(go_at_call 87;refine(xX _ _ _ _).mono ?_;rintro e w' ⟨rfl,rfl⟩)|(go_at_call 158;refine(wG _ _).mono ?_;rintro e w' ⟨rfl,rfl⟩))
    go_ret
    exact⟨yI (yZ fun h=>by have:=(h.sends.each j y HG.out).1;rw[←HBF.out] at this;exact s1 this).symm,HB.out⟩
   have i1:=xC.1 s1;have S1:=hide s1
   by_cases s2:Smp y.zS
   rotate_left
   ·have s2':decide (Smp y.zS)=false:=decide_eq_false s2;have S2:=hide s2;clear s2
    go_wp2_with (first|(go_at_call 87;refine(xX _ _ _ _).mono ?_;rintro e w' ⟨rfl,rfl⟩)|(go_at_call 158;refine(wG _ _).mono ?_;rintro e w' ⟨rfl,rfl⟩))
    go_ret
    exact⟨yI (yZ fun h=>S2.out (h.sends.each j y HG.out).2).symm,HB.out⟩
   have s2':decide (Smp y.zS)=true:=decide_eq_true s2;have S2:=hide s2;clear s2
   go_wp2_with (first|(go_at_call 87;refine(xX _ _ _ _).mono ?_;rintro e w' ⟨rfl,rfl⟩)|(go_at_call 158;refine(wG _ _).mono ?_;rintro e w' ⟨rfl,rfl⟩))
   go_roundw
   case rel=>exact⟨j+1,y.zW,by omega,by go_num,rfl,(befS_succ HG.out).symm,by omega,by omega,HS.out.step HG.out ⟨by rw[←HBF.out];exact S1.out,S2.out⟩,HB.out⟩
   case measure=>simp[intOf];omega
 ·by_cases zz:x.zM.length=0
  ·have z1:((x.zM.length:Int) == 0)=true:=yS (by omega);have z2:(k == n - 1)=false:=yR zl;have ZL:=hide zl;have ZZ:=hide zz;clear zl zz
   go_wp2_with (first|(go_at_call 230;refine(c_sIsName _ _).mono ?_;rintro e w' ⟨rfl,rfl⟩;rw[a1])|(go_at_call 87;refine(xX _ _ _ _).mono ?_;rintro e w' ⟨rfl,rfl⟩)|(go_at_call 158;refine(wG _ _).mono ?_;rintro e w' ⟨rfl,rfl⟩))
   go_ret
   exact⟨yI (yZ fun h=>by have:=(h.sends.few ZL.out).1;have:=ZZ.out;omega).symm,HB0.out⟩
  have z1:((x.zM.length:Int) == 0)=false:=yR (by omega);have z2:(k == n - 1)=false:=yR zl;have ZL:=hide zl;have ZZ:=hide zz;clear zl zz
  go_wp2_with (first|(go_at_call 230;refine(c_sIsName _ _).mono ?_;rintro e w' ⟨rfl,rfl⟩;rw[a1])|(go_at_call 87;refine(xX _ _ _ _).mono ?_;rintro e w' ⟨rfl,rfl⟩)|(go_at_call 158;refine(wG _ _).mono ?_;rintro e w' ⟨rfl,rfl⟩))
  clear p0 p1 p2 lb z1 z2
  go_loopw [7,8] (fun bv i wr=> ∃ (j:Nat) (bf:Int),j≤x.zM.length∧i= .int .i64 j∧bv= .int .i64 bf∧bf=befS x.zM k j∧0≤bf∧bf≤1048576∧vI x.zM (fun i x_1=>inB x_1.zW (befS x.zM k i+1) (n - 1)=true∧Smp x_1.zS) j∧Below w.heap.size w wr) (fun _ i _=>x.zM.length - (intOf i).toNat)
  case atStart=>exact⟨0,k,Nat.zero_le _,rfl,rfl,rfl,k0,k1,vI.zero,Below.refl _ _⟩
  case round=>
   obtain⟨j,bf,hk,rfl,rfl,hbf,b0,b1',hs,hbw⟩:=hrel
   have HS:=hide hs;have HB:=hide hbw;have HBF:=hide hbf;clear hs hbw hbf
   have p0:wr.cell? ⟨b,o,none⟩=some (.string x.zV):=(HB.out.cell HL.out).trans (HCC.out 0 _ rfl)
   have p1:wr.cell? ⟨b,o+1,none⟩=some (.int .i64 x.zI):=(HB.out.cell HL.out).trans (HCC.out 1 _ rfl)
   have p2:wr.cell? ⟨b,o+2,none⟩=some (.slice va2 x.zM.length vc2):=(HB.out.cell HL.out).trans (HCC.out 2 _ rfl)
   have lb:b<wr.heap.size:=lL HL.out HB.out.size
   by_cases hlt:j<x.zM.length
   rotate_left
   ·have hall:=hide (HS.out.all (by omega));clear HS
    go_wp2
    go_ret
    exact⟨yI (xA ⟨Q1.out,q2,⟨hall.out,fun h=>absurd h ZL.out,fun _=>⟨by have:=ZZ.out;omega,Q3.out⟩⟩⟩).symm,HB.out⟩
   have hgk:=gE hlt
   obtain⟨b1,off,csy,hA,hb1,hcs,hcell⟩:=HX2.out j x.zM[j] hgk
   subst hA
   generalize x.zM[j]=y at *
   have HG:=hide hgk;clear hgk
   have HAy:=hide (T.at_elem (o:=off+j * 2) hb1 (show T.rds w y.fs csy by simpa only[xM.t,T.rd] using hcs) hcell (by omega));clear hcs hcell
   obtain⟨_,csy',hry,hcy⟩:=HAy.out
   obtain rfl:=xM.yO hry
   have cy0:wr.cell? ⟨b1,off+j * 2,none⟩=some (.int .i64 y.zW):=(HB.out.cell hb1).trans (hcy 0 _ rfl)
   have cy1:wr.cell? ⟨b1,off+j * 2+1,none⟩=some (.int .i64 y.zS):=(HB.out.cell hb1).trans (hcy 1 _ rfl)
   have hq1:b1<wr.heap.size:=lL hb1 HB.out.size
   clear hry hcy
   by_cases s1:inB y.zW (bf+1) (n - 1)=true
   rotate_left
   ·have s1':inB y.zW (bf+1) (n - 1)=false:=(by simpa using s1)
    go_wp2_with (first|(go_at_call 87;refine(xX _ _ _ _).mono ?_;rintro e w' ⟨rfl,rfl⟩)|(go_at_call 158;refine(wG _ _).mono ?_;rintro e w' ⟨rfl,rfl⟩))
    go_ret
    exact⟨yI (yZ fun h=>by have:=(h.sends.each j y HG.out).1;rw[←HBF.out] at this;exact s1 this).symm,HB.out⟩
   have i1:=xC.1 s1;have S1:=hide s1
   by_cases s2:Smp y.zS
   rotate_left
   ·have s2':decide (Smp y.zS)=false:=decide_eq_false s2;have S2:=hide s2;clear s2
    go_wp2_with (first|(go_at_call 87;refine(xX _ _ _ _).mono ?_;rintro e w' ⟨rfl,rfl⟩)|(go_at_call 158;refine(wG _ _).mono ?_;rintro e w' ⟨rfl,rfl⟩))
    go_ret
    exact⟨yI (yZ fun h=>S2.out (h.sends.each j y HG.out).2).symm,HB.out⟩
   have s2':decide (Smp y.zS)=true:=decide_eq_true s2;have S2:=hide s2;clear s2
   go_wp2_with (first|(go_at_call 87;refine(xX _ _ _ _).mono ?_;rintro e w' ⟨rfl,rfl⟩)|(go_at_call 158;refine(wG _ _).mono ?_;rintro e w' ⟨rfl,rfl⟩))
   go_roundw
   case rel=>exact⟨j+1,y.zW,by omega,by go_num,rfl,(befS_succ HG.out).symm,by omega,by omega,HS.out.step HG.out ⟨by rw[←HBF.out];exact S1.out,S2.out⟩,HB.out⟩
   case measure=>simp[intOf];omega
theorem c_l26Ok (x:xU) (b o:Nat) (w:World) (hn:x.zC.length≤1048576) (h:T.at w x.fs b o):Calls Tryz.prog 122 #[.pointer (some ⟨b,o,none⟩)] w fun e w'=>e= .returned (.bool (tf (vU x)))∧Below w.heap.size w w':=by
 have HAT:=hide h
 obtain⟨hlt0,cs,hr,hc⟩:=h
 obtain⟨v0,rfl,h0⟩:=xU.yO hr
 clear hr
 have R0:=hide h0;obtain⟨va0,vc0,rfl,vl0,vm0,vx0⟩:=T.yN h0
 have HX0:=hide vx0;clear vx0 h0
 have HL:=hide hlt0;have HCC:=hide hc;have HB0:=hide (Below.refl w.heap.size w);clear hlt0 hc
 have p0:w.cell? ⟨b,o,none⟩=some (.slice va0 x.zC.length vc0):=(HB0.out.cell HL.out).trans (HCC.out 0 _ rfl)
 have lb:b<w.heap.size:=lL HL.out HB0.out.size
 go_enter Tryz.func122,Tryz.ntmps122
 by_cases q1:inB (x.zC.length:Int) 1 8=true
 rotate_left
 ·have q1':inB (x.zC.length:Int) 1 8=false:=(by simpa using q1)
  go_wp2_with (go_at_call 87;refine(xX _ _ _ _).mono ?_;rintro e w' ⟨rfl,rfl⟩)
  go_ret
  exact⟨yI (yZ fun h=>q1 (xC.2 ⟨by have:=h.some_;omega,by have:=h.few;omega⟩)).symm,HB0.out⟩
 have i1:=xC.1 q1
 go_wp2_with (go_at_call 87;refine(xX _ _ _ _).mono ?_;rintro e w' ⟨rfl,rfl⟩)
 clear p0 lb
 go_loopw [4] (fun i wr=> ∃ k:Nat,k≤x.zC.length∧i= .int .i64 k∧vI x.zC (fun i x_1=>StripOk x_1 (i:Int) (x.zC.length:Int)∧ ∀ j y,j<i→x.zC[j]?=some y→y.zV≠x_1.zV) k∧Below w.heap.size w wr) (fun i _=>x.zC.length - (intOf i).toNat)
 case atStart=>exact⟨0,Nat.zero_le _,rfl,vI.zero,Below.refl _ _⟩
 case round=>
  obtain⟨k,hk,rfl,hs,hbw⟩:=hrel
  have HS:=hide hs;have HW:=hide hbw;have HB:=hide (yJ HB0.out HB0.out.size hbw);clear hs hbw
  have p0:wr.cell? ⟨b,o,none⟩=some (.slice va0 x.zC.length vc0):=(HB.out.cell HL.out).trans (HCC.out 0 _ rfl)
  have lb:b<wr.heap.size:=lL HL.out HB.out.size
  by_cases hlt:k<x.zC.length
  rotate_left
  ·have hall:=hide (HS.out.all (by omega));clear HS
   go_wp2
   go_ret
   exact⟨yI (xA ⟨by omega,by omega,hall.out⟩).symm,HB.out⟩
  have hgk:=gE hlt
  obtain⟨b1,off,csy,hA,hb1,hcs,hcell⟩:=HX0.out k x.zC[k] hgk
  subst hA
  generalize x.zC[k]=y at *
  have HG:=hide hgk;clear hgk
  have HAy:=hide (T.at_elem (o:=off+k * 3) hb1 (show T.rds w y.fs csy by simpa only[xH.t,T.rd] using hcs) hcell (by omega));clear hcs hcell
  have n1:((k:Int)<(x.zC.length:Int)):=by omega
  go_wp2_with fail
  refine(c_l26Strip y _ _ (k:Int) (x.zC.length:Int) _ (by omega) (by omega) (by omega) (by omega) (T.at_below HAy.out HB.out)).mono ?_;rintro e w3 ⟨rfl,hb3⟩
  have HW3:=hide (yJ HW.out HW.out.size hb3);have HB3:=hide (yJ HB.out HB.out.size hb3);clear hb3 p0 lb
  have p0:w3.cell? ⟨b,o,none⟩=some (.slice (some ⟨b1,off,none⟩) x.zC.length vc0):=(HB3.out.cell HL.out).trans (HCC.out 0 _ rfl)
  have lb:b<w3.heap.size:=lL HL.out HB3.out.size
  by_cases q2:StripOk y (k:Int) (x.zC.length:Int)
  rotate_left
  ·rw[yZ q2];have Q2:=hide q2;clear q2
   go_wp2
   go_ret
   exact⟨yI (yZ fun h=>Q2.out (h.each k y HG.out).1).symm,HB3.out⟩
  rw[xA q2];have Q2:=hide q2;clear q2
  go_wp2
  clear p0 lb
  go_loopw [5] (fun i ws=> ∃ m:Nat,m≤k∧i= .int .i64 m∧(∀ j z,j<m→x.zC[j]?=some z→z.zV≠y.zV)∧Below w3.heap.size w3 ws) (fun i _=>k - (intOf i).toNat)
  case atStart=>exact⟨0,Nat.zero_le _,rfl,fun j z h=>absurd h (by omega),Below.refl _ _⟩
  case round=>
   obtain⟨m,hm,rfl,hn2,hbs⟩:=hrel
   have HN:=hide hn2;have HW4:=hide (yJ HW3.out HW3.out.size hbs);have HB4:=hide (yJ HB3.out HB3.out.size hbs);have HS4:=hide hbs;clear hn2 hbs
   have p0:wr.cell? ⟨b,o,none⟩=some (.slice (some ⟨b1,off,none⟩) x.zC.length vc0):=(HB4.out.cell HL.out).trans (HCC.out 0 _ rfl)
   have lb:b<wr.heap.size:=lL HL.out HB4.out.size
   by_cases hltm:m<k
   rotate_left
   ·obtain rfl:m=k:=by omega
    go_wp2
    go_roundw
    case rel=>exact⟨m+1,by omega,by go_num,HS.out.step HG.out ⟨Q2.out,HN.out⟩,HW4.out⟩
    case measure=>simp[intOf];omega
   have hltz:m<x.zC.length:=by omega
   have hgk:=gE hltz
   obtain⟨b2,off2,csz,hA,hb2,hcs,hcell⟩:=HX0.out m x.zC[m] hgk
   obtain⟨rfl,rfl⟩:b1=b2∧off=off2:=by injection hA with hA;injection hA with e1 e2;exact⟨e1,e2⟩
   clear hA
   generalize x.zC[m]=z at *
   have HJ:=hide hgk;clear hgk
   have HAz:=hide (T.at_elem (o:=off+m * 3) hb2 (show T.rds w z.fs csz by simpa only[xH.t,T.rd] using hcs) hcell (by omega));clear hcs hcell
   obtain⟨_,csy',hry,hcy⟩:=HAy.out
   obtain⟨_,rfl,_⟩:=xH.yO hry
   have cy0:wr.cell? ⟨b1,off+k * 3,none⟩=some (.string y.zV):=(HB4.out.cell hb1).trans (hcy 0 _ rfl)
   clear hry hcy
   obtain⟨_,csz',hrz,hcz⟩:=HAz.out
   obtain⟨_,rfl,_⟩:=xH.yO hrz
   have cz0:wr.cell? ⟨b1,off+m * 3,none⟩=some (.string z.zV):=(HB4.out.cell hb1).trans (hcz 0 _ rfl)
   clear hrz hcz
   have n2:((m:Int)<(x.zC.length:Int)):=by omega
   by_cases q3:z.zV=y.zV
   ·have e3:(z.zV.toList == y.zV.toList)=true:=by rw[str_eq];exact decide_eq_true q3
    have Q3:=hide q3;clear q3
    go_wp2
    have g0:=yG p0
    have g1:=yG cy0
    have g2:=yG cz0
    refine xD (by kernel_rfl) (by kernel_rfl) ?_
    repeat(first|go_big_quiet_skip|(go_big_quiet_want;go_big_quiet_op;first|go_big_quiet_on|(apply Exists.intro;refine⟨fun _=>?_,?_⟩;(· (fail));go_big_quiet_on)))
    refine wpQuiet_nil ?_
    rintro w9 ⟨uu,rfl⟩
    have hb9:=yH wr uu
    generalize bel wr uu=w9 at *
    have HB9:=hide (yJ HB4.out HB4.out.size hb9);clear g0 g1 g2
    go_wp2
    go_ret
    exact⟨yI (yZ fun h=>(h.each k y HG.out).2 m z hltm HJ.out Q3.out).symm,HB9.out⟩
   have e3:(z.zV.toList == y.zV.toList)=false:=by rw[str_eq];exact decide_eq_false q3
   have Q3:=hide q3;clear q3
   go_wp2
   have g0:=yG p0
   have g1:=yG cy0
   have g2:=yG cz0
   refine xD (by kernel_rfl) (by kernel_rfl) ?_
   repeat(first|go_big_quiet_skip|(go_big_quiet_want;go_big_quiet_op;first|go_big_quiet_on|(apply Exists.intro;refine⟨fun _=>?_,?_⟩;(· (fail));go_big_quiet_on)))
   refine wpQuiet_nil ?_
   rintro w9 ⟨uu,rfl⟩
   have hb9:=yH wr uu
   generalize bel wr uu=w9 at *
   have HB9:=hide (yJ HB4.out HB4.out.size hb9);clear g0 g1 g2
   have HS9:=hide (yJ HS4.out HS4.out.size hb9);clear hb9
   go_wp2
   go_roundw
   case rel=>exact⟨m+1,by omega,by go_num,fun j z' h hz=>by
    by_cases e:j=m
    ·subst e;rw[HJ.out] at hz;injection hz with hz;subst hz;exact Q3.out
    ·exact HN.out j z' (by omega) hz,HS9.out⟩
   case measure=>simp[intOf];omega
end
end Go.Proofs.YtoibekfhepnedaaGreat
