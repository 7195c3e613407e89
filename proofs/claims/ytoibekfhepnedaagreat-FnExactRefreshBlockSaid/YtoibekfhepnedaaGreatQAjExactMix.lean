/- Contracts: which nested data are the same. Contracts: what is valid, by the reference: strips, mixers. Contracts: what is valid, by the reference: tables, nodes. -/
import Derived.Test.YtoibekfhepnedaaGreatQAiExactMix
import Derived.Laws.StructEq
import Derived.Test.YtoibekfhepnedaaGreatQAfExactMix
import Derived.Test.YtoibekfhepnedaaGreatQAdExactMix
set_option linter.unusedVariables false
set_option linter.unusedSimpArgs false
set_option maxHeartbeats 2000000
set_option maxRecDepth 20000
namespace Go.Proofs.YtoibekfhepnedaaGreat
section
open Go.RowKit
theorem c_same (v u:Value) (xs ys:List Int) (w:World) (hr1:RdI w v xs) (hr2:RdI w u ys):Calls Tryz.prog 258 #[v,u] w fun e w'=>e= .returned (.bool (decide (xs=ys)))∧Dr w w':=by
 obtain⟨A1,cap1,rfl,hl1,hc1,hx1⟩:=hr1.open_;obtain⟨A2,cap2,rfl,hl2,hc2,hx2⟩:=hr2.open_;have HX1:=xN hx1;have HX2:=xN hx2;clear hx1 hx2 hr1 hr2;by_cases hll:xs.length=ys.length
 ·have hb:((xs.length:Int) != (ys.length:Int))=false:=by simp[hll]
  have HL:=xN hll;clear hll
  go_enter Tryz.func258,Tryz.ntmps258
  go_wp2
  go_loopw [14] (fun i wr=> ∃ k:Nat,k≤xs.length∧i= .int .i64 k∧xs.take k=ys.take k∧Dr w wr) (fun i _=>xs.length - (intOf i).toNat)
  case atStart=>exact⟨0,Nat.zero_le _,rfl,rfl,Dr.refl _⟩
  case round=>
   obtain⟨k,hk,rfl,hs,nr,rfl⟩:=hrel;have HS:=xN hs;clear hs;by_cases hlt:k<xs.length
   ·have hlt2:k<ys.length:=by have:=HL.out;omega
    obtain⟨b1,off1,rfl,hb1,hcell1⟩:=HX1.out k xs[k] (gE hlt);obtain⟨b2,off2,rfl,hb2,hcell2⟩:=HX2.out k ys[k] (gE hlt2);by_cases he:xs[k]=ys[k]
    ·have hd:(xs[k] != ys[k])=false:=by simp[he]
     have HE:=xN he;clear he;go_wp2
     go_roundw
     case rel=>exact⟨k+1,by omega,by go_num,wLz HS.out (gE hlt) (by rw[HE.out];exact gE hlt2),(by repeat(first|exact Dr.refl _|exact⟨_,rfl⟩|refine Dr.drewN ?_ _|refine Dr.drew ?_))⟩
     case measure=>simp[intOf];omega
    ·have hd:(xs[k] != ys[k])=true:=by simp[he]
     have HE:=xN he;clear he;go_wp2;go_ret
     exact⟨by simp[ne_at (gE hlt) (gE hlt2) HE.out],(by repeat(first|exact Dr.refl _|exact⟨_,rfl⟩|refine Dr.drewN ?_ _|refine Dr.drew ?_))⟩
   ·go_wp2
    go_ret
    exact⟨by simp[xTz (k:=k) zM HL.out HS.out],(by repeat(first|exact Dr.refl _|exact⟨_,rfl⟩|refine Dr.drewN ?_ _|refine Dr.drew ?_))⟩
 ·have hb:((xs.length:Int) != (ys.length:Int))=true:=by simp;omega
  have hne:xs≠ys:=fun e=>hll (by rw[e])
  have HN:=xN hne;clear hll hne
  go_enter Tryz.func258,Tryz.ntmps258
  go_wp2;go_ret
  exact⟨by simp[HN.out],Dr.refl _⟩
theorem zHy (v u:Value) (xs ys:List (List Int)) (w:World) (hr:T.rd w (T.sl 26 1 (xs.map (T.ints 2))) [v]) (ht:T.rd w (T.sl 26 1 (ys.map (T.ints 2))) [u]):
  Calls Tryz.prog 257 #[v,u] w fun e w'=>e= .returned (.bool (decide (xs=ys)))∧Dr w w':=by
 obtain⟨A1,cap1,rfl,hl1,hc1,hx1⟩:=T.yV hr;obtain⟨A2,cap2,rfl,hl2,hc2,hx2⟩:=T.yV ht;rw[List.length_map] at hl1 hl2 ⊢;rw[List.length_map];have HX1:=xN hx1;have HX2:=xN hx2;clear hx1 hx2 hr ht;by_cases hll:xs.length=ys.length
 ·have hb:((xs.length:Int) != (ys.length:Int))=false:=by simp[hll]
  have HL:=xN hll;clear hll
  go_enter Tryz.func257,Tryz.ntmps257
  go_wp2
  go_loopw [14] (fun i wr=> ∃ k:Nat,k≤xs.length∧i= .int .i64 k∧xs.take k=ys.take k∧Dr w wr) (fun i _=>xs.length - (intOf i).toNat)
  case atStart=>exact⟨0,Nat.zero_le _,rfl,rfl,Dr.refl _⟩
  case round=>
   obtain⟨k,hk,rfl,hs,nr,rfl⟩:=hrel;have HS:=xN hs;clear hs;by_cases hlt:k<xs.length
   ·have hlt2:k<ys.length:=by have:=HL.out;omega
    obtain⟨b1,o1,cs1,rfl,hb1,hcs1,hcell1⟩:=HX1.out k (T.ints 2 xs[k]) (by rw[List.getElem?_map,gE hlt];rfl);obtain⟨b2,o2,cs2,rfl,hb2,hcs2,hcell2⟩:=HX2.out k (T.ints 2 ys[k]) (by rw[List.getElem?_map,gE hlt2];rfl);have hg1:=gE hlt;have hg2:=gE hlt2;generalize xs[k]=x at *;generalize ys[k]=y at *;have HG1:=xN hg1;have HG2:=xN hg2;clear hg1 hg2;obtain⟨v3,rfl⟩:=T.rd_one hcs1;obtain⟨v4,rfl⟩:=T.rd_one hcs2;have d0:=hcell1 0 v3 rfl;have g0:=hcell2 0 v4 rfl;rw[Nat.mul_one,Nat.add_zero] at d0 g0;have R1:=xN (show RdI (w.drewN nr) v3 x from Rd.drewN (T.xB.1 hcs1) nr);have R2:=xN (show RdI (w.drewN nr) v4 y from Rd.drewN (T.xB.1 hcs2) nr);clear hcs1 hcs2 hcell1 hcell2;by_cases he:x=y
    ·have hde:decide (x=y)=true:=decide_eq_true he
     have HE:=xN he;clear he;go_wp2_with (go_at_call 258;refine(c_same _ _ x y _ R1.out R2.out).mono ?_;rintro e w3 ⟨rfl,hd3⟩;rw[hde])
     go_roundw
     case rel=>exact⟨k+1,by omega,by go_num,wLz HS.out HG1.out (by rw[HE.out];exact HG2.out),(Dr.drewN (Dr.refl _) _).trans hd3⟩
     case measure=>simp[intOf];omega
    ·have hde:decide (x=y)=false:=decide_eq_false he
     have HE:=xN he;clear he;go_wp2_with (go_at_call 258;refine(c_same _ _ x y _ R1.out R2.out).mono ?_;rintro e w3 ⟨rfl,hd3⟩;rw[hde])
     go_ret
     exact⟨by simp[ne_at HG1.out HG2.out HE.out],(Dr.drewN (Dr.refl _) _).trans hd3⟩
   ·go_wp2
    go_ret
    exact⟨by simp[xTz (k:=k) zM HL.out HS.out],(by repeat(first|exact Dr.refl _|exact⟨_,rfl⟩|refine Dr.drewN ?_ _|refine Dr.drew ?_))⟩
 ·have hb:((xs.length:Int) != (ys.length:Int))=true:=by simp;omega
  have hne:xs≠ys:=fun e=>hll (by rw[e])
  have HN:=xN hne;clear hll hne
  go_enter Tryz.func257,Tryz.ntmps257
  go_wp2;go_ret
  exact⟨by simp[HN.out],Dr.refl _⟩
theorem c_iSameNode (a b:xR) (v3:Value) (u3:Value) (w:World) (r3:T.rd w (T.ints 2 a.zK) [v3]) (t3:T.rd w (T.ints 2 b.zK) [u3]):
  Calls Tryz.prog 259 #[.agg #[.int .i64 a.zG,.int .i64 a.fA,.int .i64 a.fB,v3],.agg #[.int .i64 b.zG,.int .i64 b.fA,.int .i64 b.fB,u3]] w fun e w'=>e= .returned (.bool (decide (a=b)))∧Below w.heap.size w w':=by
 have hab:decide (a=b)=(decide (a.zG=b.zG) && (decide (a.fA=b.fA) && (decide (a.fB=b.fB) && (decide (a.zK=b.zK))))):=by
  obtain⟨x0,x1,x2,x3⟩:=a;obtain⟨y0,y1,y2,y3⟩:=b;rw[Bool.eq_iff_iff];simp only[xR.mk.injEq,decide_eq_true_eq,Bool.and_eq_true]
  try (constructor<;>(intro h;simp[h]))
 have R3:=xN r3;have Q3:=xN t3;obtain⟨va3,vl3,vc3,rfl⟩:=T.xD r3;obtain⟨ua3,ul3,uc3,rfl⟩:=T.xD t3;clear r3 t3;have HAB:=xN hab;clear hab;have HB0:=xN (show Below w.heap.size w ((w.alloc (.cells #[.int .i64 a.zG,.int .i64 a.fA,.int .i64 a.fB,(.slice va3 vl3 vc3)] 167)).alloc (.cells #[.int .i64 b.zG,.int .i64 b.fA,.int .i64 b.fB,(.slice ua3 ul3 uc3)] 167)) from(zR.alloc zJ _).alloc zQ _);have HKA0:=xN ((Bk.born w 167 #[.int .i64 a.zG,.int .i64 a.fA,.int .i64 a.fB,(.slice va3 vl3 vc3)]).alloc (.cells #[.int .i64 b.zG,.int .i64 b.fA,.int .i64 b.fB,(.slice ua3 ul3 uc3)] 167));have HKB0:=xN (Bk.born1' w (.cells #[.int .i64 a.zG,.int .i64 a.fA,.int .i64 a.fB,(.slice va3 vl3 vc3)] 167) 167 #[.int .i64 b.zG,.int .i64 b.fA,.int .i64 b.fB,(.slice ua3 ul3 uc3)]);by_cases h0:a.zG=b.zG
 ·have e0:(a.zG == b.zG)=true:=by simp[h0]
  have H0:=xN h0;clear h0;by_cases h1:a.fA=b.fA
  ·have e1:(a.fA == b.fA)=true:=by simp[h1]
   have H1:=xN h1;clear h1;by_cases h2:a.fB=b.fB
   ·have e2:(a.fB == b.fB)=true:=by simp[h2]
    have H2:=xN h2;clear h2;by_cases h3:a.zK=b.zK
    ·have c3:decide (a.zK=b.zK)=true:=by simp[h3]
     have H3:=xN h3;clear h3
     go_enter Tryz.func259,Tryz.ntmps259
     go_wp2_with fail
     refine(c_same _ _ a.zK b.zK _ (T.xB.1 (T.yM R3.out HB0.out)) (T.xB.1 (T.yM Q3.out HB0.out))).mono ?_;rintro e w1 ⟨rfl,hd⟩;rw[c3];have hb:Below (((w.alloc (.cells #[.int .i64 a.zG,.int .i64 a.fA,.int .i64 a.fB,(.slice va3 vl3 vc3)] 167)).alloc (.cells #[.int .i64 b.zG,.int .i64 b.fA,.int .i64 b.fB,(.slice ua3 ul3 uc3)] 167))).heap.size ((w.alloc (.cells #[.int .i64 a.zG,.int .i64 a.fA,.int .i64 a.fB,(.slice va3 vl3 vc3)] 167)).alloc (.cells #[.int .i64 b.zG,.int .i64 b.fA,.int .i64 b.fB,(.slice ua3 ul3 uc3)] 167)) w1:=by first|exact hd.to_below _|exact hd
     have HKA1:=xN (HKA0.out.below hb HKA0.out.lt);have HKB1:=xN (HKB0.out.below hb HKB0.out.lt);have HB1:=xN (yQ HB0.out HB0.out.size hb);clear hb hd;have ka1:=HKA1.out.cell;have kb1:=HKB1.out.cell;go_wp2;go_ret
     exact⟨yP (by rw[HAB.out];simp[H0.out,H1.out,H2.out,H3.out]),HB1.out⟩
    ·have c3:decide (a.zK=b.zK)=false:=by simp[h3]
     have H3:=xN h3;clear h3
     go_enter Tryz.func259,Tryz.ntmps259
     go_wp2_with fail
     refine(c_same _ _ a.zK b.zK _ (T.xB.1 (T.yM R3.out HB0.out)) (T.xB.1 (T.yM Q3.out HB0.out))).mono ?_;rintro e w1 ⟨rfl,hd⟩;rw[c3];have hb:Below (((w.alloc (.cells #[.int .i64 a.zG,.int .i64 a.fA,.int .i64 a.fB,(.slice va3 vl3 vc3)] 167)).alloc (.cells #[.int .i64 b.zG,.int .i64 b.fA,.int .i64 b.fB,(.slice ua3 ul3 uc3)] 167))).heap.size ((w.alloc (.cells #[.int .i64 a.zG,.int .i64 a.fA,.int .i64 a.fB,(.slice va3 vl3 vc3)] 167)).alloc (.cells #[.int .i64 b.zG,.int .i64 b.fA,.int .i64 b.fB,(.slice ua3 ul3 uc3)] 167)) w1:=by first|exact hd.to_below _|exact hd
     have HKA1:=xN (HKA0.out.below hb HKA0.out.lt);have HKB1:=xN (HKB0.out.below hb HKB0.out.lt);have HB1:=xN (yQ HB0.out HB0.out.size hb);clear hb hd;have ka1:=HKA1.out.cell;have kb1:=HKB1.out.cell;go_wp2;go_ret
     exact⟨yP (by rw[HAB.out];simp[H0.out,H1.out,H2.out,H3.out]),HB1.out⟩
   ·have e2:(a.fB == b.fB)=false:=by simp[h2]
    have H2:=xN h2;clear h2
    go_enter Tryz.func259,Tryz.ntmps259
    go_wp2;go_ret
    exact⟨yP (by rw[HAB.out];simp[H0.out,H1.out,H2.out]),HB0.out⟩
  ·have e1:(a.fA == b.fA)=false:=by simp[h1]
   have H1:=xN h1;clear h1
   go_enter Tryz.func259,Tryz.ntmps259
   go_wp2;go_ret
   exact⟨yP (by rw[HAB.out];simp[H0.out,H1.out]),HB0.out⟩
 ·have e0:(a.zG == b.zG)=false:=by simp[h0]
  have H0:=xN h0;clear h0
  go_enter Tryz.func259,Tryz.ntmps259
  go_wp2;go_ret
  exact⟨yP (by rw[HAB.out];simp[H0.out]),HB0.out⟩
end
section
open Go.RowKit
theorem SendsOk.le {l:List xV} {p n:Int} (h:SendsOk l p n):l.length≤4:=by
 by_cases e:p=n - 1
 ·have:=h.last e;omega
 ·exact(h.few e).2
theorem c_l26Strip (x:xP) (b o:Nat) (k:Int) (n:Int) (w:World) (k0:0≤k) (k1:k≤1048576) (n0:0≤n) (n1:n≤1048576) (h:T.at w x.fs b o):Calls Tryz.prog 178 #[.pointer (some ⟨b,o,none⟩),.int .i64 k,.int .i64 n] w fun e w'=>e= .returned (.bool (tf (StripOk x k n)))∧Below w.heap.size w w':=by
 have HAT:=xN h;obtain⟨hlt0,cs,hr,hc⟩:=h;obtain⟨v2,rfl,h2⟩:=xP.yV hr;clear hr;obtain⟨va2,vc2,rfl,vl2,vm2,R2,HX2⟩:=oG h2;clear h2;have HL:=xN hlt0;have HCC:=xN hc;have HB0:=xN (Below.refl w.heap.size w);clear hlt0 hc;have p0:w.cell? ⟨b,o,none⟩=some (.string x.yE):=(HB0.out.cell HL.out).trans (HCC.out 0 _ rfl);have p1:w.cell? ⟨b,o+1,none⟩=some (.int .i64 x.zU):=(HB0.out.cell HL.out).trans (HCC.out 1 _ rfl);have p2:w.cell? ⟨b,o+2,none⟩=some (.slice va2 x.zY.length vc2):=(HB0.out.cell HL.out).trans (HCC.out 2 _ rfl);have lb:b<w.heap.size:=zW HL.out HB0.out.size
 go_enter Tryz.func178,Tryz.ntmps178
 by_cases q1:NameOk x.yE
 rotate_left
 ·have a1:=xH q1;have Q1:=xN q1;clear q1
  go_wp2_with (first|(go_at_call 230;refine(xLz _ _).mono ?_;rintro e w' ⟨rfl,rfl⟩;rw[a1])|(go_at_call 87;refine(wI _ _ _ _).mono ?_;rintro e w' ⟨rfl,rfl⟩)|(go_at_call 158;refine(wT _ _).mono ?_;rintro e w' ⟨rfl,rfl⟩))
  go_ret
  exact⟨yP (xH fun h=>Q1.out h.name).symm,HB0.out⟩
 have a1:=xI q1;have Q1:=xN q1;clear q1;by_cases q2:inB x.zU 0 32=true
 rotate_left
 ·have q2':inB x.zU 0 32=false:=(by simpa using q2)
  go_wp2_with (first|(go_at_call 230;refine(xLz _ _).mono ?_;rintro e w' ⟨rfl,rfl⟩;rw[a1])|(go_at_call 87;refine(wI _ _ _ _).mono ?_;rintro e w' ⟨rfl,rfl⟩)|(go_at_call 158;refine(wT _ _).mono ?_;rintro e w' ⟨rfl,rfl⟩))
  go_ret
  exact⟨yP (xH fun h=>q2 h.latency).symm,HB0.out⟩
 skip
 by_cases q3:x.zY.length≤4
 rotate_left
 ·skip
  go_wp2_with (first|(go_at_call 230;refine(xLz _ _).mono ?_;rintro e w' ⟨rfl,rfl⟩;rw[a1])|(go_at_call 87;refine(wI _ _ _ _).mono ?_;rintro e w' ⟨rfl,rfl⟩)|(go_at_call 158;refine(wT _ _).mono ?_;rintro e w' ⟨rfl,rfl⟩))
  go_ret
  exact⟨yP (xH fun h=>q3 h.sends.le).symm,HB0.out⟩
 have Q3:=xN q3;by_cases zl:k=n - 1
 ·by_cases zz:x.zY.length=0
  rotate_left
  ·have z1:((x.zY.length:Int) == 0)=false:=yZ zM;have z2:(k == n - 1)=true:=xA zl;have ZL:=xN zl;have ZZ:=xN zz;clear zl zz
   go_wp2_with (first|(go_at_call 230;refine(xLz _ _).mono ?_;rintro e w' ⟨rfl,rfl⟩;rw[a1])|(go_at_call 87;refine(wI _ _ _ _).mono ?_;rintro e w' ⟨rfl,rfl⟩)|(go_at_call 158;refine(wT _ _).mono ?_;rintro e w' ⟨rfl,rfl⟩))
   go_ret
   exact⟨yP (xH fun h=>ZZ.out (h.sends.last ZL.out)).symm,HB0.out⟩
  have z1:((x.zY.length:Int) == 0)=true:=xA zM;have z2:(k == n - 1)=true:=xA zl;have ZL:=xN zl;have ZZ:=xN zz;clear zl zz;go_wp2_with (first|(go_at_call 230;refine(xLz _ _).mono ?_;rintro e w' ⟨rfl,rfl⟩;rw[a1])|(go_at_call 87;refine(wI _ _ _ _).mono ?_;rintro e w' ⟨rfl,rfl⟩)|(go_at_call 158;refine(wT _ _).mono ?_;rintro e w' ⟨rfl,rfl⟩))
  clear p0 p1 p2 lb z1 z2
  go_loopw [7,8] (fun bv i wr=> ∃ (j:Nat) (bf:Int),j≤x.zY.length∧i= .int .i64 j∧bv= .int .i64 bf∧bf=befS x.zY k j∧0≤bf∧bf≤1048576∧vP x.zY (fun i x_1=>inB x_1.yG (befS x.zY k i+1) (n - 1)=true∧Smp x_1.yB) j∧Below w.heap.size w wr) (fun _ i _=>x.zY.length - (intOf i).toNat)
  case atStart=>exact⟨0,k,Nat.zero_le _,rfl,rfl,rfl,k0,k1,vP.zero,zR⟩
  case round=>
   obtain⟨j,bf,hk,rfl,rfl,hbf,b0,b1',hs,hbw⟩:=hrel;have HS:=xN hs;have HB:=xN hbw;have HBF:=xN hbf;clear hs hbw hbf;have p0:wr.cell? ⟨b,o,none⟩=some (.string x.yE):=(HB.out.cell HL.out).trans (HCC.out 0 _ rfl);have p1:wr.cell? ⟨b,o+1,none⟩=some (.int .i64 x.zU):=(HB.out.cell HL.out).trans (HCC.out 1 _ rfl);have p2:wr.cell? ⟨b,o+2,none⟩=some (.slice va2 x.zY.length vc2):=(HB.out.cell HL.out).trans (HCC.out 2 _ rfl);have lb:b<wr.heap.size:=zW HL.out HB.out.size;by_cases hlt:j<x.zY.length
   rotate_left
   ·have hall:=xN (HS.out.all zM);clear HS
    go_wp2;go_ret
    exact⟨yP (xI ⟨Q1.out,q2,⟨hall.out,fun _=>ZZ.out,fun h=>absurd ZL.out h⟩⟩).symm,HB.out⟩
   have hgk:=gE hlt;obtain⟨b1,off,csy,hA,hb1,hcs,hcell⟩:=HX2.out j x.zY[j] hgk;subst hA;generalize x.zY[j]=y at *;have HG:=xN hgk;clear hgk;have HAy:=xN (T.at_elem (o:=off+j * 2) hb1 (show T.rds w y.fs csy by simpa only[xV.t,T.rd] using hcs) hcell zM);clear hcs hcell;obtain⟨_,csy',hry,hcy⟩:=HAy.out;obtain rfl:=xV.yV hry;have cy0:wr.cell? ⟨b1,off+j * 2,none⟩=some (.int .i64 y.yG):=(HB.out.cell hb1).trans (hcy 0 _ rfl);have cy1:wr.cell? ⟨b1,off+j * 2+1,none⟩=some (.int .i64 y.yB):=(HB.out.cell hb1).trans (hcy 1 _ rfl);have hq1:b1<wr.heap.size:=zW hb1 HB.out.size;clear hry hcy;by_cases s1:inB y.yG (bf+1) (n - 1)=true
   rotate_left
   ·have s1':inB y.yG (bf+1) (n - 1)=false:=(by simpa using s1)
    go_wp2_with (first|(go_at_call 87;refine(wI _ _ _ _).mono ?_;rintro e w' ⟨rfl,rfl⟩)|(go_at_call 158;refine(wT _ _).mono ?_;rintro e w' ⟨rfl,rfl⟩))
    go_ret
    exact⟨yP (xH fun h=>by have:=(h.sends.each j y HG.out).1;rw[←HBF.out] at this;exact s1 this).symm,HB.out⟩
   have i1:=xK.1 s1;have S1:=xN s1;by_cases s2:Smp y.yB
   rotate_left
   ·have s2':decide (Smp y.yB)=false:=decide_eq_false s2;have S2:=xN s2;clear s2
    go_wp2_with (first|(go_at_call 87;refine(wI _ _ _ _).mono ?_;rintro e w' ⟨rfl,rfl⟩)|(go_at_call 158;refine(wT _ _).mono ?_;rintro e w' ⟨rfl,rfl⟩))
    go_ret
    exact⟨yP (xH fun h=>S2.out (h.sends.each j y HG.out).2).symm,HB.out⟩
   have s2':decide (Smp y.yB)=true:=decide_eq_true s2;have S2:=xN s2;clear s2;go_wp2_with (first|(go_at_call 87;refine(wI _ _ _ _).mono ?_;rintro e w' ⟨rfl,rfl⟩)|(go_at_call 158;refine(wT _ _).mono ?_;rintro e w' ⟨rfl,rfl⟩))
   go_roundw
   case rel=>exact⟨j+1,y.yG,by omega,by go_num,rfl,(befS_succ HG.out).symm,by omega,by omega,HS.out.step HG.out ⟨by rw[←HBF.out];exact S1.out,S2.out⟩,HB.out⟩
   case measure=>simp[intOf];omega
 ·by_cases zz:x.zY.length=0
  ·have z1:((x.zY.length:Int) == 0)=true:=xA zM;have z2:(k == n - 1)=false:=yZ zl;have ZL:=xN zl;have ZZ:=xN zz;clear zl zz
   go_wp2_with (first|(go_at_call 230;refine(xLz _ _).mono ?_;rintro e w' ⟨rfl,rfl⟩;rw[a1])|(go_at_call 87;refine(wI _ _ _ _).mono ?_;rintro e w' ⟨rfl,rfl⟩)|(go_at_call 158;refine(wT _ _).mono ?_;rintro e w' ⟨rfl,rfl⟩))
   go_ret
   exact⟨yP (xH fun h=>by have:=(h.sends.few ZL.out).1;have:=ZZ.out;omega).symm,HB0.out⟩
  have z1:((x.zY.length:Int) == 0)=false:=yZ zM;have z2:(k == n - 1)=false:=yZ zl;have ZL:=xN zl;have ZZ:=xN zz;clear zl zz;go_wp2_with (first|(go_at_call 230;refine(xLz _ _).mono ?_;rintro e w' ⟨rfl,rfl⟩;rw[a1])|(go_at_call 87;refine(wI _ _ _ _).mono ?_;rintro e w' ⟨rfl,rfl⟩)|(go_at_call 158;refine(wT _ _).mono ?_;rintro e w' ⟨rfl,rfl⟩))
  clear p0 p1 p2 lb z1 z2
  go_loopw [7,8] (fun bv i wr=> ∃ (j:Nat) (bf:Int),j≤x.zY.length∧i= .int .i64 j∧bv= .int .i64 bf∧bf=befS x.zY k j∧0≤bf∧bf≤1048576∧vP x.zY (fun i x_1=>inB x_1.yG (befS x.zY k i+1) (n - 1)=true∧Smp x_1.yB) j∧Below w.heap.size w wr) (fun _ i _=>x.zY.length - (intOf i).toNat)
  case atStart=>exact⟨0,k,Nat.zero_le _,rfl,rfl,rfl,k0,k1,vP.zero,zR⟩
  case round=>
   obtain⟨j,bf,hk,rfl,rfl,hbf,b0,b1',hs,hbw⟩:=hrel;have HS:=xN hs;have HB:=xN hbw;have HBF:=xN hbf;clear hs hbw hbf;have p0:wr.cell? ⟨b,o,none⟩=some (.string x.yE):=(HB.out.cell HL.out).trans (HCC.out 0 _ rfl);have p1:wr.cell? ⟨b,o+1,none⟩=some (.int .i64 x.zU):=(HB.out.cell HL.out).trans (HCC.out 1 _ rfl);have p2:wr.cell? ⟨b,o+2,none⟩=some (.slice va2 x.zY.length vc2):=(HB.out.cell HL.out).trans (HCC.out 2 _ rfl);have lb:b<wr.heap.size:=zW HL.out HB.out.size;by_cases hlt:j<x.zY.length
   rotate_left
   ·have hall:=xN (HS.out.all zM);clear HS
    go_wp2;go_ret
    exact⟨yP (xI ⟨Q1.out,q2,⟨hall.out,fun h=>absurd h ZL.out,fun _=>⟨by have:=ZZ.out;omega,Q3.out⟩⟩⟩).symm,HB.out⟩
   have hgk:=gE hlt;obtain⟨b1,off,csy,hA,hb1,hcs,hcell⟩:=HX2.out j x.zY[j] hgk;subst hA;generalize x.zY[j]=y at *;have HG:=xN hgk;clear hgk;have HAy:=xN (T.at_elem (o:=off+j * 2) hb1 (show T.rds w y.fs csy by simpa only[xV.t,T.rd] using hcs) hcell zM);clear hcs hcell;obtain⟨_,csy',hry,hcy⟩:=HAy.out;obtain rfl:=xV.yV hry;have cy0:wr.cell? ⟨b1,off+j * 2,none⟩=some (.int .i64 y.yG):=(HB.out.cell hb1).trans (hcy 0 _ rfl);have cy1:wr.cell? ⟨b1,off+j * 2+1,none⟩=some (.int .i64 y.yB):=(HB.out.cell hb1).trans (hcy 1 _ rfl);have hq1:b1<wr.heap.size:=zW hb1 HB.out.size;clear hry hcy;by_cases s1:inB y.yG (bf+1) (n - 1)=true
   rotate_left
   ·have s1':inB y.yG (bf+1) (n - 1)=false:=(by simpa using s1)
    go_wp2_with (first|(go_at_call 87;refine(wI _ _ _ _).mono ?_;rintro e w' ⟨rfl,rfl⟩)|(go_at_call 158;refine(wT _ _).mono ?_;rintro e w' ⟨rfl,rfl⟩))
    go_ret
    exact⟨yP (xH fun h=>by have:=(h.sends.each j y HG.out).1;rw[←HBF.out] at this;exact s1 this).symm,HB.out⟩
   have i1:=xK.1 s1;have S1:=xN s1;by_cases s2:Smp y.yB
   rotate_left
   ·have s2':decide (Smp y.yB)=false:=decide_eq_false s2;have S2:=xN s2;clear s2
    go_wp2_with (first|(go_at_call 87;refine(wI _ _ _ _).mono ?_;rintro e w' ⟨rfl,rfl⟩)|(go_at_call 158;refine(wT _ _).mono ?_;rintro e w' ⟨rfl,rfl⟩))
    go_ret
    exact⟨yP (xH fun h=>S2.out (h.sends.each j y HG.out).2).symm,HB.out⟩
   have s2':decide (Smp y.yB)=true:=decide_eq_true s2;have S2:=xN s2;clear s2;go_wp2_with (first|(go_at_call 87;refine(wI _ _ _ _).mono ?_;rintro e w' ⟨rfl,rfl⟩)|(go_at_call 158;refine(wT _ _).mono ?_;rintro e w' ⟨rfl,rfl⟩))
   go_roundw
   case rel=>exact⟨j+1,y.yG,by omega,by go_num,rfl,(befS_succ HG.out).symm,by omega,by omega,HS.out.step HG.out ⟨by rw[←HBF.out];exact S1.out,S2.out⟩,HB.out⟩
   case measure=>simp[intOf];omega
theorem vUz (x:wG) (b o:Nat) (w:World) (hn:x.zD.length≤1048576) (h:T.at w x.fs b o):Calls Tryz.prog 122 #[.pointer (some ⟨b,o,none⟩)] w fun e w'=>e= .returned (.bool (tf (uP x)))∧Below w.heap.size w w':=by
 have HAT:=xN h;obtain⟨hlt0,cs,hr,hc⟩:=h;obtain⟨v0,rfl,h0⟩:=wG.yV hr;clear hr;obtain⟨va0,vc0,rfl,vl0,vm0,R0,HX0⟩:=oG h0;clear h0;have HL:=xN hlt0;have HCC:=xN hc;have HB0:=xN (Below.refl w.heap.size w);clear hlt0 hc;have p0:w.cell? ⟨b,o,none⟩=some (.slice va0 x.zD.length vc0):=(HB0.out.cell HL.out).trans (HCC.out 0 _ rfl);have lb:b<w.heap.size:=zW HL.out HB0.out.size
 go_enter Tryz.func122,Tryz.ntmps122
 by_cases q1:inB (x.zD.length:Int) 1 8=true
 rotate_left
 ·have q1':inB (x.zD.length:Int) 1 8=false:=(by simpa using q1)
  go_wp2_with (go_at_call 87;refine(wI _ _ _ _).mono ?_;rintro e w' ⟨rfl,rfl⟩)
  go_ret
  exact⟨yP (xH fun h=>q1 (xK.2 ⟨by have:=h.some_;omega,by have:=h.few;omega⟩)).symm,HB0.out⟩
 have i1:=xK.1 q1;go_wp2_with (go_at_call 87;refine(wI _ _ _ _).mono ?_;rintro e w' ⟨rfl,rfl⟩)
 clear p0 lb
 go_loopw [4] (fun i wr=> ∃ k:Nat,k≤x.zD.length∧i= .int .i64 k∧vP x.zD (fun i x_1=>StripOk x_1 (i:Int) (x.zD.length:Int)∧ ∀ j y,j<i→x.zD[j]?=some y→y.yE≠x_1.yE) k∧Below w.heap.size w wr) (fun i _=>x.zD.length - (intOf i).toNat)
 case atStart=>exact⟨0,Nat.zero_le _,rfl,vP.zero,zR⟩
 case round=>
  obtain⟨k,hk,rfl,hs,hbw⟩:=hrel;have HS:=xN hs;have HW:=xN hbw;have HB:=xN (yQ HB0.out HB0.out.size hbw);clear hs hbw;have p0:wr.cell? ⟨b,o,none⟩=some (.slice va0 x.zD.length vc0):=(HB.out.cell HL.out).trans (HCC.out 0 _ rfl);have lb:b<wr.heap.size:=zW HL.out HB.out.size;by_cases hlt:k<x.zD.length
  rotate_left
  ·have hall:=xN (HS.out.all zM);clear HS
   go_wp2;go_ret
   exact⟨yP (xI ⟨by omega,by omega,hall.out⟩).symm,HB.out⟩
  have hgk:=gE hlt;obtain⟨b1,off,csy,hA,hb1,hcs,hcell⟩:=HX0.out k x.zD[k] hgk;subst hA;generalize x.zD[k]=y at *;have HG:=xN hgk;clear hgk;have HAy:=xN (T.at_elem (o:=off+k * 3) hb1 (show T.rds w y.fs csy by simpa only[xP.t,T.rd] using hcs) hcell zM);clear hcs hcell;have n1:((k:Int)<(x.zD.length:Int)):=by omega
  go_wp2_with fail
  refine(c_l26Strip y _ _ (k:Int) (x.zD.length:Int) _ zM zM zM zM (T.at_below HAy.out HB.out)).mono ?_;rintro e w3 ⟨rfl,hb3⟩;have HW3:=xN (yQ HW.out HW.out.size hb3);have HB3:=xN (yQ HB.out HB.out.size hb3);clear hb3 p0 lb;have p0:w3.cell? ⟨b,o,none⟩=some (.slice (some ⟨b1,off,none⟩) x.zD.length vc0):=(HB3.out.cell HL.out).trans (HCC.out 0 _ rfl);have lb:b<w3.heap.size:=zW HL.out HB3.out.size;by_cases q2:StripOk y (k:Int) (x.zD.length:Int)
  rotate_left
  ·rw[xH q2];have Q2:=xN q2;clear q2
   go_wp2;go_ret
   exact⟨yP (xH fun h=>Q2.out (h.each k y HG.out).1).symm,HB3.out⟩
  rw[xI q2];have Q2:=xN q2;clear q2;go_wp2;clear p0 lb
  go_loopw [5] (fun i ws=> ∃ m:Nat,m≤k∧i= .int .i64 m∧(∀ j z,j<m→x.zD[j]?=some z→z.yE≠y.yE)∧Below w3.heap.size w3 ws) (fun i _=>k - (intOf i).toNat)
  case atStart=>exact⟨0,Nat.zero_le _,rfl,fun j z h=>absurd h zM,zR⟩
  case round=>
   obtain⟨m,hm,rfl,hn2,hbs⟩:=hrel;have HN:=xN hn2;have HW4:=xN (yQ HW3.out HW3.out.size hbs);have HB4:=xN (yQ HB3.out HB3.out.size hbs);have HS4:=xN hbs;clear hn2 hbs;have p0:wr.cell? ⟨b,o,none⟩=some (.slice (some ⟨b1,off,none⟩) x.zD.length vc0):=(HB4.out.cell HL.out).trans (HCC.out 0 _ rfl);have lb:b<wr.heap.size:=zW HL.out HB4.out.size;by_cases hltm:m<k
   rotate_left
   ·obtain rfl:m=k:=by omega
    go_wp2
    go_roundw
    case rel=>exact⟨m+1,by omega,by go_num,HS.out.step HG.out ⟨Q2.out,HN.out⟩,HW4.out⟩
    case measure=>simp[intOf];omega
   have hltz:m<x.zD.length:=by omega
   have hgk:=gE hltz;obtain⟨b2,off2,csz,hA,hb2,hcs,hcell⟩:=HX0.out m x.zD[m] hgk;obtain⟨rfl,rfl⟩:b1=b2∧off=off2:=by injection hA with hA;injection hA with e1 e2;exact⟨e1,e2⟩
   clear hA;generalize x.zD[m]=z at *;have HJ:=xN hgk;clear hgk;have HAz:=xN (T.at_elem (o:=off+m * 3) hb2 (show T.rds w z.fs csz by simpa only[xP.t,T.rd] using hcs) hcell zM);clear hcs hcell;obtain⟨_,csy',hry,hcy⟩:=HAy.out;obtain⟨_,rfl,_⟩:=xP.yV hry;have cy0:wr.cell? ⟨b1,off+k * 3,none⟩=some (.string y.yE):=(HB4.out.cell hb1).trans (hcy 0 _ rfl);clear hry hcy;obtain⟨_,csz',hrz,hcz⟩:=HAz.out;obtain⟨_,rfl,_⟩:=xP.yV hrz;have cz0:wr.cell? ⟨b1,off+m * 3,none⟩=some (.string z.yE):=(HB4.out.cell hb1).trans (hcz 0 _ rfl);clear hrz hcz;have n2:((m:Int)<(x.zD.length:Int)):=by omega
   by_cases q3:z.yE=y.yE
   ·have e3:(z.yE.toList == y.yE.toList)=true:=by rw[str_eq];exact decide_eq_true q3
    have Q3:=xN q3;clear q3;go_wp2;have g0:=yN p0;have g1:=yN cy0;have g2:=yN cz0;refine rB ?_
    repeat(first|go_big_quiet_skip|(go_big_quiet_want;go_big_quiet_op;first|go_big_quiet_on|(apply Exists.intro;refine⟨fun _=>?_,?_⟩;(· (fail));go_big_quiet_on)))
    refine wpQuiet_nil ?_;rintro w9 ⟨uu,rfl⟩;have hb9:=yO wr uu;generalize bel wr uu=w9 at *;have HB9:=xN (yQ HB4.out HB4.out.size hb9);clear g0 g1 g2;go_wp2;go_ret
    exact⟨yP (xH fun h=>(h.each k y HG.out).2 m z hltm HJ.out Q3.out).symm,HB9.out⟩
   have e3:(z.yE.toList == y.yE.toList)=false:=by rw[str_eq];exact decide_eq_false q3
   have Q3:=xN q3;clear q3;go_wp2;have g0:=yN p0;have g1:=yN cy0;have g2:=yN cz0;refine rB ?_
   repeat(first|go_big_quiet_skip|(go_big_quiet_want;go_big_quiet_op;first|go_big_quiet_on|(apply Exists.intro;refine⟨fun _=>?_,?_⟩;(· (fail));go_big_quiet_on)))
   refine wpQuiet_nil ?_;rintro w9 ⟨uu,rfl⟩;have hb9:=yO wr uu;generalize bel wr uu=w9 at *;have HB9:=xN (yQ HB4.out HB4.out.size hb9);clear g0 g1 g2;have HS9:=xN (yQ HS4.out HS4.out.size hb9);clear hb9;go_wp2
   go_roundw
   case rel=>exact⟨m+1,by omega,by go_num,fun j z' h hz=>by
    by_cases e:j=m
    ·subst e;rw[HJ.out] at hz;injection hz with hz;subst hz;exact Q3.out
    ·exact HN.out j z' zM hz,HS9.out⟩
   case measure=>simp[intOf];omega
end
section
open Go.RowKit
theorem rdI_bk {w:World} {g:Nat} {t:TypeId} {cs:Array Value} {xs:List Int} (h:Bk w g t cs) (hx:cs.toList=xs.map (Value.int .i64)) (hl:xs.length≤1048576):RdI w (.slice (some ⟨g,0,none⟩) xs.length xs.length) xs:=by
 refine⟨by simp,some ⟨g,0,none⟩,xs.length,rfl,zJ,by omega,fun _=>⟨g,0,rfl,h.lt,fun j u hj=>?_⟩⟩;rw[Nat.zero_add,h.cell j,←Array.getElem?_toList,hx];exact hj
theorem zRz (v:Value) (xs:List Int) (n:Int) (w:World) (hr:RdI w v xs):Calls Tryz.prog 58 #[v,.int .i64 n] w fun e w'=>e= .returned (.bool (decide (n ∈ xs)))∧w=w':=by
 obtain⟨A,cap,rfl,hl,hc,hx⟩:=hr.open_;have HX:=xN hx;clear hx hr
 go_enter Tryz.func58,Tryz.ntmps58
 go_wp2
 go_loop [5] (fun i=> ∃ k:Nat,k≤xs.length∧i= .int .i64 k∧vP xs (fun _ x=>x≠n) k) (fun i=>xs.length - (intOf i).toNat)
 case atStart=>exact⟨0,Nat.zero_le _,rfl,vP.zero⟩
 case round=>
  obtain⟨k,hk,rfl,hs⟩:=hrel;have HS:=xN hs;clear hs;by_cases hlt:k<xs.length
  ·have hgk:=gE hlt
   obtain⟨b,off,rfl,hb,hcell⟩:=HX.out k xs[k] hgk;generalize xs[k]=x at *;have HG:=xN hgk;clear hgk;by_cases hq:x=n
   ·have q:(x == n)=true:=xA hq
    have HQ:=xN hq;clear hq;go_wp2;go_ret
    exact⟨yP (decide_eq_true (by rw[←HQ.out];exact List.mem_of_getElem? HG.out)).symm,rfl⟩
   ·have q:(x == n)=false:=yZ hq
    have HQ:=xN hq;clear hq;go_wp2
    go_round
    case rel=>exact⟨k+1,by omega,by go_num,HS.out.step HG.out HQ.out⟩
    case measure=>simp[intOf];omega
  ·have hall:=xN (HS.out.all zM)
   go_wp2;go_ret
   exact⟨yP (decide_eq_false (fun h=>by
    obtain⟨i,hi,e⟩:=List.mem_iff_getElem.1 h;exact hall.out i _ (gE hi) e)).symm,rfl⟩
theorem zIy (n:Int) (w:World):Calls Tryz.prog 268 #[.int .i64 n] w fun e w'=>e= .returned (.bool (inB n 1 17))∧w=w':=by
 go_enter Tryz.func268,Tryz.ntmps268
 go_wp2_with (go_at_call 87;refine(wI _ _ _ _).mono ?_;rintro e w' ⟨rfl,rfl⟩)
 go_ret
 exact⟨rfl,rfl⟩
theorem c_l06Arity (n:Int) (h:inB n 1 17=true) (w:World):Calls Tryz.prog 217 #[.int .i64 n] w fun e w'=>e= .returned (.int .i64 (uX n).inputs)∧Below w.heap.size w w':=by
 have HB:=xN (show Below w.heap.size w (w.alloc (.cells #[.int .i64 (-1),.int .i64 0,.int .i64 0,.int .i64 2,.int .i64 2,.int .i64 1,.int .i64 1,.int .i64 1,.int .i64 1,.int .i64 2,.int .i64 1,.int .i64 1,.int .i64 1,.int .i64 1,.int .i64 0,.int .i64 3,.int .i64 2,.int .i64 1] 2)) from zR.alloc zJ _);have hb:=xK.1 h;have:n=1∨n=2∨n=3∨n=4∨n=5∨n=6∨n=7∨n=8∨n=9∨n=10∨n=11∨n=12∨n=13∨n=14∨n=15∨n=16∨n=17:=by omega
 clear h hb
 rcases this with rfl|rfl|rfl|rfl|rfl|rfl|rfl|rfl|rfl|rfl|rfl|rfl|rfl|rfl|rfl|rfl|rfl
 all_goals
  go_enter Tryz.func217,Tryz.ntmps217
  go_wp2;go_ret
  exact⟨rfl,HB.out⟩
theorem uZ (n:Int) (w:World):Calls Tryz.prog 277 #[.int .i64 n] w fun e w'=>e= .returned (.bool (decide (n ∈ ([1,2,5,6,10,11,12,13,14,17]:List Int))))∧Below w.heap.size w w':=by
 have HR:=xN (rdI_bk (xs:= [1,2,5,6,10,11,12,13,14,17]) (Bk.born w 2 #[.int .i64 1,.int .i64 2,.int .i64 5,.int .i64 6,.int .i64 10,.int .i64 11,.int .i64 12,.int .i64 13,.int .i64 14,.int .i64 17]) rfl (by decide));have HB:=xN (show Below w.heap.size w (w.alloc (.cells #[.int .i64 1,.int .i64 2,.int .i64 5,.int .i64 6,.int .i64 10,.int .i64 11,.int .i64 12,.int .i64 13,.int .i64 14,.int .i64 17] 2)) from zR.alloc zJ _)
 go_enter Tryz.func277,Tryz.ntmps277
 go_wp2_with (go_at_call 58;refine(zRz _ [1,2,5,6,10,11,12,13,14,17] _ _ HR.out).mono ?_;rintro e w' ⟨rfl,rfl⟩)
 go_ret
 exact⟨yP (by simp),HB.out⟩
theorem c_qMax (a b:Int) (w:World):Calls Tryz.prog 213 #[.int .i64 a,.int .i64 b] w fun e w'=>e= .returned (.int .i64 (max a b))∧w=w':=by
 by_cases h:a > b
 all_goals
  go_enter Tryz.func213,Tryz.ntmps213
  go_wp2;go_ret
  exact⟨wL zM,rfl⟩
theorem c_qMin (a b:Int) (w:World):Calls Tryz.prog 282 #[.int .i64 a,.int .i64 b] w fun e w'=>e= .returned (.int .i64 (min a b))∧w=w':=by
 by_cases h:a<b
 all_goals
  go_enter Tryz.func282,Tryz.ntmps282
  go_wp2;go_ret
  exact⟨wL zM,rfl⟩
def AOk (x:xR):Prop:=if (uX x.zG).low≤(uX x.zG).high then inB x.fA (uX x.zG).low (uX x.zG).high=true else x.fA=0
theorem c_l06A (x:xR) (b o:Nat) (n:Int) (w:World) (hk:inB x.zG 1 17=true) (n0:0≤n) (n1:n≤1048576) (h:T.at w x.fs b o):Calls Tryz.prog 269 #[.pointer (some ⟨b,o,none⟩),.int .i64 n] w fun e w'=>e= .returned (.bool (tf (AOk x∧(x.zG=13→x.fA<n))))∧Below w.heap.size w w':=by
 have HAT:=xN h;obtain⟨hlt0,cs,hr,hc⟩:=h;obtain⟨v3,rfl,h3⟩:=xR.yV hr;clear hr;obtain⟨va3,vc3,rfl,vl3,vm3,R3,HX3⟩:=oI h3;clear h3;have HL:=xN hlt0;have HCC:=xN hc;have HB0:=xN (Below.refl w.heap.size w);clear hlt0 hc;have p0:w.cell? ⟨b,o,none⟩=some (.int .i64 x.zG):=(HB0.out.cell HL.out).trans (HCC.out 0 _ rfl);have p1:w.cell? ⟨b,o+1,none⟩=some (.int .i64 x.fA):=(HB0.out.cell HL.out).trans (HCC.out 1 _ rfl);have p2:w.cell? ⟨b,o+2,none⟩=some (.int .i64 x.fB):=(HB0.out.cell HL.out).trans (HCC.out 2 _ rfl);have p3:w.cell? ⟨b,o+3,none⟩=some (.slice va3 x.zK.length vc3):=(HB0.out.cell HL.out).trans (HCC.out 3 _ rfl);have lb:b<w.heap.size:=zW HL.out HB0.out.size;have hb:=xK.1 hk;have h17:x.zG=1∨x.zG=2∨x.zG=3∨x.zG=4∨x.zG=5∨x.zG=6∨x.zG=7∨x.zG=8∨x.zG=9∨x.zG=10∨x.zG=11∨x.zG=12∨x.zG=13∨x.zG=14∨x.zG=15∨x.zG=16∨x.zG=17:=by omega
 clear hk hb
 rcases h17 with e|e|e|e|e|e|e|e|e|e|e|e|e|e|e|e|e
 ·have hK:uX x.zG=⟨0,0,3,true,false⟩:=by rw[e];rfl
  have b1:(x.zG == 1)=true:=xA e;have HK:=xN hK;have EK:=xN e;clear hK e
  go_enter Tryz.func269,Tryz.ntmps269
  go_wp2_with (go_at_call 87;refine(wI _ _ _ _).mono ?_;rintro e w' ⟨rfl,rfl⟩)
  go_ret
  exact⟨yP (by
    by_cases h:inB x.fA 0 3=true
    ·rw[xI ⟨by unfold AOk;rw[HK.out];simpa using h,fun h=>by have:=EK.out;omega⟩];simpa using h
    ·rw[xH (fun hh=>h (by have h1:=hh.1;unfold AOk at h1;rw[HK.out] at h1;simpa using h1))];simpa using h),HB0.out⟩
 ·have hK:uX x.zG=⟨0,-2147483648,2147483647,false,false⟩:=by rw[e];rfl
  have b1:(x.zG == 1)=false:=yZ zM;have b6:(x.zG == 6)=false:=yZ zM;have b10:(x.zG == 10)=false:=yZ zM;have b11:(x.zG == 11)=false:=yZ zM;have b13:(x.zG == 13)=false:=yZ zM;have HK:=xN hK;have EK:=xN e;clear hK e
  go_enter Tryz.func269,Tryz.ntmps269
  have E0:decide (x.zG ∈ ([1,2,5,6,10,11,12,13,14,17]:List Int))=true:=by rw[EK.out];rfl
  go_wp2_with (first|(go_at_call 277;refine(uZ _ _).mono ?_;rintro e w2 ⟨rfl,hb2⟩;rw[E0];have HB2:=xN (yQ HB0.out HB0.out.size hb2);clear hb2;have p1:=(HB2.out.cell HL.out).trans (HCC.out 1 _ rfl);have lb2:b<w2.heap.size:=zW HL.out HB2.out.size)|(go_at_call 158;refine(wT _ _).mono ?_;rintro e w' ⟨rfl,rfl⟩))
  go_ret
  exact⟨yP (by
    by_cases h:Smp x.fA
    ·rw[xI ⟨by unfold AOk;rw[HK.out];simp[inB];unfold Smp at h;omega,fun h=>by have:=EK.out;omega⟩];exact decide_eq_true h
    ·rw[xH (fun hh=>h (by have h1:=hh.1;unfold AOk at h1;rw[HK.out] at h1;simp[inB] at h1;unfold Smp;omega))];exact decide_eq_false h),HB2.out⟩
 ·have hK:uX x.zG=⟨2,1,0,true,false⟩:=by rw[e];rfl
  have b1:(x.zG == 1)=false:=yZ zM;have b6:(x.zG == 6)=false:=yZ zM;have b10:(x.zG == 10)=false:=yZ zM;have b11:(x.zG == 11)=false:=yZ zM;have b13:(x.zG == 13)=false:=yZ zM;have HK:=xN hK;have EK:=xN e;clear hK e
  go_enter Tryz.func269,Tryz.ntmps269
  have E0:decide (x.zG ∈ ([1,2,5,6,10,11,12,13,14,17]:List Int))=false:=by rw[EK.out];rfl
  go_wp2_with (go_at_call 277;refine(uZ _ _).mono ?_;rintro e w2 ⟨rfl,hb2⟩;rw[E0];have HB2:=xN (yQ HB0.out HB0.out.size hb2);clear hb2;have p1:=(HB2.out.cell HL.out).trans (HCC.out 1 _ rfl);have lb2:b<w2.heap.size:=zW HL.out HB2.out.size)
  go_ret
  exact⟨yP (by
    by_cases h:x.fA=0
    ·rw[xI ⟨by unfold AOk;rw[HK.out];simpa using h,fun h=>by have:=EK.out;omega⟩];simpa using h
    ·rw[xH (fun hh=>h (by have h1:=hh.1;unfold AOk at h1;rw[HK.out] at h1;simpa using h1))];simpa using h),HB2.out⟩
 ·have hK:uX x.zG=⟨2,1,0,true,false⟩:=by rw[e];rfl
  have b1:(x.zG == 1)=false:=yZ zM;have b6:(x.zG == 6)=false:=yZ zM;have b10:(x.zG == 10)=false:=yZ zM;have b11:(x.zG == 11)=false:=yZ zM;have b13:(x.zG == 13)=false:=yZ zM;have HK:=xN hK;have EK:=xN e;clear hK e
  go_enter Tryz.func269,Tryz.ntmps269
  have E0:decide (x.zG ∈ ([1,2,5,6,10,11,12,13,14,17]:List Int))=false:=by rw[EK.out];rfl
  go_wp2_with (go_at_call 277;refine(uZ _ _).mono ?_;rintro e w2 ⟨rfl,hb2⟩;rw[E0];have HB2:=xN (yQ HB0.out HB0.out.size hb2);clear hb2;have p1:=(HB2.out.cell HL.out).trans (HCC.out 1 _ rfl);have lb2:b<w2.heap.size:=zW HL.out HB2.out.size)
  go_ret
  exact⟨yP (by
    by_cases h:x.fA=0
    ·rw[xI ⟨by unfold AOk;rw[HK.out];simpa using h,fun h=>by have:=EK.out;omega⟩];simpa using h
    ·rw[xH (fun hh=>h (by have h1:=hh.1;unfold AOk at h1;rw[HK.out] at h1;simpa using h1))];simpa using h),HB2.out⟩
 ·have hK:uX x.zG=⟨1,-2147483648,2147483647,true,false⟩:=by rw[e];rfl
  have b1:(x.zG == 1)=false:=yZ zM;have b6:(x.zG == 6)=false:=yZ zM;have b10:(x.zG == 10)=false:=yZ zM;have b11:(x.zG == 11)=false:=yZ zM;have b13:(x.zG == 13)=false:=yZ zM;have HK:=xN hK;have EK:=xN e;clear hK e
  go_enter Tryz.func269,Tryz.ntmps269
  have E0:decide (x.zG ∈ ([1,2,5,6,10,11,12,13,14,17]:List Int))=true:=by rw[EK.out];rfl
  go_wp2_with (first|(go_at_call 277;refine(uZ _ _).mono ?_;rintro e w2 ⟨rfl,hb2⟩;rw[E0];have HB2:=xN (yQ HB0.out HB0.out.size hb2);clear hb2;have p1:=(HB2.out.cell HL.out).trans (HCC.out 1 _ rfl);have lb2:b<w2.heap.size:=zW HL.out HB2.out.size)|(go_at_call 158;refine(wT _ _).mono ?_;rintro e w' ⟨rfl,rfl⟩))
  go_ret
  exact⟨yP (by
    by_cases h:Smp x.fA
    ·rw[xI ⟨by unfold AOk;rw[HK.out];simp[inB];unfold Smp at h;omega,fun h=>by have:=EK.out;omega⟩];exact decide_eq_true h
    ·rw[xH (fun hh=>h (by have h1:=hh.1;unfold AOk at h1;rw[HK.out] at h1;simp[inB] at h1;unfold Smp;omega))];exact decide_eq_false h),HB2.out⟩
 ·have hK:uX x.zG=⟨1,1,16,true,false⟩:=by rw[e];rfl
  have b1:(x.zG == 1)=false:=yZ zM;have b6:(x.zG == 6)=true:=xA e;have HK:=xN hK;have EK:=xN e;clear hK e
  go_enter Tryz.func269,Tryz.ntmps269
  go_wp2_with (go_at_call 87;refine(wI _ _ _ _).mono ?_;rintro e w' ⟨rfl,rfl⟩)
  go_ret
  exact⟨yP (by
    by_cases h:inB x.fA 1 16=true
    ·rw[xI ⟨by unfold AOk;rw[HK.out];simpa using h,fun h=>by have:=EK.out;omega⟩];simpa using h
    ·rw[xH (fun hh=>h (by have h1:=hh.1;unfold AOk at h1;rw[HK.out] at h1;simpa using h1))];simpa using h),HB0.out⟩
 ·have hK:uX x.zG=⟨1,1,0,true,false⟩:=by rw[e];rfl
  have b1:(x.zG == 1)=false:=yZ zM;have b6:(x.zG == 6)=false:=yZ zM;have b10:(x.zG == 10)=false:=yZ zM;have b11:(x.zG == 11)=false:=yZ zM;have b13:(x.zG == 13)=false:=yZ zM;have HK:=xN hK;have EK:=xN e;clear hK e
  go_enter Tryz.func269,Tryz.ntmps269
  have E0:decide (x.zG ∈ ([1,2,5,6,10,11,12,13,14,17]:List Int))=false:=by rw[EK.out];rfl
  go_wp2_with (go_at_call 277;refine(uZ _ _).mono ?_;rintro e w2 ⟨rfl,hb2⟩;rw[E0];have HB2:=xN (yQ HB0.out HB0.out.size hb2);clear hb2;have p1:=(HB2.out.cell HL.out).trans (HCC.out 1 _ rfl);have lb2:b<w2.heap.size:=zW HL.out HB2.out.size)
  go_ret
  exact⟨yP (by
    by_cases h:x.fA=0
    ·rw[xI ⟨by unfold AOk;rw[HK.out];simpa using h,fun h=>by have:=EK.out;omega⟩];simpa using h
    ·rw[xH (fun hh=>h (by have h1:=hh.1;unfold AOk at h1;rw[HK.out] at h1;simpa using h1))];simpa using h),HB2.out⟩
 ·have hK:uX x.zG=⟨1,1,0,true,false⟩:=by rw[e];rfl
  have b1:(x.zG == 1)=false:=yZ zM;have b6:(x.zG == 6)=false:=yZ zM;have b10:(x.zG == 10)=false:=yZ zM;have b11:(x.zG == 11)=false:=yZ zM;have b13:(x.zG == 13)=false:=yZ zM;have HK:=xN hK;have EK:=xN e;clear hK e
  go_enter Tryz.func269,Tryz.ntmps269
  have E0:decide (x.zG ∈ ([1,2,5,6,10,11,12,13,14,17]:List Int))=false:=by rw[EK.out];rfl
  go_wp2_with (go_at_call 277;refine(uZ _ _).mono ?_;rintro e w2 ⟨rfl,hb2⟩;rw[E0];have HB2:=xN (yQ HB0.out HB0.out.size hb2);clear hb2;have p1:=(HB2.out.cell HL.out).trans (HCC.out 1 _ rfl);have lb2:b<w2.heap.size:=zW HL.out HB2.out.size)
  go_ret
  exact⟨yP (by
    by_cases h:x.fA=0
    ·rw[xI ⟨by unfold AOk;rw[HK.out];simpa using h,fun h=>by have:=EK.out;omega⟩];simpa using h
    ·rw[xH (fun hh=>h (by have h1:=hh.1;unfold AOk at h1;rw[HK.out] at h1;simpa using h1))];simpa using h),HB2.out⟩
 ·have hK:uX x.zG=⟨2,1,0,false,false⟩:=by rw[e];rfl
  have b1:(x.zG == 1)=false:=yZ zM;have b6:(x.zG == 6)=false:=yZ zM;have b10:(x.zG == 10)=false:=yZ zM;have b11:(x.zG == 11)=false:=yZ zM;have b13:(x.zG == 13)=false:=yZ zM;have HK:=xN hK;have EK:=xN e;clear hK e
  go_enter Tryz.func269,Tryz.ntmps269
  have E0:decide (x.zG ∈ ([1,2,5,6,10,11,12,13,14,17]:List Int))=false:=by rw[EK.out];rfl
  go_wp2_with (go_at_call 277;refine(uZ _ _).mono ?_;rintro e w2 ⟨rfl,hb2⟩;rw[E0];have HB2:=xN (yQ HB0.out HB0.out.size hb2);clear hb2;have p1:=(HB2.out.cell HL.out).trans (HCC.out 1 _ rfl);have lb2:b<w2.heap.size:=zW HL.out HB2.out.size)
  go_ret
  exact⟨yP (by
    by_cases h:x.fA=0
    ·rw[xI ⟨by unfold AOk;rw[HK.out];simpa using h,fun h=>by have:=EK.out;omega⟩];simpa using h
    ·rw[xH (fun hh=>h (by have h1:=hh.1;unfold AOk at h1;rw[HK.out] at h1;simpa using h1))];simpa using h),HB2.out⟩
 ·have hK:uX x.zG=⟨1,0,31,false,false⟩:=by rw[e];rfl
  have b1:(x.zG == 1)=false:=yZ zM;have b6:(x.zG == 6)=false:=yZ zM;have b10:(x.zG == 10)=true:=xA e;have HK:=xN hK;have EK:=xN e;clear hK e
  go_enter Tryz.func269,Tryz.ntmps269
  go_wp2_with (go_at_call 87;refine(wI _ _ _ _).mono ?_;rintro e w' ⟨rfl,rfl⟩)
  go_ret
  exact⟨yP (by
    by_cases h:inB x.fA 0 31=true
    ·rw[xI ⟨by unfold AOk;rw[HK.out];simpa using h,fun h=>by have:=EK.out;omega⟩];simpa using h
    ·rw[xH (fun hh=>h (by have h1:=hh.1;unfold AOk at h1;rw[HK.out] at h1;simpa using h1))];simpa using h),HB0.out⟩
 ·have hK:uX x.zG=⟨1,0,2147483647,false,false⟩:=by rw[e];rfl
  have b1:(x.zG == 1)=false:=yZ zM;have b6:(x.zG == 6)=false:=yZ zM;have b10:(x.zG == 10)=false:=yZ zM;have b11:(x.zG == 11)=true:=xA e;have HK:=xN hK;have EK:=xN e;clear hK e
  go_enter Tryz.func269,Tryz.ntmps269
  go_wp2_with (go_at_call 87;refine(wI _ _ _ _).mono ?_;rintro e w' ⟨rfl,rfl⟩)
  go_ret
  exact⟨yP (by
    by_cases h:inB x.fA 0 2147483647=true
    ·rw[xI ⟨by unfold AOk;rw[HK.out];simpa using h,fun h=>by have:=EK.out;omega⟩];simpa using h
    ·rw[xH (fun hh=>h (by have h1:=hh.1;unfold AOk at h1;rw[HK.out] at h1;simpa using h1))];simpa using h),HB0.out⟩
 ·have hK:uX x.zG=⟨1,-2147483648,2147483647,false,false⟩:=by rw[e];rfl
  have b1:(x.zG == 1)=false:=yZ zM;have b6:(x.zG == 6)=false:=yZ zM;have b10:(x.zG == 10)=false:=yZ zM;have b11:(x.zG == 11)=false:=yZ zM;have b13:(x.zG == 13)=false:=yZ zM;have HK:=xN hK;have EK:=xN e;clear hK e
  go_enter Tryz.func269,Tryz.ntmps269
  have E0:decide (x.zG ∈ ([1,2,5,6,10,11,12,13,14,17]:List Int))=true:=by rw[EK.out];rfl
  go_wp2_with (first|(go_at_call 277;refine(uZ _ _).mono ?_;rintro e w2 ⟨rfl,hb2⟩;rw[E0];have HB2:=xN (yQ HB0.out HB0.out.size hb2);clear hb2;have p1:=(HB2.out.cell HL.out).trans (HCC.out 1 _ rfl);have lb2:b<w2.heap.size:=zW HL.out HB2.out.size)|(go_at_call 158;refine(wT _ _).mono ?_;rintro e w' ⟨rfl,rfl⟩))
  go_ret
  exact⟨yP (by
    by_cases h:Smp x.fA
    ·rw[xI ⟨by unfold AOk;rw[HK.out];simp[inB];unfold Smp at h;omega,fun h=>by have:=EK.out;omega⟩];exact decide_eq_true h
    ·rw[xH (fun hh=>h (by have h1:=hh.1;unfold AOk at h1;rw[HK.out] at h1;simp[inB] at h1;unfold Smp;omega))];exact decide_eq_false h),HB2.out⟩
 ·have hK:uX x.zG=⟨1,0,3,false,false⟩:=by rw[e];rfl
  have b1:(x.zG == 1)=false:=yZ zM;have b6:(x.zG == 6)=false:=yZ zM;have b10:(x.zG == 10)=false:=yZ zM;have b11:(x.zG == 11)=false:=yZ zM;have b13:(x.zG == 13)=true:=xA e;have HK:=xN hK;have EK:=xN e;clear hK e
  go_enter Tryz.func269,Tryz.ntmps269
  have hm:IntKind.i64.wrap (min (max n 0) 4 - 1)=min (max n 0) 4 - 1:=IntWalk.i64_in _ zM;go_wp2;have g0:=yN p0;have g1:=yN p1;have g2:=yN p2;have g3:=yN p3;refine rB ?_
  repeat(first|go_big_quiet_skip|(go_big_quiet_want;go_big_quiet_op;first|go_big_quiet_on|(apply Exists.intro;refine⟨fun _=>?_,?_⟩;(· (first|(go_at_call 213;exact Calls.yR (c_qMax _ _ _))|(go_at_call 282;exact Calls.yR (c_qMin _ _ _))|(go_at_call 87;exact Calls.yR (wI _ _ _ _))));go_big_quiet_on)))
  refine wpQuiet_nil ?_;rintro w9 ⟨uu,rfl⟩;have hb9:=yO w uu;generalize bel w uu=w9 at *;have HB9:=xN (yQ HB0.out HB0.out.size hb9);clear g0 g1 g2 g3;go_wp2;go_ret
  exact⟨yP (by
    by_cases h:inB x.fA 0 3=true∧x.fA<n
    ·rw[xI ⟨by unfold AOk;rw[HK.out];simpa using h.1,fun _=>h.2⟩];have:=xK.1 h.1;exact xK.2 zM
    ·rw[xH (fun hh=>h ⟨by have h1:=hh.1;unfold AOk at h1;rw[HK.out] at h1;simpa using h1,hh.2 EK.out⟩)];exact zEy.2 (fun hh=>h ⟨xK.2 zM,by omega⟩)),HB9.out⟩
 ·have hK:uX x.zG=⟨0,-2147483648,2147483647,false,false⟩:=by rw[e];rfl
  have b1:(x.zG == 1)=false:=yZ zM;have b6:(x.zG == 6)=false:=yZ zM;have b10:(x.zG == 10)=false:=yZ zM;have b11:(x.zG == 11)=false:=yZ zM;have b13:(x.zG == 13)=false:=yZ zM;have HK:=xN hK;have EK:=xN e;clear hK e
  go_enter Tryz.func269,Tryz.ntmps269
  have E0:decide (x.zG ∈ ([1,2,5,6,10,11,12,13,14,17]:List Int))=true:=by rw[EK.out];rfl
  go_wp2_with (first|(go_at_call 277;refine(uZ _ _).mono ?_;rintro e w2 ⟨rfl,hb2⟩;rw[E0];have HB2:=xN (yQ HB0.out HB0.out.size hb2);clear hb2;have p1:=(HB2.out.cell HL.out).trans (HCC.out 1 _ rfl);have lb2:b<w2.heap.size:=zW HL.out HB2.out.size)|(go_at_call 158;refine(wT _ _).mono ?_;rintro e w' ⟨rfl,rfl⟩))
  go_ret
  exact⟨yP (by
    by_cases h:Smp x.fA
    ·rw[xI ⟨by unfold AOk;rw[HK.out];simp[inB];unfold Smp at h;omega,fun h=>by have:=EK.out;omega⟩];exact decide_eq_true h
    ·rw[xH (fun hh=>h (by have h1:=hh.1;unfold AOk at h1;rw[HK.out] at h1;simp[inB] at h1;unfold Smp;omega))];exact decide_eq_false h),HB2.out⟩
 ·have hK:uX x.zG=⟨3,1,0,false,false⟩:=by rw[e];rfl
  have b1:(x.zG == 1)=false:=yZ zM;have b6:(x.zG == 6)=false:=yZ zM;have b10:(x.zG == 10)=false:=yZ zM;have b11:(x.zG == 11)=false:=yZ zM;have b13:(x.zG == 13)=false:=yZ zM;have HK:=xN hK;have EK:=xN e;clear hK e
  go_enter Tryz.func269,Tryz.ntmps269
  have E0:decide (x.zG ∈ ([1,2,5,6,10,11,12,13,14,17]:List Int))=false:=by rw[EK.out];rfl
  go_wp2_with (go_at_call 277;refine(uZ _ _).mono ?_;rintro e w2 ⟨rfl,hb2⟩;rw[E0];have HB2:=xN (yQ HB0.out HB0.out.size hb2);clear hb2;have p1:=(HB2.out.cell HL.out).trans (HCC.out 1 _ rfl);have lb2:b<w2.heap.size:=zW HL.out HB2.out.size)
  go_ret
  exact⟨yP (by
    by_cases h:x.fA=0
    ·rw[xI ⟨by unfold AOk;rw[HK.out];simpa using h,fun h=>by have:=EK.out;omega⟩];simpa using h
    ·rw[xH (fun hh=>h (by have h1:=hh.1;unfold AOk at h1;rw[HK.out] at h1;simpa using h1))];simpa using h),HB2.out⟩
 ·have hK:uX x.zG=⟨2,1,0,false,false⟩:=by rw[e];rfl
  have b1:(x.zG == 1)=false:=yZ zM;have b6:(x.zG == 6)=false:=yZ zM;have b10:(x.zG == 10)=false:=yZ zM;have b11:(x.zG == 11)=false:=yZ zM;have b13:(x.zG == 13)=false:=yZ zM;have HK:=xN hK;have EK:=xN e;clear hK e
  go_enter Tryz.func269,Tryz.ntmps269
  have E0:decide (x.zG ∈ ([1,2,5,6,10,11,12,13,14,17]:List Int))=false:=by rw[EK.out];rfl
  go_wp2_with (go_at_call 277;refine(uZ _ _).mono ?_;rintro e w2 ⟨rfl,hb2⟩;rw[E0];have HB2:=xN (yQ HB0.out HB0.out.size hb2);clear hb2;have p1:=(HB2.out.cell HL.out).trans (HCC.out 1 _ rfl);have lb2:b<w2.heap.size:=zW HL.out HB2.out.size)
  go_ret
  exact⟨yP (by
    by_cases h:x.fA=0
    ·rw[xI ⟨by unfold AOk;rw[HK.out];simpa using h,fun h=>by have:=EK.out;omega⟩];simpa using h
    ·rw[xH (fun hh=>h (by have h1:=hh.1;unfold AOk at h1;rw[HK.out] at h1;simpa using h1))];simpa using h),HB2.out⟩
 ·have hK:uX x.zG=⟨1,-2147483648,2147483647,true,true⟩:=by rw[e];rfl
  have b1:(x.zG == 1)=false:=yZ zM;have b6:(x.zG == 6)=false:=yZ zM;have b10:(x.zG == 10)=false:=yZ zM;have b11:(x.zG == 11)=false:=yZ zM;have b13:(x.zG == 13)=false:=yZ zM;have HK:=xN hK;have EK:=xN e;clear hK e
  go_enter Tryz.func269,Tryz.ntmps269
  have E0:decide (x.zG ∈ ([1,2,5,6,10,11,12,13,14,17]:List Int))=true:=by rw[EK.out];rfl
  go_wp2_with (first|(go_at_call 277;refine(uZ _ _).mono ?_;rintro e w2 ⟨rfl,hb2⟩;rw[E0];have HB2:=xN (yQ HB0.out HB0.out.size hb2);clear hb2;have p1:=(HB2.out.cell HL.out).trans (HCC.out 1 _ rfl);have lb2:b<w2.heap.size:=zW HL.out HB2.out.size)|(go_at_call 158;refine(wT _ _).mono ?_;rintro e w' ⟨rfl,rfl⟩))
  go_ret
  exact⟨yP (by
    by_cases h:Smp x.fA
    ·rw[xI ⟨by unfold AOk;rw[HK.out];simp[inB];unfold Smp at h;omega,fun h=>by have:=EK.out;omega⟩];exact decide_eq_true h
    ·rw[xH (fun hh=>h (by have h1:=hh.1;unfold AOk at h1;rw[HK.out] at h1;simp[inB] at h1;unfold Smp;omega))];exact decide_eq_false h),HB2.out⟩
end
end Go.Proofs.YtoibekfhepnedaaGreat
