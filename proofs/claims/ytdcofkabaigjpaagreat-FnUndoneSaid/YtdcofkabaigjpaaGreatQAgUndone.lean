/- Contracts: which nested data are the same. Contracts: what is valid, by the reference: strips, mixers. -/
import Derived.Test.YtdcofkabaigjpaaGreatQAfUndone
import Derived.Laws.StructEq
import Derived.Test.YtdcofkabaigjpaaGreatQAdUndone
set_option linter.unusedVariables false
set_option linter.unusedSimpArgs false
set_option maxHeartbeats 2000000
set_option maxRecDepth 20000
namespace Go.Proofs.YtdcofkabaigjpaaGreat
section
open Go.RowKit
theorem eq_Clip (d:Nat) (x y:xR) (w:World):(Op.equalIn (d+2) 39 (.agg #[.int .i64 x.zX,.int .i64 x.zK,.int .i64 x.zA,.int .i64 x.yE,.int .i64 x.zZ]) (.agg #[.int .i64 y.zX,.int .i64 y.zK,.int .i64 y.zA,.int .i64 y.yE,.int .i64 y.zZ])).run Tryz.prog w= .ok (decide (x=y)) w:=by
 have u2:=Tryz.underlying2;have a2:=Tryz.isAgg2;have z2:=Tryz.sizeOf2;have hS:Tryz.prog.underlying 39=some (.struct (Tryz.prog.fieldsOf 39)):=by kernel_rfl
 rw[show d+2=(d+1)+1 from rfl,run_equalIn_agg w (d+1) 39 _ _ hS (by kernel_rfl)];simp only[Program.fieldsOf,Tryz.underlying39];go_simp;obtain⟨x0,x1,x2,x3,x4⟩:=x;obtain⟨y0,y1,y2,y3,y4⟩:=y;simp only[xR.mk.injEq];by_cases h0:x0=y0<;>by_cases h1:x1=y1<;>by_cases h2:x2=y2<;>by_cases h3:x3=y3<;>by_cases h4:x4=y4<;>simp[h0,h1,h2,h3,h4]
theorem eqg_Clip:Tryz.prog.eqGuardType Tryz.prog.depth 39=false:=by kernel_rfl
theorem eq_Send (d:Nat) (x y:xV) (w:World):(Op.equalIn (d+2) 71 (.agg #[.int .i64 x.yG,.int .i64 x.zZ]) (.agg #[.int .i64 y.yG,.int .i64 y.zZ])).run Tryz.prog w= .ok (decide (x=y)) w:=by
 have u2:=Tryz.underlying2;have a2:=Tryz.isAgg2;have z2:=Tryz.sizeOf2;have hS:Tryz.prog.underlying 71=some (.struct (Tryz.prog.fieldsOf 71)):=by kernel_rfl
 rw[show d+2=(d+1)+1 from rfl,run_equalIn_agg w (d+1) 71 _ _ hS (by kernel_rfl)];simp only[Program.fieldsOf,Tryz.underlying71];go_simp;obtain⟨x0,x1⟩:=x;obtain⟨y0,y1⟩:=y;simp only[xV.mk.injEq];by_cases h0:x0=y0<;>by_cases h1:x1=y1<;>simp[h0,h1]
theorem eqg_Send:Tryz.prog.eqGuardType Tryz.prog.depth 71=false:=by kernel_rfl
theorem wYz (a b:xN) (v u:Value) (w:World) (hr:T.rd w (T.sl 39 5 (a.zL.map xR.t)) [v]) (ht:T.rd w (T.sl 39 5 (b.zL.map xR.t)) [u]):
  Calls Tryz.prog 29 #[.agg #[v],.agg #[u]] w fun e w'=>e= .returned (.bool (decide (a=b)))∧Below w.heap.size w w':=by
 obtain⟨xs⟩:=a;obtain⟨ys⟩:=b;simp only at hr ht;obtain⟨A1,cap1,rfl,hl1,hc1,hx1⟩:=T.yR hr;obtain⟨A2,cap2,rfl,hl2,hc2,hx2⟩:=T.yR ht;rw[List.length_map] at hl1 hl2 ⊢;rw[List.length_map];have HX1:=xL hx1;have HX2:=xL hx2;clear hx1 hx2 hr ht;by_cases hll:xs.length=ys.length
 ·have hb:((xs.length:Int) != (ys.length:Int))=false:=by simp[hll]
  have HL:=xL hll;clear hll;have hgd:=eqg_Clip
  go_enter Tryz.func29,Tryz.ntmps29
  have HB0:=xL (show Below w.heap.size w ((w.alloc (.cells #[(.slice A1 xs.length cap1)] 69)).alloc (.cells #[(.slice A2 ys.length cap2)] 69)) from(zR.alloc zJ _).alloc zQ _);have HKA:=xL ((Bk.born w 69 #[(.slice A1 xs.length cap1)]).alloc (.cells #[(.slice A2 ys.length cap2)] 69));have HKB:=xL (Bk.born1' w (.cells #[(.slice A1 xs.length cap1)] 69) 69 #[(.slice A2 ys.length cap2)]);go_wp2
  go_loopw [5] (fun i wr=> ∃ k:Nat,k≤xs.length∧i= .int .i64 k∧xs.take k=ys.take k∧Below (w.heap.size+2) ((w.alloc (.cells #[(.slice A1 xs.length cap1)] 69)).alloc (.cells #[(.slice A2 ys.length cap2)] 69)) wr) (fun i _=>xs.length - (intOf i).toNat)
  case atStart=>exact⟨0,Nat.zero_le _,rfl,rfl,zR⟩
  case round=>
   obtain⟨k,hk,rfl,hs,hbw⟩:=hrel;have HS:=xL hs;have HW:=xL hbw;have hsz:=hbw.size;clear hs hbw;have hsz2:w.heap.size+2≤wr.heap.size:=by simpa using hsz
   clear hsz;have HB:=xL (show Below w.heap.size w wr from yM HB0.out zQ (HW.out.mono zQ));have ka:=(HKA.out.below HW.out zQ).cell;have kb:=(HKB.out.below HW.out zQ).cell;have la:w.heap.size<wr.heap.size:=by omega
   have lb:w.heap.size+1<wr.heap.size:=by omega
   by_cases hlt:k<xs.length
   ·have hlt2:k<ys.length:=by have:=HL.out;omega
    obtain⟨b1,o1,cs1,rfl,hbw1,hcs1,hcell1⟩:=HX1.out k (xR.t xs[k]) (by rw[List.getElem?_map,gE hlt];rfl);obtain⟨b2,o2,cs2,rfl,hbw2,hcs2,hcell2⟩:=HX2.out k (xR.t ys[k]) (by rw[List.getElem?_map,gE hlt2];rfl);have hg1:=gE hlt;have hg2:=gE hlt2;generalize xs[k]=x at *;generalize ys[k]=y at *;have HG1:=xL hg1;have HG2:=xL hg2;clear hg1 hg2;obtain rfl:=xR.yR (show T.rds _ _ _ by simpa only[xR.t,T.rd] using hcs1);have d0:=(HB.out.cell hbw1).trans (hcell1 0 _ rfl);rw[show o1+(k * 5+0)=o1+k * 5 by omega] at d0;have d1:=(HB.out.cell hbw1).trans (hcell1 1 _ rfl);rw[show o1+(k * 5+1)=o1+k * 5+1 by omega] at d1;have d2:=(HB.out.cell hbw1).trans (hcell1 2 _ rfl);rw[show o1+(k * 5+2)=o1+k * 5+2 by omega] at d2;have d3:=(HB.out.cell hbw1).trans (hcell1 3 _ rfl);rw[show o1+(k * 5+3)=o1+k * 5+3 by omega] at d3;have d4:=(HB.out.cell hbw1).trans (hcell1 4 _ rfl);rw[show o1+(k * 5+4)=o1+k * 5+4 by omega] at d4;have hq1:b1<wr.heap.size:=zW hbw1 HB.out.size;obtain rfl:=xR.yR (show T.rds _ _ _ by simpa only[xR.t,T.rd] using hcs2);have g0:=(HB.out.cell hbw2).trans (hcell2 0 _ rfl);rw[show o2+(k * 5+0)=o2+k * 5 by omega] at g0;have g1:=(HB.out.cell hbw2).trans (hcell2 1 _ rfl);rw[show o2+(k * 5+1)=o2+k * 5+1 by omega] at g1;have g2:=(HB.out.cell hbw2).trans (hcell2 2 _ rfl);rw[show o2+(k * 5+2)=o2+k * 5+2 by omega] at g2;have g3:=(HB.out.cell hbw2).trans (hcell2 3 _ rfl);rw[show o2+(k * 5+3)=o2+k * 5+3 by omega] at g3;have g4:=(HB.out.cell hbw2).trans (hcell2 4 _ rfl);rw[show o2+(k * 5+4)=o2+k * 5+4 by omega] at g4;have hq2:b2<wr.heap.size:=zW hbw2 HB.out.size;clear hcs1 hcs2 hcell1 hcell2;have heq: ∀ w,(Op.equalIn 10000 39 (.agg #[.int .i64 x.zX,.int .i64 x.zK,.int .i64 x.zA,.int .i64 x.yE,.int .i64 x.zZ]) (.agg #[.int .i64 y.zX,.int .i64 y.zK,.int .i64 y.zA,.int .i64 y.yE,.int .i64 y.zZ])).run Tryz.prog w= .ok (decide (x=y)) w:=eq_Clip 9998 x y;have hW:=HW.out;have hB:=HB.out;by_cases he:x=y
    ·have hde:decide (x=y)=true:=decide_eq_true he
     rw[hde] at heq;have HE:=xL he;clear he hde;go_wp2
     go_quiet (fail)
     go_wp2
     go_roundw
     case rel=>exact⟨k+1,by omega,by go_num,vS HS.out HG1.out (by rw[HE.out];exact HG2.out),ba⟩
     case measure=>simp[intOf];omega
    ·have hde:decide (x=y)=false:=decide_eq_false he
     rw[hde] at heq;have HE:=xL he;clear he hde;go_wp2
     go_quiet (fail)
     go_wp2;go_ret
     exact⟨yK (by rw[decide_eq_false];intro e;injection e with e;exact xHz HG1.out HG2.out HE.out e),ba⟩
   ·go_wp2
    go_ret
    exact⟨yK (by rw[decide_eq_true];rw[vN (k:=k) zM HL.out HS.out]),HB.out⟩
 ·have hb:((xs.length:Int) != (ys.length:Int))=true:=by simp;omega
  have hne:xs≠ys:=fun e=>hll (by rw[e])
  have HN:=xL hne;clear hll hne
  go_enter Tryz.func29,Tryz.ntmps29
  go_wp2;go_ret
  exact⟨yK (by rw[decide_eq_false];intro e;injection e with e;exact HN.out e),ba⟩
theorem c_same (v u:Value) (xs ys:List Int) (w:World) (hr1:RdI w v xs) (hr2:RdI w u ys):Calls Tryz.prog 150 #[v,u] w fun e w'=>e= .returned (.bool (decide (xs=ys)))∧Dr w w':=by
 obtain⟨A1,cap1,rfl,hl1,hc1,hx1⟩:=hr1.open_;obtain⟨A2,cap2,rfl,hl2,hc2,hx2⟩:=hr2.open_;have HX1:=xL hx1;have HX2:=xL hx2;clear hx1 hx2 hr1 hr2;by_cases hll:xs.length=ys.length
 ·have hb:((xs.length:Int) != (ys.length:Int))=false:=by simp[hll]
  have HL:=xL hll;clear hll
  go_enter Tryz.func150,Tryz.ntmps150
  go_wp2
  go_loopw [14] (fun i wr=> ∃ k:Nat,k≤xs.length∧i= .int .i64 k∧xs.take k=ys.take k∧Dr w wr) (fun i _=>xs.length - (intOf i).toNat)
  case atStart=>exact⟨0,Nat.zero_le _,rfl,rfl,Dr.refl _⟩
  case round=>
   obtain⟨k,hk,rfl,hs,nr,rfl⟩:=hrel;have HS:=xL hs;clear hs;by_cases hlt:k<xs.length
   ·have hlt2:k<ys.length:=by have:=HL.out;omega
    obtain⟨b1,off1,rfl,hb1,hcell1⟩:=HX1.out k xs[k] (gE hlt);obtain⟨b2,off2,rfl,hb2,hcell2⟩:=HX2.out k ys[k] (gE hlt2);by_cases he:xs[k]=ys[k]
    ·have hd:(xs[k] != ys[k])=false:=by simp[he]
     have HE:=xL he;clear he;go_wp2
     go_roundw
     case rel=>exact⟨k+1,by omega,by go_num,vS HS.out (gE hlt) (by rw[HE.out];exact gE hlt2),(by repeat(first|exact Dr.refl _|exact⟨_,rfl⟩|refine Dr.drewN ?_ _|refine Dr.drew ?_))⟩
     case measure=>simp[intOf];omega
    ·have hd:(xs[k] != ys[k])=true:=by simp[he]
     have HE:=xL he;clear he;go_wp2;go_ret
     exact⟨by simp[xHz (gE hlt) (gE hlt2) HE.out],(by repeat(first|exact Dr.refl _|exact⟨_,rfl⟩|refine Dr.drewN ?_ _|refine Dr.drew ?_))⟩
   ·go_wp2
    go_ret
    exact⟨by simp[vN (k:=k) zM HL.out HS.out],(by repeat(first|exact Dr.refl _|exact⟨_,rfl⟩|refine Dr.drewN ?_ _|refine Dr.drew ?_))⟩
 ·have hb:((xs.length:Int) != (ys.length:Int))=true:=by simp;omega
  have hne:xs≠ys:=fun e=>hll (by rw[e])
  have HN:=xL hne;clear hll hne
  go_enter Tryz.func150,Tryz.ntmps150
  go_wp2;go_ret
  exact⟨by simp[HN.out],Dr.refl _⟩
theorem uH (v u:Value) (xs ys:List Int) (w:World) (hr1:RdI w v xs) (hr2:RdI w u ys):Calls Tryz.prog 27 #[v,u] w fun e w'=>e= .returned (.bool (decide (xs=ys)))∧Dr w w':=by
 obtain⟨A1,cap1,rfl,hl1,hc1,hx1⟩:=hr1.open_;obtain⟨A2,cap2,rfl,hl2,hc2,hx2⟩:=hr2.open_;have HX1:=xL hx1;have HX2:=xL hx2;clear hx1 hx2 hr1 hr2;by_cases hll:xs.length=ys.length
 ·have hb:((xs.length:Int) != (ys.length:Int))=false:=by simp[hll]
  have HL:=xL hll;clear hll
  go_enter Tryz.func27,Tryz.ntmps27
  go_wp2
  go_loopw [5] (fun i wr=> ∃ k:Nat,k≤xs.length∧i= .int .i64 k∧xs.take k=ys.take k∧Dr w wr) (fun i _=>xs.length - (intOf i).toNat)
  case atStart=>exact⟨0,Nat.zero_le _,rfl,rfl,Dr.refl _⟩
  case round=>
   obtain⟨k,hk,rfl,hs,nr,rfl⟩:=hrel;have HS:=xL hs;clear hs;by_cases hlt:k<xs.length
   ·have hlt2:k<ys.length:=by have:=HL.out;omega
    obtain⟨b1,off1,rfl,hb1,hcell1⟩:=HX1.out k xs[k] (gE hlt);obtain⟨b2,off2,rfl,hb2,hcell2⟩:=HX2.out k ys[k] (gE hlt2);by_cases he:xs[k]=ys[k]
    ·have hd:(xs[k] != ys[k])=false:=by simp[he]
     have HE:=xL he;clear he;go_wp2
     go_quiet (fail)
     go_wp2
     go_roundw
     case rel=>exact⟨k+1,by omega,by go_num,vS HS.out (gE hlt) (by rw[HE.out];exact gE hlt2),(by repeat(first|exact Dr.refl _|exact⟨_,rfl⟩|refine Dr.drewN ?_ _|refine Dr.drew ?_))⟩
     case measure=>simp[intOf];omega
    ·have hd:(xs[k] != ys[k])=true:=by simp[he]
     have HE:=xL he;clear he;go_wp2
     go_quiet (fail)
     go_wp2;go_ret
     exact⟨by simp[xHz (gE hlt) (gE hlt2) HE.out],(by repeat(first|exact Dr.refl _|exact⟨_,rfl⟩|refine Dr.drewN ?_ _|refine Dr.drew ?_))⟩
   ·go_wp2
    go_ret
    exact⟨by simp[vN (k:=k) zM HL.out HS.out],(by repeat(first|exact Dr.refl _|exact⟨_,rfl⟩|refine Dr.drewN ?_ _|refine Dr.drew ?_))⟩
 ·have hb:((xs.length:Int) != (ys.length:Int))=true:=by simp;omega
  have hne:xs≠ys:=fun e=>hll (by rw[e])
  have HN:=xL hne;clear hll hne
  go_enter Tryz.func27,Tryz.ntmps27
  go_wp2;go_ret
  exact⟨by simp[HN.out],Dr.refl _⟩
theorem wDz (v u:Value) (xs ys:List (List Int)) (w:World) (hr:T.rd w (T.sl 26 1 (xs.map (T.ints 2))) [v]) (ht:T.rd w (T.sl 26 1 (ys.map (T.ints 2))) [u]):
  Calls Tryz.prog 149 #[v,u] w fun e w'=>e= .returned (.bool (decide (xs=ys)))∧Dr w w':=by
 obtain⟨A1,cap1,rfl,hl1,hc1,hx1⟩:=T.yR hr;obtain⟨A2,cap2,rfl,hl2,hc2,hx2⟩:=T.yR ht;rw[List.length_map] at hl1 hl2 ⊢;rw[List.length_map];have HX1:=xL hx1;have HX2:=xL hx2;clear hx1 hx2 hr ht;by_cases hll:xs.length=ys.length
 ·have hb:((xs.length:Int) != (ys.length:Int))=false:=by simp[hll]
  have HL:=xL hll;clear hll
  go_enter Tryz.func149,Tryz.ntmps149
  go_wp2
  go_loopw [14] (fun i wr=> ∃ k:Nat,k≤xs.length∧i= .int .i64 k∧xs.take k=ys.take k∧Dr w wr) (fun i _=>xs.length - (intOf i).toNat)
  case atStart=>exact⟨0,Nat.zero_le _,rfl,rfl,Dr.refl _⟩
  case round=>
   obtain⟨k,hk,rfl,hs,nr,rfl⟩:=hrel;have HS:=xL hs;clear hs;by_cases hlt:k<xs.length
   ·have hlt2:k<ys.length:=by have:=HL.out;omega
    obtain⟨b1,o1,cs1,rfl,hb1,hcs1,hcell1⟩:=HX1.out k (T.ints 2 xs[k]) (by rw[List.getElem?_map,gE hlt];rfl);obtain⟨b2,o2,cs2,rfl,hb2,hcs2,hcell2⟩:=HX2.out k (T.ints 2 ys[k]) (by rw[List.getElem?_map,gE hlt2];rfl);have hg1:=gE hlt;have hg2:=gE hlt2;generalize xs[k]=x at *;generalize ys[k]=y at *;have HG1:=xL hg1;have HG2:=xL hg2;clear hg1 hg2;obtain⟨v3,rfl⟩:=T.rd_one hcs1;obtain⟨v4,rfl⟩:=T.rd_one hcs2;have d0:=hcell1 0 v3 rfl;have g0:=hcell2 0 v4 rfl;rw[Nat.mul_one,Nat.add_zero] at d0 g0;have R1:=xL (show RdI (w.drewN nr) v3 x from Rd.drewN (T.yZ.1 hcs1) nr);have R2:=xL (show RdI (w.drewN nr) v4 y from Rd.drewN (T.yZ.1 hcs2) nr);clear hcs1 hcs2 hcell1 hcell2;by_cases he:x=y
    ·have hde:decide (x=y)=true:=decide_eq_true he
     have HE:=xL he;clear he;go_wp2_with (go_at_call 150;refine(c_same _ _ x y _ R1.out R2.out).mono ?_;rintro e w3 ⟨rfl,hd3⟩;rw[hde])
     go_roundw
     case rel=>exact⟨k+1,by omega,by go_num,vS HS.out HG1.out (by rw[HE.out];exact HG2.out),(Dr.drewN (Dr.refl _) _).trans hd3⟩
     case measure=>simp[intOf];omega
    ·have hde:decide (x=y)=false:=decide_eq_false he
     have HE:=xL he;clear he;go_wp2_with (go_at_call 150;refine(c_same _ _ x y _ R1.out R2.out).mono ?_;rintro e w3 ⟨rfl,hd3⟩;rw[hde])
     go_ret
     exact⟨by simp[xHz HG1.out HG2.out HE.out],(Dr.drewN (Dr.refl _) _).trans hd3⟩
   ·go_wp2
    go_ret
    exact⟨by simp[vN (k:=k) zM HL.out HS.out],(by repeat(first|exact Dr.refl _|exact⟨_,rfl⟩|refine Dr.drewN ?_ _|refine Dr.drew ?_))⟩
 ·have hb:((xs.length:Int) != (ys.length:Int))=true:=by simp;omega
  have hne:xs≠ys:=fun e=>hll (by rw[e])
  have HN:=xL hne;clear hll hne
  go_enter Tryz.func149,Tryz.ntmps149
  go_wp2;go_ret
  exact⟨by simp[HN.out],Dr.refl _⟩
theorem c_iSameNode (a b:xP) (v3:Value) (u3:Value) (w:World) (r3:T.rd w (T.ints 2 a.zK) [v3]) (t3:T.rd w (T.ints 2 b.zK) [u3]):
  Calls Tryz.prog 151 #[.agg #[.int .i64 a.zC,.int .i64 a.fA,.int .i64 a.fB,v3],.agg #[.int .i64 b.zC,.int .i64 b.fA,.int .i64 b.fB,u3]] w fun e w'=>e= .returned (.bool (decide (a=b)))∧Below w.heap.size w w':=by
 have hab:decide (a=b)=(decide (a.zC=b.zC) && (decide (a.fA=b.fA) && (decide (a.fB=b.fB) && (decide (a.zK=b.zK))))):=by
  obtain⟨x0,x1,x2,x3⟩:=a;obtain⟨y0,y1,y2,y3⟩:=b;rw[Bool.eq_iff_iff];simp only[xP.mk.injEq,decide_eq_true_eq,Bool.and_eq_true]
  try (constructor<;>(intro h;simp[h]))
 have R3:=xL r3;have Q3:=xL t3;obtain⟨va3,vl3,vc3,rfl⟩:=T.xB r3;obtain⟨ua3,ul3,uc3,rfl⟩:=T.xB t3;clear r3 t3;have HAB:=xL hab;clear hab;have HB0:=xL (show Below w.heap.size w ((w.alloc (.cells #[.int .i64 a.zC,.int .i64 a.fA,.int .i64 a.fB,(.slice va3 vl3 vc3)] 120)).alloc (.cells #[.int .i64 b.zC,.int .i64 b.fA,.int .i64 b.fB,(.slice ua3 ul3 uc3)] 120)) from(zR.alloc zJ _).alloc zQ _);have HKA0:=xL ((Bk.born w 120 #[.int .i64 a.zC,.int .i64 a.fA,.int .i64 a.fB,(.slice va3 vl3 vc3)]).alloc (.cells #[.int .i64 b.zC,.int .i64 b.fA,.int .i64 b.fB,(.slice ua3 ul3 uc3)] 120));have HKB0:=xL (Bk.born1' w (.cells #[.int .i64 a.zC,.int .i64 a.fA,.int .i64 a.fB,(.slice va3 vl3 vc3)] 120) 120 #[.int .i64 b.zC,.int .i64 b.fA,.int .i64 b.fB,(.slice ua3 ul3 uc3)]);by_cases h0:a.zC=b.zC
 ·have e0:(a.zC == b.zC)=true:=by simp[h0]
  have H0:=xL h0;clear h0;by_cases h1:a.fA=b.fA
  ·have e1:(a.fA == b.fA)=true:=by simp[h1]
   have H1:=xL h1;clear h1;by_cases h2:a.fB=b.fB
   ·have e2:(a.fB == b.fB)=true:=by simp[h2]
    have H2:=xL h2;clear h2;by_cases h3:a.zK=b.zK
    ·have c3:decide (a.zK=b.zK)=true:=by simp[h3]
     have H3:=xL h3;clear h3
     go_enter Tryz.func151,Tryz.ntmps151
     go_wp2_with fail
     refine(c_same _ _ a.zK b.zK _ (T.yZ.1 (T.yH R3.out HB0.out)) (T.yZ.1 (T.yH Q3.out HB0.out))).mono ?_;rintro e w1 ⟨rfl,hd⟩;rw[c3];have hb:Below (((w.alloc (.cells #[.int .i64 a.zC,.int .i64 a.fA,.int .i64 a.fB,(.slice va3 vl3 vc3)] 120)).alloc (.cells #[.int .i64 b.zC,.int .i64 b.fA,.int .i64 b.fB,(.slice ua3 ul3 uc3)] 120))).heap.size ((w.alloc (.cells #[.int .i64 a.zC,.int .i64 a.fA,.int .i64 a.fB,(.slice va3 vl3 vc3)] 120)).alloc (.cells #[.int .i64 b.zC,.int .i64 b.fA,.int .i64 b.fB,(.slice ua3 ul3 uc3)] 120)) w1:=by first|exact hd.to_below _|exact hd
     have HKA1:=xL (HKA0.out.below hb HKA0.out.lt);have HKB1:=xL (HKB0.out.below hb HKB0.out.lt);have HB1:=xL (yM HB0.out HB0.out.size hb);clear hb hd;have ka1:=HKA1.out.cell;have kb1:=HKB1.out.cell;go_wp2;go_ret
     exact⟨yK (by rw[HAB.out];simp[H0.out,H1.out,H2.out,H3.out]),HB1.out⟩
    ·have c3:decide (a.zK=b.zK)=false:=by simp[h3]
     have H3:=xL h3;clear h3
     go_enter Tryz.func151,Tryz.ntmps151
     go_wp2_with fail
     refine(c_same _ _ a.zK b.zK _ (T.yZ.1 (T.yH R3.out HB0.out)) (T.yZ.1 (T.yH Q3.out HB0.out))).mono ?_;rintro e w1 ⟨rfl,hd⟩;rw[c3];have hb:Below (((w.alloc (.cells #[.int .i64 a.zC,.int .i64 a.fA,.int .i64 a.fB,(.slice va3 vl3 vc3)] 120)).alloc (.cells #[.int .i64 b.zC,.int .i64 b.fA,.int .i64 b.fB,(.slice ua3 ul3 uc3)] 120))).heap.size ((w.alloc (.cells #[.int .i64 a.zC,.int .i64 a.fA,.int .i64 a.fB,(.slice va3 vl3 vc3)] 120)).alloc (.cells #[.int .i64 b.zC,.int .i64 b.fA,.int .i64 b.fB,(.slice ua3 ul3 uc3)] 120)) w1:=by first|exact hd.to_below _|exact hd
     have HKA1:=xL (HKA0.out.below hb HKA0.out.lt);have HKB1:=xL (HKB0.out.below hb HKB0.out.lt);have HB1:=xL (yM HB0.out HB0.out.size hb);clear hb hd;have ka1:=HKA1.out.cell;have kb1:=HKB1.out.cell;go_wp2;go_ret
     exact⟨yK (by rw[HAB.out];simp[H0.out,H1.out,H2.out,H3.out]),HB1.out⟩
   ·have e2:(a.fB == b.fB)=false:=by simp[h2]
    have H2:=xL h2;clear h2
    go_enter Tryz.func151,Tryz.ntmps151
    go_wp2;go_ret
    exact⟨yK (by rw[HAB.out];simp[H0.out,H1.out,H2.out]),HB0.out⟩
  ·have e1:(a.fA == b.fA)=false:=by simp[h1]
   have H1:=xL h1;clear h1
   go_enter Tryz.func151,Tryz.ntmps151
   go_wp2;go_ret
   exact⟨yK (by rw[HAB.out];simp[H0.out,H1.out]),HB0.out⟩
 ·have e0:(a.zC == b.zC)=false:=by simp[h0]
  have H0:=xL h0;clear h0
  go_enter Tryz.func151,Tryz.ntmps151
  go_wp2;go_ret
  exact⟨yK (by rw[HAB.out];simp[H0.out]),HB0.out⟩
end
section
open Go.RowKit
theorem xAz.le {l:List xV} {p n:Int} (h:xAz l p n):l.length≤4:=by
 by_cases e:p=n - 1
 ·have:=h.last e;omega
 ·exact(h.few e).2
theorem c_l26Strip (x:xO) (b o:Nat) (k:Int) (n:Int) (w:World) (k0:0≤k) (k1:k≤1048576) (n0:0≤n) (n1:n≤1048576) (h:T.at w x.fs b o):Calls Tryz.prog 104 #[.pointer (some ⟨b,o,none⟩),.int .i64 k,.int .i64 n] w fun e w'=>e= .returned (.bool (tf (StripOk x k n)))∧Below w.heap.size w w':=by
 have HAT:=xL h;obtain⟨hlt0,cs,hr,hc⟩:=h;obtain⟨v2,rfl,h2⟩:=xO.yR hr;clear hr;obtain⟨va2,vc2,rfl,vl2,vm2,R2,HX2⟩:=oG h2;clear h2;have HL:=xL hlt0;have HCC:=xL hc;have HB0:=xL (Below.refl w.heap.size w);clear hlt0 hc;have p0:w.cell? ⟨b,o,none⟩=some (.string x.yC):=(HB0.out.cell HL.out).trans (HCC.out 0 _ rfl);have p1:w.cell? ⟨b,o+1,none⟩=some (.int .i64 x.yA):=(HB0.out.cell HL.out).trans (HCC.out 1 _ rfl);have p2:w.cell? ⟨b,o+2,none⟩=some (.slice va2 x.zV.length vc2):=(HB0.out.cell HL.out).trans (HCC.out 2 _ rfl);have lb:b<w.heap.size:=zW HL.out HB0.out.size
 go_enter Tryz.func104,Tryz.ntmps104
 by_cases q1:NameOk x.yC
 rotate_left
 ·have a1:=xE q1;have Q1:=xL q1;clear q1
  go_wp2_with (first|(go_at_call 133;refine(zWz _ _).mono ?_;rintro e w' ⟨rfl,rfl⟩;rw[a1])|(go_at_call 67;refine(xZ _ _ _ _).mono ?_;rintro e w' ⟨rfl,rfl⟩)|(go_at_call 84;refine(wH _ _).mono ?_;rintro e w' ⟨rfl,rfl⟩))
  go_ret
  exact⟨yK (xE fun h=>Q1.out h.name).symm,HB0.out⟩
 have a1:=xG q1;have Q1:=xL q1;clear q1;by_cases q2:inB x.yA 0 32=true
 rotate_left
 ·have q2':inB x.yA 0 32=false:=(by simpa using q2)
  go_wp2_with (first|(go_at_call 133;refine(zWz _ _).mono ?_;rintro e w' ⟨rfl,rfl⟩;rw[a1])|(go_at_call 67;refine(xZ _ _ _ _).mono ?_;rintro e w' ⟨rfl,rfl⟩)|(go_at_call 84;refine(wH _ _).mono ?_;rintro e w' ⟨rfl,rfl⟩))
  go_ret
  exact⟨yK (xE fun h=>q2 h.latency).symm,HB0.out⟩
 skip
 by_cases q3:x.zV.length≤4
 rotate_left
 ·skip
  go_wp2_with (first|(go_at_call 133;refine(zWz _ _).mono ?_;rintro e w' ⟨rfl,rfl⟩;rw[a1])|(go_at_call 67;refine(xZ _ _ _ _).mono ?_;rintro e w' ⟨rfl,rfl⟩)|(go_at_call 84;refine(wH _ _).mono ?_;rintro e w' ⟨rfl,rfl⟩))
  go_ret
  exact⟨yK (xE fun h=>q3 h.sends.le).symm,HB0.out⟩
 have Q3:=xL q3;by_cases zl:k=n - 1
 ·by_cases zz:x.zV.length=0
  rotate_left
  ·have z1:((x.zV.length:Int) == 0)=false:=yX zM;have z2:(k == n - 1)=true:=yY zl;have ZL:=xL zl;have ZZ:=xL zz;clear zl zz
   go_wp2_with (first|(go_at_call 133;refine(zWz _ _).mono ?_;rintro e w' ⟨rfl,rfl⟩;rw[a1])|(go_at_call 67;refine(xZ _ _ _ _).mono ?_;rintro e w' ⟨rfl,rfl⟩)|(go_at_call 84;refine(wH _ _).mono ?_;rintro e w' ⟨rfl,rfl⟩))
   go_ret
   exact⟨yK (xE fun h=>ZZ.out (h.sends.last ZL.out)).symm,HB0.out⟩
  have z1:((x.zV.length:Int) == 0)=true:=yY zM;have z2:(k == n - 1)=true:=yY zl;have ZL:=xL zl;have ZZ:=xL zz;clear zl zz;go_wp2_with (first|(go_at_call 133;refine(zWz _ _).mono ?_;rintro e w' ⟨rfl,rfl⟩;rw[a1])|(go_at_call 67;refine(xZ _ _ _ _).mono ?_;rintro e w' ⟨rfl,rfl⟩)|(go_at_call 84;refine(wH _ _).mono ?_;rintro e w' ⟨rfl,rfl⟩))
  clear p0 p1 p2 lb z1 z2
  go_loopw [7,8] (fun bv i wr=> ∃ (j:Nat) (bf:Int),j≤x.zV.length∧i= .int .i64 j∧bv= .int .i64 bf∧bf=befS x.zV k j∧0≤bf∧bf≤1048576∧vF x.zV (fun i x_1=>inB x_1.yG (befS x.zV k i+1) (n - 1)=true∧Smp x_1.zZ) j∧Below w.heap.size w wr) (fun _ i _=>x.zV.length - (intOf i).toNat)
  case atStart=>exact⟨0,k,Nat.zero_le _,rfl,rfl,rfl,k0,k1,vF.zero,zR⟩
  case round=>
   obtain⟨j,bf,hk,rfl,rfl,hbf,b0,b1',hs,hbw⟩:=hrel;have HS:=xL hs;have HB:=xL hbw;have HBF:=xL hbf;clear hs hbw hbf;have p0:wr.cell? ⟨b,o,none⟩=some (.string x.yC):=(HB.out.cell HL.out).trans (HCC.out 0 _ rfl);have p1:wr.cell? ⟨b,o+1,none⟩=some (.int .i64 x.yA):=(HB.out.cell HL.out).trans (HCC.out 1 _ rfl);have p2:wr.cell? ⟨b,o+2,none⟩=some (.slice va2 x.zV.length vc2):=(HB.out.cell HL.out).trans (HCC.out 2 _ rfl);have lb:b<wr.heap.size:=zW HL.out HB.out.size;by_cases hlt:j<x.zV.length
   rotate_left
   ·have hall:=xL (HS.out.all zM);clear HS
    go_wp2;go_ret
    exact⟨yK (xG ⟨Q1.out,q2,⟨hall.out,fun _=>ZZ.out,fun h=>absurd ZL.out h⟩⟩).symm,HB.out⟩
   have hgk:=gE hlt;obtain⟨b1,off,csy,hA,hb1,hcs,hcell⟩:=HX2.out j x.zV[j] hgk;subst hA;generalize x.zV[j]=y at *;have HG:=xL hgk;clear hgk;have HAy:=xL (T.at_elem (o:=off+j * 2) hb1 (show T.rds w y.fs csy by simpa only[xV.t,T.rd] using hcs) hcell zM);clear hcs hcell;obtain⟨_,csy',hry,hcy⟩:=HAy.out;obtain rfl:=xV.yR hry;have cy0:wr.cell? ⟨b1,off+j * 2,none⟩=some (.int .i64 y.yG):=(HB.out.cell hb1).trans (hcy 0 _ rfl);have cy1:wr.cell? ⟨b1,off+j * 2+1,none⟩=some (.int .i64 y.zZ):=(HB.out.cell hb1).trans (hcy 1 _ rfl);have hq1:b1<wr.heap.size:=zW hb1 HB.out.size;clear hry hcy;by_cases s1:inB y.yG (bf+1) (n - 1)=true
   rotate_left
   ·have s1':inB y.yG (bf+1) (n - 1)=false:=(by simpa using s1)
    go_wp2_with (first|(go_at_call 67;refine(xZ _ _ _ _).mono ?_;rintro e w' ⟨rfl,rfl⟩)|(go_at_call 84;refine(wH _ _).mono ?_;rintro e w' ⟨rfl,rfl⟩))
    go_ret
    exact⟨yK (xE fun h=>by have:=(h.sends.each j y HG.out).1;rw[←HBF.out] at this;exact s1 this).symm,HB.out⟩
   have i1:=xI.1 s1;have S1:=xL s1;by_cases s2:Smp y.zZ
   rotate_left
   ·have s2':decide (Smp y.zZ)=false:=decide_eq_false s2;have S2:=xL s2;clear s2
    go_wp2_with (first|(go_at_call 67;refine(xZ _ _ _ _).mono ?_;rintro e w' ⟨rfl,rfl⟩)|(go_at_call 84;refine(wH _ _).mono ?_;rintro e w' ⟨rfl,rfl⟩))
    go_ret
    exact⟨yK (xE fun h=>S2.out (h.sends.each j y HG.out).2).symm,HB.out⟩
   have s2':decide (Smp y.zZ)=true:=decide_eq_true s2;have S2:=xL s2;clear s2;go_wp2_with (first|(go_at_call 67;refine(xZ _ _ _ _).mono ?_;rintro e w' ⟨rfl,rfl⟩)|(go_at_call 84;refine(wH _ _).mono ?_;rintro e w' ⟨rfl,rfl⟩))
   go_roundw
   case rel=>exact⟨j+1,y.yG,by omega,by go_num,rfl,(befS_succ HG.out).symm,by omega,by omega,HS.out.step HG.out ⟨by rw[←HBF.out];exact S1.out,S2.out⟩,HB.out⟩
   case measure=>simp[intOf];omega
 ·by_cases zz:x.zV.length=0
  ·have z1:((x.zV.length:Int) == 0)=true:=yY zM;have z2:(k == n - 1)=false:=yX zl;have ZL:=xL zl;have ZZ:=xL zz;clear zl zz
   go_wp2_with (first|(go_at_call 133;refine(zWz _ _).mono ?_;rintro e w' ⟨rfl,rfl⟩;rw[a1])|(go_at_call 67;refine(xZ _ _ _ _).mono ?_;rintro e w' ⟨rfl,rfl⟩)|(go_at_call 84;refine(wH _ _).mono ?_;rintro e w' ⟨rfl,rfl⟩))
   go_ret
   exact⟨yK (xE fun h=>by have:=(h.sends.few ZL.out).1;have:=ZZ.out;omega).symm,HB0.out⟩
  have z1:((x.zV.length:Int) == 0)=false:=yX zM;have z2:(k == n - 1)=false:=yX zl;have ZL:=xL zl;have ZZ:=xL zz;clear zl zz;go_wp2_with (first|(go_at_call 133;refine(zWz _ _).mono ?_;rintro e w' ⟨rfl,rfl⟩;rw[a1])|(go_at_call 67;refine(xZ _ _ _ _).mono ?_;rintro e w' ⟨rfl,rfl⟩)|(go_at_call 84;refine(wH _ _).mono ?_;rintro e w' ⟨rfl,rfl⟩))
  clear p0 p1 p2 lb z1 z2
  go_loopw [7,8] (fun bv i wr=> ∃ (j:Nat) (bf:Int),j≤x.zV.length∧i= .int .i64 j∧bv= .int .i64 bf∧bf=befS x.zV k j∧0≤bf∧bf≤1048576∧vF x.zV (fun i x_1=>inB x_1.yG (befS x.zV k i+1) (n - 1)=true∧Smp x_1.zZ) j∧Below w.heap.size w wr) (fun _ i _=>x.zV.length - (intOf i).toNat)
  case atStart=>exact⟨0,k,Nat.zero_le _,rfl,rfl,rfl,k0,k1,vF.zero,zR⟩
  case round=>
   obtain⟨j,bf,hk,rfl,rfl,hbf,b0,b1',hs,hbw⟩:=hrel;have HS:=xL hs;have HB:=xL hbw;have HBF:=xL hbf;clear hs hbw hbf;have p0:wr.cell? ⟨b,o,none⟩=some (.string x.yC):=(HB.out.cell HL.out).trans (HCC.out 0 _ rfl);have p1:wr.cell? ⟨b,o+1,none⟩=some (.int .i64 x.yA):=(HB.out.cell HL.out).trans (HCC.out 1 _ rfl);have p2:wr.cell? ⟨b,o+2,none⟩=some (.slice va2 x.zV.length vc2):=(HB.out.cell HL.out).trans (HCC.out 2 _ rfl);have lb:b<wr.heap.size:=zW HL.out HB.out.size;by_cases hlt:j<x.zV.length
   rotate_left
   ·have hall:=xL (HS.out.all zM);clear HS
    go_wp2;go_ret
    exact⟨yK (xG ⟨Q1.out,q2,⟨hall.out,fun h=>absurd h ZL.out,fun _=>⟨by have:=ZZ.out;omega,Q3.out⟩⟩⟩).symm,HB.out⟩
   have hgk:=gE hlt;obtain⟨b1,off,csy,hA,hb1,hcs,hcell⟩:=HX2.out j x.zV[j] hgk;subst hA;generalize x.zV[j]=y at *;have HG:=xL hgk;clear hgk;have HAy:=xL (T.at_elem (o:=off+j * 2) hb1 (show T.rds w y.fs csy by simpa only[xV.t,T.rd] using hcs) hcell zM);clear hcs hcell;obtain⟨_,csy',hry,hcy⟩:=HAy.out;obtain rfl:=xV.yR hry;have cy0:wr.cell? ⟨b1,off+j * 2,none⟩=some (.int .i64 y.yG):=(HB.out.cell hb1).trans (hcy 0 _ rfl);have cy1:wr.cell? ⟨b1,off+j * 2+1,none⟩=some (.int .i64 y.zZ):=(HB.out.cell hb1).trans (hcy 1 _ rfl);have hq1:b1<wr.heap.size:=zW hb1 HB.out.size;clear hry hcy;by_cases s1:inB y.yG (bf+1) (n - 1)=true
   rotate_left
   ·have s1':inB y.yG (bf+1) (n - 1)=false:=(by simpa using s1)
    go_wp2_with (first|(go_at_call 67;refine(xZ _ _ _ _).mono ?_;rintro e w' ⟨rfl,rfl⟩)|(go_at_call 84;refine(wH _ _).mono ?_;rintro e w' ⟨rfl,rfl⟩))
    go_ret
    exact⟨yK (xE fun h=>by have:=(h.sends.each j y HG.out).1;rw[←HBF.out] at this;exact s1 this).symm,HB.out⟩
   have i1:=xI.1 s1;have S1:=xL s1;by_cases s2:Smp y.zZ
   rotate_left
   ·have s2':decide (Smp y.zZ)=false:=decide_eq_false s2;have S2:=xL s2;clear s2
    go_wp2_with (first|(go_at_call 67;refine(xZ _ _ _ _).mono ?_;rintro e w' ⟨rfl,rfl⟩)|(go_at_call 84;refine(wH _ _).mono ?_;rintro e w' ⟨rfl,rfl⟩))
    go_ret
    exact⟨yK (xE fun h=>S2.out (h.sends.each j y HG.out).2).symm,HB.out⟩
   have s2':decide (Smp y.zZ)=true:=decide_eq_true s2;have S2:=xL s2;clear s2;go_wp2_with (first|(go_at_call 67;refine(xZ _ _ _ _).mono ?_;rintro e w' ⟨rfl,rfl⟩)|(go_at_call 84;refine(wH _ _).mono ?_;rintro e w' ⟨rfl,rfl⟩))
   go_roundw
   case rel=>exact⟨j+1,y.yG,by omega,by go_num,rfl,(befS_succ HG.out).symm,by omega,by omega,HS.out.step HG.out ⟨by rw[←HBF.out];exact S1.out,S2.out⟩,HB.out⟩
   case measure=>simp[intOf];omega
theorem xFz (x:uP) (b o:Nat) (w:World) (hn:x.zF.length≤1048576) (h:T.at w x.fs b o):Calls Tryz.prog 68 #[.pointer (some ⟨b,o,none⟩)] w fun e w'=>e= .returned (.bool (tf (MixerOk x)))∧Below w.heap.size w w':=by
 have HAT:=xL h;obtain⟨hlt0,cs,hr,hc⟩:=h;obtain⟨v0,rfl,h0⟩:=uP.yR hr;clear hr;obtain⟨va0,vc0,rfl,vl0,vm0,R0,HX0⟩:=oG h0;clear h0;have HL:=xL hlt0;have HCC:=xL hc;have HB0:=xL (Below.refl w.heap.size w);clear hlt0 hc;have p0:w.cell? ⟨b,o,none⟩=some (.slice va0 x.zF.length vc0):=(HB0.out.cell HL.out).trans (HCC.out 0 _ rfl);have lb:b<w.heap.size:=zW HL.out HB0.out.size
 go_enter Tryz.func68,Tryz.ntmps68
 by_cases q1:inB (x.zF.length:Int) 1 8=true
 rotate_left
 ·have q1':inB (x.zF.length:Int) 1 8=false:=(by simpa using q1)
  go_wp2_with (go_at_call 67;refine(xZ _ _ _ _).mono ?_;rintro e w' ⟨rfl,rfl⟩)
  go_ret
  exact⟨yK (xE fun h=>q1 (xI.2 ⟨by have:=h.some_;omega,by have:=h.few;omega⟩)).symm,HB0.out⟩
 have i1:=xI.1 q1;go_wp2_with (go_at_call 67;refine(xZ _ _ _ _).mono ?_;rintro e w' ⟨rfl,rfl⟩)
 clear p0 lb
 go_loopw [4] (fun i wr=> ∃ k:Nat,k≤x.zF.length∧i= .int .i64 k∧vF x.zF (fun i x_1=>StripOk x_1 (i:Int) (x.zF.length:Int)∧ ∀ j y,j<i→x.zF[j]?=some y→y.yC≠x_1.yC) k∧Below w.heap.size w wr) (fun i _=>x.zF.length - (intOf i).toNat)
 case atStart=>exact⟨0,Nat.zero_le _,rfl,vF.zero,zR⟩
 case round=>
  obtain⟨k,hk,rfl,hs,hbw⟩:=hrel;have HS:=xL hs;have HW:=xL hbw;have HB:=xL (yM HB0.out HB0.out.size hbw);clear hs hbw;have p0:wr.cell? ⟨b,o,none⟩=some (.slice va0 x.zF.length vc0):=(HB.out.cell HL.out).trans (HCC.out 0 _ rfl);have lb:b<wr.heap.size:=zW HL.out HB.out.size;by_cases hlt:k<x.zF.length
  rotate_left
  ·have hall:=xL (HS.out.all zM);clear HS
   go_wp2;go_ret
   exact⟨yK (xG ⟨by omega,by omega,hall.out⟩).symm,HB.out⟩
  have hgk:=gE hlt;obtain⟨b1,off,csy,hA,hb1,hcs,hcell⟩:=HX0.out k x.zF[k] hgk;subst hA;generalize x.zF[k]=y at *;have HG:=xL hgk;clear hgk;have HAy:=xL (T.at_elem (o:=off+k * 3) hb1 (show T.rds w y.fs csy by simpa only[xO.t,T.rd] using hcs) hcell zM);clear hcs hcell;have n1:((k:Int)<(x.zF.length:Int)):=by omega
  go_wp2_with fail
  refine(c_l26Strip y _ _ (k:Int) (x.zF.length:Int) _ zM zM zM zM (T.at_below HAy.out HB.out)).mono ?_;rintro e w3 ⟨rfl,hb3⟩;have HW3:=xL (yM HW.out HW.out.size hb3);have HB3:=xL (yM HB.out HB.out.size hb3);clear hb3 p0 lb;have p0:w3.cell? ⟨b,o,none⟩=some (.slice (some ⟨b1,off,none⟩) x.zF.length vc0):=(HB3.out.cell HL.out).trans (HCC.out 0 _ rfl);have lb:b<w3.heap.size:=zW HL.out HB3.out.size;by_cases q2:StripOk y (k:Int) (x.zF.length:Int)
  rotate_left
  ·rw[xE q2];have Q2:=xL q2;clear q2
   go_wp2;go_ret
   exact⟨yK (xE fun h=>Q2.out (h.each k y HG.out).1).symm,HB3.out⟩
  rw[xG q2];have Q2:=xL q2;clear q2;go_wp2;clear p0 lb
  go_loopw [5] (fun i ws=> ∃ m:Nat,m≤k∧i= .int .i64 m∧(∀ j z,j<m→x.zF[j]?=some z→z.yC≠y.yC)∧Below w3.heap.size w3 ws) (fun i _=>k - (intOf i).toNat)
  case atStart=>exact⟨0,Nat.zero_le _,rfl,fun j z h=>absurd h zM,zR⟩
  case round=>
   obtain⟨m,hm,rfl,hn2,hbs⟩:=hrel;have HN:=xL hn2;have HW4:=xL (yM HW3.out HW3.out.size hbs);have HB4:=xL (yM HB3.out HB3.out.size hbs);have HS4:=xL hbs;clear hn2 hbs;have p0:wr.cell? ⟨b,o,none⟩=some (.slice (some ⟨b1,off,none⟩) x.zF.length vc0):=(HB4.out.cell HL.out).trans (HCC.out 0 _ rfl);have lb:b<wr.heap.size:=zW HL.out HB4.out.size;by_cases hltm:m<k
   rotate_left
   ·obtain rfl:m=k:=by omega
    go_wp2
    go_roundw
    case rel=>exact⟨m+1,by omega,by go_num,HS.out.step HG.out ⟨Q2.out,HN.out⟩,HW4.out⟩
    case measure=>simp[intOf];omega
   have hltz:m<x.zF.length:=by omega
   have hgk:=gE hltz;obtain⟨b2,off2,csz,hA,hb2,hcs,hcell⟩:=HX0.out m x.zF[m] hgk;obtain⟨rfl,rfl⟩:b1=b2∧off=off2:=by injection hA with hA;injection hA with e1 e2;exact⟨e1,e2⟩
   clear hA;generalize x.zF[m]=z at *;have HJ:=xL hgk;clear hgk;have HAz:=xL (T.at_elem (o:=off+m * 3) hb2 (show T.rds w z.fs csz by simpa only[xO.t,T.rd] using hcs) hcell zM);clear hcs hcell;obtain⟨_,csy',hry,hcy⟩:=HAy.out;obtain⟨_,rfl,_⟩:=xO.yR hry;have cy0:wr.cell? ⟨b1,off+k * 3,none⟩=some (.string y.yC):=(HB4.out.cell hb1).trans (hcy 0 _ rfl);clear hry hcy;obtain⟨_,csz',hrz,hcz⟩:=HAz.out;obtain⟨_,rfl,_⟩:=xO.yR hrz;have cz0:wr.cell? ⟨b1,off+m * 3,none⟩=some (.string z.yC):=(HB4.out.cell hb1).trans (hcz 0 _ rfl);clear hrz hcz;have n2:((m:Int)<(x.zF.length:Int)):=by omega
   by_cases q3:z.yC=y.yC
   ·have e3:(z.yC.toList == y.yC.toList)=true:=by rw[str_eq];exact decide_eq_true q3
    have Q3:=xL q3;clear q3;go_wp2;have g0:=yI p0;have g1:=yI cy0;have g2:=yI cz0;refine rB ?_
    repeat(first|go_big_quiet_skip|(go_big_quiet_want;go_big_quiet_op;first|go_big_quiet_on|(apply Exists.intro;refine⟨fun _=>?_,?_⟩;(· (fail));go_big_quiet_on)))
    refine wpQuiet_nil ?_;rintro w9 ⟨uu,rfl⟩;have hb9:=yJ wr uu;generalize bel wr uu=w9 at *;have HB9:=xL (yM HB4.out HB4.out.size hb9);clear g0 g1 g2;go_wp2;go_ret
    exact⟨yK (xE fun h=>(h.each k y HG.out).2 m z hltm HJ.out Q3.out).symm,HB9.out⟩
   have e3:(z.yC.toList == y.yC.toList)=false:=by rw[str_eq];exact decide_eq_false q3
   have Q3:=xL q3;clear q3;go_wp2;have g0:=yI p0;have g1:=yI cy0;have g2:=yI cz0;refine rB ?_
   repeat(first|go_big_quiet_skip|(go_big_quiet_want;go_big_quiet_op;first|go_big_quiet_on|(apply Exists.intro;refine⟨fun _=>?_,?_⟩;(· (fail));go_big_quiet_on)))
   refine wpQuiet_nil ?_;rintro w9 ⟨uu,rfl⟩;have hb9:=yJ wr uu;generalize bel wr uu=w9 at *;have HB9:=xL (yM HB4.out HB4.out.size hb9);clear g0 g1 g2;have HS9:=xL (yM HS4.out HS4.out.size hb9);clear hb9;go_wp2
   go_roundw
   case rel=>exact⟨m+1,by omega,by go_num,fun j z' h hz=>by
    by_cases e:j=m
    ·subst e;rw[HJ.out] at hz;injection hz with hz;subst hz;exact Q3.out
    ·exact HN.out j z' zM hz,HS9.out⟩
   case measure=>simp[intOf];omega
end
end Go.Proofs.YtdcofkabaigjpaaGreat
