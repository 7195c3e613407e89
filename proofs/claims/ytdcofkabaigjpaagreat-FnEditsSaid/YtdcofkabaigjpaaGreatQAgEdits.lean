/- Contracts: which nested data are the same. Contracts: what is valid, by the reference: strips, mixers. -/
import Derived.Test.YtdcofkabaigjpaaGreatQAfEdits
import Derived.Laws.StructEq
import Derived.Test.YtdcofkabaigjpaaGreatQAdEdits
set_option linter.unusedVariables false
set_option linter.unusedSimpArgs false
set_option maxHeartbeats 2000000
set_option maxRecDepth 20000
namespace Go.Proofs.YtdcofkabaigjpaaGreat
section
open Go.RowKit
theorem eq_Clip (d:Nat) (x y:xU) (w:World):(Op.equalIn (d+2) 39 (.agg #[.int .i64 x.zV,.int .i64 x.zO,.int .i64 x.zB,.int .i64 x.yE,.int .i64 x.yB]) (.agg #[.int .i64 y.zV,.int .i64 y.zO,.int .i64 y.zB,.int .i64 y.yE,.int .i64 y.yB])).run Tryz.prog w= .ok (decide (x=y)) w:=by
 have u2:=Tryz.underlying2;have a2:=Tryz.isAgg2;have z2:=Tryz.sizeOf2;have hS:Tryz.prog.underlying 39=some (.struct (Tryz.prog.fieldsOf 39)):=by kernel_rfl
 rw[show d+2=(d+1)+1 from rfl,run_equalIn_agg w (d+1) 39 _ _ hS (by kernel_rfl)];simp only[Program.fieldsOf,Tryz.underlying39];go_simp;obtain⟨x0,x1,x2,x3,x4⟩:=x;obtain⟨y0,y1,y2,y3,y4⟩:=y;simp only[xU.mk.injEq];by_cases h0:x0=y0<;>by_cases h1:x1=y1<;>by_cases h2:x2=y2<;>by_cases h3:x3=y3<;>by_cases h4:x4=y4<;>simp[h0,h1,h2,h3,h4]
theorem eqg_Clip:Tryz.prog.eqGuardType Tryz.prog.depth 39=false:=by kernel_rfl
theorem eq_Send (d:Nat) (x y:xV) (w:World):(Op.equalIn (d+2) 71 (.agg #[.int .i64 x.yI,.int .i64 x.yB]) (.agg #[.int .i64 y.yI,.int .i64 y.yB])).run Tryz.prog w= .ok (decide (x=y)) w:=by
 have u2:=Tryz.underlying2;have a2:=Tryz.isAgg2;have z2:=Tryz.sizeOf2;have hS:Tryz.prog.underlying 71=some (.struct (Tryz.prog.fieldsOf 71)):=by kernel_rfl
 rw[show d+2=(d+1)+1 from rfl,run_equalIn_agg w (d+1) 71 _ _ hS (by kernel_rfl)];simp only[Program.fieldsOf,Tryz.underlying71];go_simp;obtain⟨x0,x1⟩:=x;obtain⟨y0,y1⟩:=y;simp only[xV.mk.injEq];by_cases h0:x0=y0<;>by_cases h1:x1=y1<;>simp[h0,h1]
theorem eqg_Send:Tryz.prog.eqGuardType Tryz.prog.depth 71=false:=by kernel_rfl
theorem yTy (a b:xS) (v u:Value) (w:World) (hr:T.rd w (T.sl 39 5 (a.zS.map xU.t)) [v]) (ht:T.rd w (T.sl 39 5 (b.zS.map xU.t)) [u]):
  Calls Tryz.prog 29 #[.agg #[v],.agg #[u]] w fun e w'=>e= .returned (.bool (decide (a=b)))∧Below w.heap.size w w':=by
 obtain⟨xs⟩:=a;obtain⟨ys⟩:=b;simp only at hr ht;obtain⟨A1,cap1,rfl,hl1,hc1,hx1⟩:=T.yT hr;obtain⟨A2,cap2,rfl,hl2,hc2,hx2⟩:=T.yT ht;rw[List.length_map] at hl1 hl2 ⊢;rw[List.length_map];have HX1:=xN hx1;have HX2:=xN hx2;clear hx1 hx2 hr ht;by_cases hll:xs.length=ys.length
 ·have hb:((xs.length:Int) != (ys.length:Int))=false:=by simp[hll]
  have HL:=xN hll;clear hll;have hgd:=eqg_Clip
  go_enter Tryz.func29,Tryz.ntmps29
  have HB0:=xN (show Below w.heap.size w ((w.alloc (.cells #[(.slice A1 xs.length cap1)] 69)).alloc (.cells #[(.slice A2 ys.length cap2)] 69)) from(zR.alloc zJ _).alloc zQ _);have HKA:=xN ((Bk.born w 69 #[(.slice A1 xs.length cap1)]).alloc (.cells #[(.slice A2 ys.length cap2)] 69));have HKB:=xN (Bk.born1' w (.cells #[(.slice A1 xs.length cap1)] 69) 69 #[(.slice A2 ys.length cap2)]);go_wp2
  go_loopw [5] (fun i wr=> ∃ k:Nat,k≤xs.length∧i= .int .i64 k∧xs.take k=ys.take k∧Below (w.heap.size+2) ((w.alloc (.cells #[(.slice A1 xs.length cap1)] 69)).alloc (.cells #[(.slice A2 ys.length cap2)] 69)) wr) (fun i _=>xs.length - (intOf i).toNat)
  case atStart=>exact⟨0,Nat.zero_le _,rfl,rfl,zR⟩
  case round=>
   obtain⟨k,hk,rfl,hs,hbw⟩:=hrel;have HS:=xN hs;have HW:=xN hbw;have hsz:=hbw.size;clear hs hbw;have hsz2:w.heap.size+2≤wr.heap.size:=by simpa using hsz
   clear hsz;have HB:=xN (show Below w.heap.size w wr from yO HB0.o zQ (HW.o.mono zQ));have ka:=(HKA.o.below HW.o zQ).cell;have kb:=(HKB.o.below HW.o zQ).cell;have la:w.heap.size<wr.heap.size:=by omega
   have lb:w.heap.size+1<wr.heap.size:=by omega
   by_cases hlt:k<xs.length
   ·have hlt2:k<ys.length:=by have:=HL.o;omega
    obtain⟨b1,o1,cs1,rfl,hbw1,hcs1,hcell1⟩:=HX1.o k (xU.t xs[k]) (by rw[List.getElem?_map,gE hlt];rfl);obtain⟨b2,o2,cs2,rfl,hbw2,hcs2,hcell2⟩:=HX2.o k (xU.t ys[k]) (by rw[List.getElem?_map,gE hlt2];rfl);have hg1:=gE hlt;have hg2:=gE hlt2;generalize xs[k]=x at *;generalize ys[k]=y at *;have HG1:=xN hg1;have HG2:=xN hg2;clear hg1 hg2;obtain rfl:=xU.yT (show T.rds _ _ _ by simpa only[xU.t,T.rd] using hcs1);have d0:=(HB.o.cell hbw1).trans (hcell1 0 _ rfl);rw[show o1+(k * 5+0)=o1+k * 5 by omega] at d0;have d1:=(HB.o.cell hbw1).trans (hcell1 1 _ rfl);rw[show o1+(k * 5+1)=o1+k * 5+1 by omega] at d1;have d2:=(HB.o.cell hbw1).trans (hcell1 2 _ rfl);rw[show o1+(k * 5+2)=o1+k * 5+2 by omega] at d2;have d3:=(HB.o.cell hbw1).trans (hcell1 3 _ rfl);rw[show o1+(k * 5+3)=o1+k * 5+3 by omega] at d3;have d4:=(HB.o.cell hbw1).trans (hcell1 4 _ rfl);rw[show o1+(k * 5+4)=o1+k * 5+4 by omega] at d4;have hq1:b1<wr.heap.size:=zW hbw1 HB.o.size;obtain rfl:=xU.yT (show T.rds _ _ _ by simpa only[xU.t,T.rd] using hcs2);have g0:=(HB.o.cell hbw2).trans (hcell2 0 _ rfl);rw[show o2+(k * 5+0)=o2+k * 5 by omega] at g0;have g1:=(HB.o.cell hbw2).trans (hcell2 1 _ rfl);rw[show o2+(k * 5+1)=o2+k * 5+1 by omega] at g1;have g2:=(HB.o.cell hbw2).trans (hcell2 2 _ rfl);rw[show o2+(k * 5+2)=o2+k * 5+2 by omega] at g2;have g3:=(HB.o.cell hbw2).trans (hcell2 3 _ rfl);rw[show o2+(k * 5+3)=o2+k * 5+3 by omega] at g3;have g4:=(HB.o.cell hbw2).trans (hcell2 4 _ rfl);rw[show o2+(k * 5+4)=o2+k * 5+4 by omega] at g4;have hq2:b2<wr.heap.size:=zW hbw2 HB.o.size;clear hcs1 hcs2 hcell1 hcell2;have heq: ∀ w,(Op.equalIn 10000 39 (.agg #[.int .i64 x.zV,.int .i64 x.zO,.int .i64 x.zB,.int .i64 x.yE,.int .i64 x.yB]) (.agg #[.int .i64 y.zV,.int .i64 y.zO,.int .i64 y.zB,.int .i64 y.yE,.int .i64 y.yB])).run Tryz.prog w= .ok (decide (x=y)) w:=eq_Clip 9998 x y;have hW:=HW.o;have hB:=HB.o;by_cases he:x=y
    ·have hde:decide (x=y)=true:=decide_eq_true he
     rw[hde] at heq;have HE:=xN he;clear he hde;go_wp2
     go_quiet (fail)
     go_wp2
     go_roundw
     case rel=>exact⟨k+1,by omega,by go_num,uW HS.o HG1.o (by rw[HE.o];exact HG2.o),ba⟩
     case measure=>simp[intOf];omega
    ·have hde:decide (x=y)=false:=decide_eq_false he
     rw[hde] at heq;have HE:=xN he;clear he hde;go_wp2
     go_quiet (fail)
     go_wp2;go_ret
     exact⟨yN (by rw[decide_eq_false];intro e;injection e with e;exact uQz HG1.o HG2.o HE.o e),ba⟩
   ·go_wp2
    go_ret
    exact⟨yN (by rw[decide_eq_true];rw[uK (k:=k) zM HL.o HS.o]),HB.o⟩
 ·have hb:((xs.length:Int) != (ys.length:Int))=true:=by simp;omega
  have hne:xs≠ys:=fun e=>hll (by rw[e])
  have HN:=xN hne;clear hll hne
  go_enter Tryz.func29,Tryz.ntmps29
  go_wp2;go_ret
  exact⟨yN (by rw[decide_eq_false];intro e;injection e with e;exact HN.o e),ba⟩
theorem c_same (v u:Value) (xs ys:List Int) (w:World) (hr1:RdI w v xs) (hr2:RdI w u ys):Calls Tryz.prog 150 #[v,u] w fun e w'=>e= .returned (.bool (decide (xs=ys)))∧Dr w w':=by
 obtain⟨A1,cap1,rfl,hl1,hc1,hx1⟩:=hr1.open_;obtain⟨A2,cap2,rfl,hl2,hc2,hx2⟩:=hr2.open_;have HX1:=xN hx1;have HX2:=xN hx2;clear hx1 hx2 hr1 hr2;by_cases hll:xs.length=ys.length
 ·have hb:((xs.length:Int) != (ys.length:Int))=false:=by simp[hll]
  have HL:=xN hll;clear hll
  go_enter Tryz.func150,Tryz.ntmps150
  go_wp2
  go_loopw [14] (fun i wr=> ∃ k:Nat,k≤xs.length∧i= .int .i64 k∧xs.take k=ys.take k∧Dr w wr) (fun i _=>xs.length - (intOf i).toNat)
  case atStart=>exact⟨0,Nat.zero_le _,rfl,rfl,Dr.refl _⟩
  case round=>
   obtain⟨k,hk,rfl,hs,nr,rfl⟩:=hrel;have HS:=xN hs;clear hs;by_cases hlt:k<xs.length
   ·have hlt2:k<ys.length:=by have:=HL.o;omega
    obtain⟨b1,off1,rfl,hb1,hcell1⟩:=HX1.o k xs[k] (gE hlt);obtain⟨b2,off2,rfl,hb2,hcell2⟩:=HX2.o k ys[k] (gE hlt2);by_cases he:xs[k]=ys[k]
    ·have hd:(xs[k] != ys[k])=false:=by simp[he]
     have HE:=xN he;clear he;go_wp2
     go_roundw
     case rel=>exact⟨k+1,by omega,by go_num,uW HS.o (gE hlt) (by rw[HE.o];exact gE hlt2),dz⟩
     case measure=>simp[intOf];omega
    ·have hd:(xs[k] != ys[k])=true:=by simp[he]
     have HE:=xN he;clear he;go_wp2;go_ret
     exact⟨by simp[uQz (gE hlt) (gE hlt2) HE.o],dz⟩
   ·go_wp2
    go_ret
    exact⟨by simp[uK (k:=k) zM HL.o HS.o],dz⟩
 ·have hb:((xs.length:Int) != (ys.length:Int))=true:=by simp;omega
  have hne:xs≠ys:=fun e=>hll (by rw[e])
  have HN:=xN hne;clear hll hne
  go_enter Tryz.func150,Tryz.ntmps150
  go_wp2;go_ret
  exact⟨by simp[HN.o],Dr.refl _⟩
theorem zXz (v u:Value) (xs ys:List Int) (w:World) (hr1:RdI w v xs) (hr2:RdI w u ys):Calls Tryz.prog 27 #[v,u] w fun e w'=>e= .returned (.bool (decide (xs=ys)))∧Dr w w':=by
 obtain⟨A1,cap1,rfl,hl1,hc1,hx1⟩:=hr1.open_;obtain⟨A2,cap2,rfl,hl2,hc2,hx2⟩:=hr2.open_;have HX1:=xN hx1;have HX2:=xN hx2;clear hx1 hx2 hr1 hr2;by_cases hll:xs.length=ys.length
 ·have hb:((xs.length:Int) != (ys.length:Int))=false:=by simp[hll]
  have HL:=xN hll;clear hll
  go_enter Tryz.func27,Tryz.ntmps27
  go_wp2
  go_loopw [5] (fun i wr=> ∃ k:Nat,k≤xs.length∧i= .int .i64 k∧xs.take k=ys.take k∧Dr w wr) (fun i _=>xs.length - (intOf i).toNat)
  case atStart=>exact⟨0,Nat.zero_le _,rfl,rfl,Dr.refl _⟩
  case round=>
   obtain⟨k,hk,rfl,hs,nr,rfl⟩:=hrel;have HS:=xN hs;clear hs;by_cases hlt:k<xs.length
   ·have hlt2:k<ys.length:=by have:=HL.o;omega
    obtain⟨b1,off1,rfl,hb1,hcell1⟩:=HX1.o k xs[k] (gE hlt);obtain⟨b2,off2,rfl,hb2,hcell2⟩:=HX2.o k ys[k] (gE hlt2);by_cases he:xs[k]=ys[k]
    ·have hd:(xs[k] != ys[k])=false:=by simp[he]
     have HE:=xN he;clear he;go_wp2
     go_quiet (fail)
     go_wp2
     go_roundw
     case rel=>exact⟨k+1,by omega,by go_num,uW HS.o (gE hlt) (by rw[HE.o];exact gE hlt2),dz⟩
     case measure=>simp[intOf];omega
    ·have hd:(xs[k] != ys[k])=true:=by simp[he]
     have HE:=xN he;clear he;go_wp2
     go_quiet (fail)
     go_wp2;go_ret
     exact⟨by simp[uQz (gE hlt) (gE hlt2) HE.o],dz⟩
   ·go_wp2
    go_ret
    exact⟨by simp[uK (k:=k) zM HL.o HS.o],dz⟩
 ·have hb:((xs.length:Int) != (ys.length:Int))=true:=by simp;omega
  have hne:xs≠ys:=fun e=>hll (by rw[e])
  have HN:=xN hne;clear hll hne
  go_enter Tryz.func27,Tryz.ntmps27
  go_wp2;go_ret
  exact⟨by simp[HN.o],Dr.refl _⟩
theorem zSy (v u:Value) (xs ys:List (List Int)) (w:World) (hr:T.rd w (T.sl 26 1 (xs.map (T.ints 2))) [v]) (ht:T.rd w (T.sl 26 1 (ys.map (T.ints 2))) [u]):
  Calls Tryz.prog 149 #[v,u] w fun e w'=>e= .returned (.bool (decide (xs=ys)))∧Dr w w':=by
 obtain⟨A1,cap1,rfl,hl1,hc1,hx1⟩:=T.yT hr;obtain⟨A2,cap2,rfl,hl2,hc2,hx2⟩:=T.yT ht;rw[List.length_map] at hl1 hl2 ⊢;rw[List.length_map];have HX1:=xN hx1;have HX2:=xN hx2;clear hx1 hx2 hr ht;by_cases hll:xs.length=ys.length
 ·have hb:((xs.length:Int) != (ys.length:Int))=false:=by simp[hll]
  have HL:=xN hll;clear hll
  go_enter Tryz.func149,Tryz.ntmps149
  go_wp2
  go_loopw [14] (fun i wr=> ∃ k:Nat,k≤xs.length∧i= .int .i64 k∧xs.take k=ys.take k∧Dr w wr) (fun i _=>xs.length - (intOf i).toNat)
  case atStart=>exact⟨0,Nat.zero_le _,rfl,rfl,Dr.refl _⟩
  case round=>
   obtain⟨k,hk,rfl,hs,nr,rfl⟩:=hrel;have HS:=xN hs;clear hs;by_cases hlt:k<xs.length
   ·have hlt2:k<ys.length:=by have:=HL.o;omega
    obtain⟨b1,o1,cs1,rfl,hb1,hcs1,hcell1⟩:=HX1.o k (T.ints 2 xs[k]) (by rw[List.getElem?_map,gE hlt];rfl);obtain⟨b2,o2,cs2,rfl,hb2,hcs2,hcell2⟩:=HX2.o k (T.ints 2 ys[k]) (by rw[List.getElem?_map,gE hlt2];rfl);have hg1:=gE hlt;have hg2:=gE hlt2;generalize xs[k]=x at *;generalize ys[k]=y at *;have HG1:=xN hg1;have HG2:=xN hg2;clear hg1 hg2;obtain⟨v3,rfl⟩:=T.rd_one hcs1;obtain⟨v4,rfl⟩:=T.rd_one hcs2;have d0:=hcell1 0 v3 rfl;have g0:=hcell2 0 v4 rfl;rw[Nat.mul_one,Nat.add_zero] at d0 g0;have R1:=xN (show RdI (w.drewN nr) v3 x from Rd.drewN (T.xB.1 hcs1) nr);have R2:=xN (show RdI (w.drewN nr) v4 y from Rd.drewN (T.xB.1 hcs2) nr);clear hcs1 hcs2 hcell1 hcell2;by_cases he:x=y
    ·have hde:decide (x=y)=true:=decide_eq_true he
     have HE:=xN he;clear he;go_wp2_with (go_at_call 150;refine(c_same _ _ x y _ R1.o R2.o).mono ?_;rintro e w3 ⟨rfl,hd3⟩;rw[hde])
     go_roundw
     case rel=>exact⟨k+1,by omega,by go_num,uW HS.o HG1.o (by rw[HE.o];exact HG2.o),(Dr.drewN (Dr.refl _) _).trans hd3⟩
     case measure=>simp[intOf];omega
    ·have hde:decide (x=y)=false:=decide_eq_false he
     have HE:=xN he;clear he;go_wp2_with (go_at_call 150;refine(c_same _ _ x y _ R1.o R2.o).mono ?_;rintro e w3 ⟨rfl,hd3⟩;rw[hde])
     go_ret
     exact⟨by simp[uQz HG1.o HG2.o HE.o],(Dr.drewN (Dr.refl _) _).trans hd3⟩
   ·go_wp2
    go_ret
    exact⟨by simp[uK (k:=k) zM HL.o HS.o],dz⟩
 ·have hb:((xs.length:Int) != (ys.length:Int))=true:=by simp;omega
  have hne:xs≠ys:=fun e=>hll (by rw[e])
  have HN:=xN hne;clear hll hne
  go_enter Tryz.func149,Tryz.ntmps149
  go_wp2;go_ret
  exact⟨by simp[HN.o],Dr.refl _⟩
theorem c_iSameNode (a b:xR) (v3:Value) (u3:Value) (w:World) (r3:T.rd w (T.ints 2 a.zO) [v3]) (t3:T.rd w (T.ints 2 b.zO) [u3]):
  Calls Tryz.prog 151 #[.agg #[.int .i64 a.zD,.int .i64 a.fA,.int .i64 a.fB,v3],.agg #[.int .i64 b.zD,.int .i64 b.fA,.int .i64 b.fB,u3]] w fun e w'=>e= .returned (.bool (decide (a=b)))∧Below w.heap.size w w':=by
 have hab:decide (a=b)=(decide (a.zD=b.zD) && (decide (a.fA=b.fA) && (decide (a.fB=b.fB) && (decide (a.zO=b.zO))))):=by
  obtain⟨x0,x1,x2,x3⟩:=a;obtain⟨y0,y1,y2,y3⟩:=b;rw[Bool.eq_iff_iff];simp only[xR.mk.injEq,decide_eq_true_eq,Bool.and_eq_true]
  try (constructor<;>(intro h;simp[h]))
 have R3:=xN r3;have Q3:=xN t3;obtain⟨va3,vl3,vc3,rfl⟩:=T.xD r3;obtain⟨ua3,ul3,uc3,rfl⟩:=T.xD t3;clear r3 t3;have HAB:=xN hab;clear hab;have HB0:=xN (show Below w.heap.size w ((w.alloc (.cells #[.int .i64 a.zD,.int .i64 a.fA,.int .i64 a.fB,(.slice va3 vl3 vc3)] 120)).alloc (.cells #[.int .i64 b.zD,.int .i64 b.fA,.int .i64 b.fB,(.slice ua3 ul3 uc3)] 120)) from(zR.alloc zJ _).alloc zQ _);have HKA0:=xN ((Bk.born w 120 #[.int .i64 a.zD,.int .i64 a.fA,.int .i64 a.fB,(.slice va3 vl3 vc3)]).alloc (.cells #[.int .i64 b.zD,.int .i64 b.fA,.int .i64 b.fB,(.slice ua3 ul3 uc3)] 120));have HKB0:=xN (Bk.born1' w (.cells #[.int .i64 a.zD,.int .i64 a.fA,.int .i64 a.fB,(.slice va3 vl3 vc3)] 120) 120 #[.int .i64 b.zD,.int .i64 b.fA,.int .i64 b.fB,(.slice ua3 ul3 uc3)]);by_cases h0:a.zD=b.zD
 ·have e0:(a.zD == b.zD)=true:=by simp[h0]
  have H0:=xN h0;clear h0;by_cases h1:a.fA=b.fA
  ·have e1:(a.fA == b.fA)=true:=by simp[h1]
   have H1:=xN h1;clear h1;by_cases h2:a.fB=b.fB
   ·have e2:(a.fB == b.fB)=true:=by simp[h2]
    have H2:=xN h2;clear h2;by_cases h3:a.zO=b.zO
    ·have c3:decide (a.zO=b.zO)=true:=by simp[h3]
     have H3:=xN h3;clear h3
     go_enter Tryz.func151,Tryz.ntmps151
     go_wp2_with fail
     refine(c_same _ _ a.zO b.zO _ (T.xB.1 (T.yJ R3.o HB0.o)) (T.xB.1 (T.yJ Q3.o HB0.o))).mono ?_;rintro e w1 ⟨rfl,hd⟩;rw[c3];have hb:Below (((w.alloc (.cells #[.int .i64 a.zD,.int .i64 a.fA,.int .i64 a.fB,(.slice va3 vl3 vc3)] 120)).alloc (.cells #[.int .i64 b.zD,.int .i64 b.fA,.int .i64 b.fB,(.slice ua3 ul3 uc3)] 120))).heap.size ((w.alloc (.cells #[.int .i64 a.zD,.int .i64 a.fA,.int .i64 a.fB,(.slice va3 vl3 vc3)] 120)).alloc (.cells #[.int .i64 b.zD,.int .i64 b.fA,.int .i64 b.fB,(.slice ua3 ul3 uc3)] 120)) w1:=by first|exact hd.to_below _|exact hd
     have HKA1:=xN (HKA0.o.below hb HKA0.o.lt);have HKB1:=xN (HKB0.o.below hb HKB0.o.lt);have HB1:=xN (yO HB0.o HB0.o.size hb);clear hb hd;have ka1:=HKA1.o.cell;have kb1:=HKB1.o.cell;go_wp2;go_ret
     exact⟨yN (by rw[HAB.o];simp[H0.o,H1.o,H2.o,H3.o]),HB1.o⟩
    ·have c3:decide (a.zO=b.zO)=false:=by simp[h3]
     have H3:=xN h3;clear h3
     go_enter Tryz.func151,Tryz.ntmps151
     go_wp2_with fail
     refine(c_same _ _ a.zO b.zO _ (T.xB.1 (T.yJ R3.o HB0.o)) (T.xB.1 (T.yJ Q3.o HB0.o))).mono ?_;rintro e w1 ⟨rfl,hd⟩;rw[c3];have hb:Below (((w.alloc (.cells #[.int .i64 a.zD,.int .i64 a.fA,.int .i64 a.fB,(.slice va3 vl3 vc3)] 120)).alloc (.cells #[.int .i64 b.zD,.int .i64 b.fA,.int .i64 b.fB,(.slice ua3 ul3 uc3)] 120))).heap.size ((w.alloc (.cells #[.int .i64 a.zD,.int .i64 a.fA,.int .i64 a.fB,(.slice va3 vl3 vc3)] 120)).alloc (.cells #[.int .i64 b.zD,.int .i64 b.fA,.int .i64 b.fB,(.slice ua3 ul3 uc3)] 120)) w1:=by first|exact hd.to_below _|exact hd
     have HKA1:=xN (HKA0.o.below hb HKA0.o.lt);have HKB1:=xN (HKB0.o.below hb HKB0.o.lt);have HB1:=xN (yO HB0.o HB0.o.size hb);clear hb hd;have ka1:=HKA1.o.cell;have kb1:=HKB1.o.cell;go_wp2;go_ret
     exact⟨yN (by rw[HAB.o];simp[H0.o,H1.o,H2.o,H3.o]),HB1.o⟩
   ·have e2:(a.fB == b.fB)=false:=by simp[h2]
    have H2:=xN h2;clear h2
    go_enter Tryz.func151,Tryz.ntmps151
    go_wp2;go_ret
    exact⟨yN (by rw[HAB.o];simp[H0.o,H1.o,H2.o]),HB0.o⟩
  ·have e1:(a.fA == b.fA)=false:=by simp[h1]
   have H1:=xN h1;clear h1
   go_enter Tryz.func151,Tryz.ntmps151
   go_wp2;go_ret
   exact⟨yN (by rw[HAB.o];simp[H0.o,H1.o]),HB0.o⟩
 ·have e0:(a.zD == b.zD)=false:=by simp[h0]
  have H0:=xN h0;clear h0
  go_enter Tryz.func151,Tryz.ntmps151
  go_wp2;go_ret
  exact⟨yN (by rw[HAB.o];simp[H0.o]),HB0.o⟩
end
section
open Go.RowKit
theorem vEz.le {l:List xV} {p n:Int} (h:vEz l p n):l.length≤4:=by
 by_cases e:p=n - 1
 ·have:=h.last e;omega
 ·exact(h.few e).2
theorem c_l26Strip (x:xP) (b o:Nat) (k:Int) (n:Int) (w:World) (k0:0≤k) (k1:k≤1048576) (n0:0≤n) (n1:n≤1048576) (h:T.at w x.fs b o):Calls Tryz.prog 104 #[.pointer (some ⟨b,o,none⟩),.int .i64 k,.int .i64 n] w fun e w'=>e= .returned (.bool (tf (StripOk x k n)))∧Below w.heap.size w w':=by
 have HAT:=xN h;obtain⟨hlt0,cs,hr,hc⟩:=h;obtain⟨v2,rfl,h2⟩:=xP.yT hr;clear hr;obtain⟨va2,vc2,rfl,vl2,vm2,R2,HX2⟩:=oG h2;clear h2;have HL:=xN hlt0;have HCC:=xN hc;have HB0:=xN (Below.refl w.heap.size w);clear hlt0 hc;obtain⟨p0,p1,p2⟩:=pc3 HB0.o HL.o HCC.o;have lb:b<w.heap.size:=zW HL.o HB0.o.size
 go_enter Tryz.func104,Tryz.ntmps104
 by_cases q1:NameOk x.yH
 rotate_left
 ·have a1:=xH q1;have Q1:=xN q1;clear q1
  go_wp2_with (first|(go_at_call 133;refine(xYz _ _).mono ?_;rintro e w' ⟨rfl,rfl⟩;rw[a1])|(go_at_call 67;refine(wJ _ _ _ _).mono ?_;rintro e w' ⟨rfl,rfl⟩)|(go_at_call 84;refine(wL _ _).mono ?_;rintro e w' ⟨rfl,rfl⟩))
  go_ret
  exact⟨yN (xH fun h=>Q1.o h.name).symm,HB0.o⟩
 have a1:=xI q1;have Q1:=xN q1;clear q1;by_cases q2:inB x.zZ 0 32=true
 rotate_left
 ·have q2':inB x.zZ 0 32=false:=(by simpa using q2)
  go_wp2_with (first|(go_at_call 133;refine(xYz _ _).mono ?_;rintro e w' ⟨rfl,rfl⟩;rw[a1])|(go_at_call 67;refine(wJ _ _ _ _).mono ?_;rintro e w' ⟨rfl,rfl⟩)|(go_at_call 84;refine(wL _ _).mono ?_;rintro e w' ⟨rfl,rfl⟩))
  go_ret
  exact⟨yN (xH fun h=>q2 h.latency).symm,HB0.o⟩
 skip
 by_cases q3:x.zT.length≤4
 rotate_left
 ·skip
  go_wp2_with (first|(go_at_call 133;refine(xYz _ _).mono ?_;rintro e w' ⟨rfl,rfl⟩;rw[a1])|(go_at_call 67;refine(wJ _ _ _ _).mono ?_;rintro e w' ⟨rfl,rfl⟩)|(go_at_call 84;refine(wL _ _).mono ?_;rintro e w' ⟨rfl,rfl⟩))
  go_ret
  exact⟨yN (xH fun h=>q3 h.sends.le).symm,HB0.o⟩
 have Q3:=xN q3;by_cases zl:k=n - 1
 ·by_cases zz:x.zT.length=0
  rotate_left
  ·have z1:((x.zT.length:Int) == 0)=false:=yZ zM;have z2:(k == n - 1)=true:=xA zl;have ZL:=xN zl;have ZZ:=xN zz;clear zl zz
   go_wp2_with (first|(go_at_call 133;refine(xYz _ _).mono ?_;rintro e w' ⟨rfl,rfl⟩;rw[a1])|(go_at_call 67;refine(wJ _ _ _ _).mono ?_;rintro e w' ⟨rfl,rfl⟩)|(go_at_call 84;refine(wL _ _).mono ?_;rintro e w' ⟨rfl,rfl⟩))
   go_ret
   exact⟨yN (xH fun h=>ZZ.o (h.sends.last ZL.o)).symm,HB0.o⟩
  have z1:((x.zT.length:Int) == 0)=true:=xA zM;have z2:(k == n - 1)=true:=xA zl;have ZL:=xN zl;have ZZ:=xN zz;clear zl zz;go_wp2_with (first|(go_at_call 133;refine(xYz _ _).mono ?_;rintro e w' ⟨rfl,rfl⟩;rw[a1])|(go_at_call 67;refine(wJ _ _ _ _).mono ?_;rintro e w' ⟨rfl,rfl⟩)|(go_at_call 84;refine(wL _ _).mono ?_;rintro e w' ⟨rfl,rfl⟩))
  clear p0 p1 p2 lb z1 z2
  go_loopw [7,8] (fun bv i wr=> ∃ (j:Nat) (bf:Int),j≤x.zT.length∧i= .int .i64 j∧bv= .int .i64 bf∧bf=befS x.zT k j∧0≤bf∧bf≤1048576∧vU x.zT (fun i x_1=>inB x_1.yI (befS x.zT k i+1) (n - 1)=true∧Smp x_1.yB) j∧Below w.heap.size w wr) (fun _ i _=>x.zT.length - (intOf i).toNat)
  case atStart=>exact⟨0,k,Nat.zero_le _,rfl,rfl,rfl,k0,k1,vU.zero,zR⟩
  case round=>
   obtain⟨j,bf,hk,rfl,rfl,hbf,b0,b1',hs,hbw⟩:=hrel;have HS:=xN hs;have HB:=xN hbw;have HBF:=xN hbf;clear hs hbw hbf;obtain⟨p0,p1,p2⟩:=pc3 HB.o HL.o HCC.o;have lb:b<wr.heap.size:=zW HL.o HB.o.size;by_cases hlt:j<x.zT.length
   rotate_left
   ·have hall:=xN (HS.o.all zM);clear HS
    go_wp2;go_ret
    exact⟨yN (xI ⟨Q1.o,q2,⟨hall.o,fun _=>ZZ.o,fun h=>absurd ZL.o h⟩⟩).symm,HB.o⟩
   have hgk:=gE hlt;obtain⟨b1,off,csy,hA,hb1,hcs,hcell⟩:=HX2.o j x.zT[j] hgk;subst hA;generalize x.zT[j]=y at *;have HG:=xN hgk;clear hgk;have HAy:=xN (T.at_elem (o:=off+j * 2) hb1 (show T.rds w y.fs csy by simpa only[xV.t,T.rd] using hcs) hcell zM);clear hcs hcell;obtain⟨_,csy',hry,hcy⟩:=HAy.o;obtain rfl:=xV.yT hry;obtain⟨cy0,cy1⟩:=pc2 HB.o hb1 hcy;have hq1:b1<wr.heap.size:=zW hb1 HB.o.size;clear hry hcy;by_cases s1:inB y.yI (bf+1) (n - 1)=true
   rotate_left
   ·have s1':inB y.yI (bf+1) (n - 1)=false:=(by simpa using s1)
    go_wp2_with (first|(go_at_call 67;refine(wJ _ _ _ _).mono ?_;rintro e w' ⟨rfl,rfl⟩)|(go_at_call 84;refine(wL _ _).mono ?_;rintro e w' ⟨rfl,rfl⟩))
    go_ret
    exact⟨yN (xH fun h=>by have:=(h.sends.each j y HG.o).1;rw[←HBF.o] at this;exact s1 this).symm,HB.o⟩
   have i1:=xK.1 s1;have S1:=xN s1;by_cases s2:Smp y.yB
   rotate_left
   ·have s2':decide (Smp y.yB)=false:=decide_eq_false s2;have S2:=xN s2;clear s2
    go_wp2_with (first|(go_at_call 67;refine(wJ _ _ _ _).mono ?_;rintro e w' ⟨rfl,rfl⟩)|(go_at_call 84;refine(wL _ _).mono ?_;rintro e w' ⟨rfl,rfl⟩))
    go_ret
    exact⟨yN (xH fun h=>S2.o (h.sends.each j y HG.o).2).symm,HB.o⟩
   have s2':decide (Smp y.yB)=true:=decide_eq_true s2;have S2:=xN s2;clear s2;go_wp2_with (first|(go_at_call 67;refine(wJ _ _ _ _).mono ?_;rintro e w' ⟨rfl,rfl⟩)|(go_at_call 84;refine(wL _ _).mono ?_;rintro e w' ⟨rfl,rfl⟩))
   go_roundw
   case rel=>exact⟨j+1,y.yI,by omega,by go_num,rfl,(zRy HG.o).symm,by omega,by omega,HS.o.step HG.o ⟨by rw[←HBF.o];exact S1.o,S2.o⟩,HB.o⟩
   case measure=>simp[intOf];omega
 ·by_cases zz:x.zT.length=0
  ·have z1:((x.zT.length:Int) == 0)=true:=xA zM;have z2:(k == n - 1)=false:=yZ zl;have ZL:=xN zl;have ZZ:=xN zz;clear zl zz
   go_wp2_with (first|(go_at_call 133;refine(xYz _ _).mono ?_;rintro e w' ⟨rfl,rfl⟩;rw[a1])|(go_at_call 67;refine(wJ _ _ _ _).mono ?_;rintro e w' ⟨rfl,rfl⟩)|(go_at_call 84;refine(wL _ _).mono ?_;rintro e w' ⟨rfl,rfl⟩))
   go_ret
   exact⟨yN (xH fun h=>by have:=(h.sends.few ZL.o).1;have:=ZZ.o;omega).symm,HB0.o⟩
  have z1:((x.zT.length:Int) == 0)=false:=yZ zM;have z2:(k == n - 1)=false:=yZ zl;have ZL:=xN zl;have ZZ:=xN zz;clear zl zz;go_wp2_with (first|(go_at_call 133;refine(xYz _ _).mono ?_;rintro e w' ⟨rfl,rfl⟩;rw[a1])|(go_at_call 67;refine(wJ _ _ _ _).mono ?_;rintro e w' ⟨rfl,rfl⟩)|(go_at_call 84;refine(wL _ _).mono ?_;rintro e w' ⟨rfl,rfl⟩))
  clear p0 p1 p2 lb z1 z2
  go_loopw [7,8] (fun bv i wr=> ∃ (j:Nat) (bf:Int),j≤x.zT.length∧i= .int .i64 j∧bv= .int .i64 bf∧bf=befS x.zT k j∧0≤bf∧bf≤1048576∧vU x.zT (fun i x_1=>inB x_1.yI (befS x.zT k i+1) (n - 1)=true∧Smp x_1.yB) j∧Below w.heap.size w wr) (fun _ i _=>x.zT.length - (intOf i).toNat)
  case atStart=>exact⟨0,k,Nat.zero_le _,rfl,rfl,rfl,k0,k1,vU.zero,zR⟩
  case round=>
   obtain⟨j,bf,hk,rfl,rfl,hbf,b0,b1',hs,hbw⟩:=hrel;have HS:=xN hs;have HB:=xN hbw;have HBF:=xN hbf;clear hs hbw hbf;obtain⟨p0,p1,p2⟩:=pc3 HB.o HL.o HCC.o;have lb:b<wr.heap.size:=zW HL.o HB.o.size;by_cases hlt:j<x.zT.length
   rotate_left
   ·have hall:=xN (HS.o.all zM);clear HS
    go_wp2;go_ret
    exact⟨yN (xI ⟨Q1.o,q2,⟨hall.o,fun h=>absurd h ZL.o,fun _=>⟨by have:=ZZ.o;omega,Q3.o⟩⟩⟩).symm,HB.o⟩
   have hgk:=gE hlt;obtain⟨b1,off,csy,hA,hb1,hcs,hcell⟩:=HX2.o j x.zT[j] hgk;subst hA;generalize x.zT[j]=y at *;have HG:=xN hgk;clear hgk;have HAy:=xN (T.at_elem (o:=off+j * 2) hb1 (show T.rds w y.fs csy by simpa only[xV.t,T.rd] using hcs) hcell zM);clear hcs hcell;obtain⟨_,csy',hry,hcy⟩:=HAy.o;obtain rfl:=xV.yT hry;obtain⟨cy0,cy1⟩:=pc2 HB.o hb1 hcy;have hq1:b1<wr.heap.size:=zW hb1 HB.o.size;clear hry hcy;by_cases s1:inB y.yI (bf+1) (n - 1)=true
   rotate_left
   ·have s1':inB y.yI (bf+1) (n - 1)=false:=(by simpa using s1)
    go_wp2_with (first|(go_at_call 67;refine(wJ _ _ _ _).mono ?_;rintro e w' ⟨rfl,rfl⟩)|(go_at_call 84;refine(wL _ _).mono ?_;rintro e w' ⟨rfl,rfl⟩))
    go_ret
    exact⟨yN (xH fun h=>by have:=(h.sends.each j y HG.o).1;rw[←HBF.o] at this;exact s1 this).symm,HB.o⟩
   have i1:=xK.1 s1;have S1:=xN s1;by_cases s2:Smp y.yB
   rotate_left
   ·have s2':decide (Smp y.yB)=false:=decide_eq_false s2;have S2:=xN s2;clear s2
    go_wp2_with (first|(go_at_call 67;refine(wJ _ _ _ _).mono ?_;rintro e w' ⟨rfl,rfl⟩)|(go_at_call 84;refine(wL _ _).mono ?_;rintro e w' ⟨rfl,rfl⟩))
    go_ret
    exact⟨yN (xH fun h=>S2.o (h.sends.each j y HG.o).2).symm,HB.o⟩
   have s2':decide (Smp y.yB)=true:=decide_eq_true s2;have S2:=xN s2;clear s2;go_wp2_with (first|(go_at_call 67;refine(wJ _ _ _ _).mono ?_;rintro e w' ⟨rfl,rfl⟩)|(go_at_call 84;refine(wL _ _).mono ?_;rintro e w' ⟨rfl,rfl⟩))
   go_roundw
   case rel=>exact⟨j+1,y.yI,by omega,by go_num,rfl,(zRy HG.o).symm,by omega,by omega,HS.o.step HG.o ⟨by rw[←HBF.o];exact S1.o,S2.o⟩,HB.o⟩
   case measure=>simp[intOf];omega
theorem uEz (x:vF) (b o:Nat) (w:World) (hn:x.zC.length≤1048576) (h:T.at w x.fs b o):Calls Tryz.prog 68 #[.pointer (some ⟨b,o,none⟩)] w fun e w'=>e= .returned (.bool (tf (zSz x)))∧Below w.heap.size w w':=by
 have HAT:=xN h;obtain⟨hlt0,cs,hr,hc⟩:=h;obtain⟨v0,rfl,h0⟩:=vF.yT hr;clear hr;obtain⟨va0,vc0,rfl,vl0,vm0,R0,HX0⟩:=oG h0;clear h0;have HL:=xN hlt0;have HCC:=xN hc;have HB0:=xN (Below.refl w.heap.size w);clear hlt0 hc;have p0:=pc1 HB0.o HL.o HCC.o;have lb:b<w.heap.size:=zW HL.o HB0.o.size
 go_enter Tryz.func68,Tryz.ntmps68
 by_cases q1:inB (x.zC.length:Int) 1 8=true
 rotate_left
 ·have q1':inB (x.zC.length:Int) 1 8=false:=(by simpa using q1)
  go_wp2_with (go_at_call 67;refine(wJ _ _ _ _).mono ?_;rintro e w' ⟨rfl,rfl⟩)
  go_ret
  exact⟨yN (xH fun h=>q1 (xK.2 ⟨by have:=h.some_;omega,by have:=h.few;omega⟩)).symm,HB0.o⟩
 have i1:=xK.1 q1;go_wp2_with (go_at_call 67;refine(wJ _ _ _ _).mono ?_;rintro e w' ⟨rfl,rfl⟩)
 clear p0 lb
 go_loopw [4] (fun i wr=> ∃ k:Nat,k≤x.zC.length∧i= .int .i64 k∧vU x.zC (fun i x_1=>StripOk x_1 (i:Int) (x.zC.length:Int)∧ ∀ j y,j<i→x.zC[j]?=some y→y.yH≠x_1.yH) k∧Below w.heap.size w wr) (fun i _=>x.zC.length - (intOf i).toNat)
 case atStart=>exact⟨0,Nat.zero_le _,rfl,vU.zero,zR⟩
 case round=>
  obtain⟨k,hk,rfl,hs,hbw⟩:=hrel;have HS:=xN hs;have HW:=xN hbw;have HB:=xN (yO HB0.o HB0.o.size hbw);clear hs hbw;have p0:=pc1 HB.o HL.o HCC.o;have lb:b<wr.heap.size:=zW HL.o HB.o.size;by_cases hlt:k<x.zC.length
  rotate_left
  ·have hall:=xN (HS.o.all zM);clear HS
   go_wp2;go_ret
   exact⟨yN (xI ⟨by omega,by omega,hall.o⟩).symm,HB.o⟩
  have hgk:=gE hlt;obtain⟨b1,off,csy,hA,hb1,hcs,hcell⟩:=HX0.o k x.zC[k] hgk;subst hA;generalize x.zC[k]=y at *;have HG:=xN hgk;clear hgk;have HAy:=xN (T.at_elem (o:=off+k * 3) hb1 (show T.rds w y.fs csy by simpa only[xP.t,T.rd] using hcs) hcell zM);clear hcs hcell;have n1:((k:Int)<(x.zC.length:Int)):=by omega
  go_wp2_with fail
  refine(c_l26Strip y _ _ (k:Int) (x.zC.length:Int) _ zM zM zM zM (T.at_below HAy.o HB.o)).mono ?_;rintro e w3 ⟨rfl,hb3⟩;have HW3:=xN (yO HW.o HW.o.size hb3);have HB3:=xN (yO HB.o HB.o.size hb3);clear hb3 p0 lb;have p0:=pc1 HB3.o HL.o HCC.o;have lb:b<w3.heap.size:=zW HL.o HB3.o.size;by_cases q2:StripOk y (k:Int) (x.zC.length:Int)
  rotate_left
  ·rw[xH q2];have Q2:=xN q2;clear q2
   go_wp2;go_ret
   exact⟨yN (xH fun h=>Q2.o (h.each k y HG.o).1).symm,HB3.o⟩
  rw[xI q2];have Q2:=xN q2;clear q2;go_wp2;clear p0 lb
  go_loopw [5] (fun i ws=> ∃ m:Nat,m≤k∧i= .int .i64 m∧(∀ j z,j<m→x.zC[j]?=some z→z.yH≠y.yH)∧Below w3.heap.size w3 ws) (fun i _=>k - (intOf i).toNat)
  case atStart=>exact⟨0,Nat.zero_le _,rfl,fun j z h=>absurd h zM,zR⟩
  case round=>
   obtain⟨m,hm,rfl,hn2,hbs⟩:=hrel;have HN:=xN hn2;have HW4:=xN (yO HW3.o HW3.o.size hbs);have HB4:=xN (yO HB3.o HB3.o.size hbs);have HS4:=xN hbs;clear hn2 hbs;have p0:=pc1 HB4.o HL.o HCC.o;have lb:b<wr.heap.size:=zW HL.o HB4.o.size;by_cases hltm:m<k
   rotate_left
   ·obtain rfl:m=k:=by omega
    go_wp2
    go_roundw
    case rel=>exact⟨m+1,by omega,by go_num,HS.o.step HG.o ⟨Q2.o,HN.o⟩,HW4.o⟩
    case measure=>simp[intOf];omega
   have hltz:m<x.zC.length:=by omega
   have hgk:=gE hltz;obtain⟨b2,off2,csz,hA,hb2,hcs,hcell⟩:=HX0.o m x.zC[m] hgk;obtain⟨rfl,rfl⟩:b1=b2∧off=off2:=by injection hA with hA;injection hA with e1 e2;exact⟨e1,e2⟩
   clear hA;generalize x.zC[m]=z at *;have HJ:=xN hgk;clear hgk;have HAz:=xN (T.at_elem (o:=off+m * 3) hb2 (show T.rds w z.fs csz by simpa only[xP.t,T.rd] using hcs) hcell zM);clear hcs hcell;obtain⟨_,csy',hry,hcy⟩:=HAy.o;obtain⟨_,rfl,_⟩:=xP.yT hry;have cy0:=pc1 HB4.o hb1 hcy;clear hry hcy;obtain⟨_,csz',hrz,hcz⟩:=HAz.o;obtain⟨_,rfl,_⟩:=xP.yT hrz;have cz0:=pc1 HB4.o hb1 hcz;clear hrz hcz;have n2:((m:Int)<(x.zC.length:Int)):=by omega
   by_cases q3:z.yH=y.yH
   ·have e3:(z.yH.toList == y.yH.toList)=true:=by rw[str_eq];exact decide_eq_true q3
    have Q3:=xN q3;clear q3;go_wp2;have g0:=yK p0;have g1:=yK cy0;have g2:=yK cz0;refine rB ?_
    repeat(first|go_big_quiet_skip|(go_big_quiet_want;go_big_quiet_op;go_big_quiet_on))
    refine wpQuiet_nil ?_;rintro w9 ⟨uu,rfl⟩;have hb9:=yM wr uu;generalize bel wr uu=w9 at *;have HB9:=xN (yO HB4.o HB4.o.size hb9);clear g0 g1 g2;go_wp2;go_ret
    exact⟨yN (xH fun h=>(h.each k y HG.o).2 m z hltm HJ.o Q3.o).symm,HB9.o⟩
   have e3:(z.yH.toList == y.yH.toList)=false:=by rw[str_eq];exact decide_eq_false q3
   have Q3:=xN q3;clear q3;go_wp2;have g0:=yK p0;have g1:=yK cy0;have g2:=yK cz0;refine rB ?_
   repeat(first|go_big_quiet_skip|(go_big_quiet_want;go_big_quiet_op;go_big_quiet_on))
   refine wpQuiet_nil ?_;rintro w9 ⟨uu,rfl⟩;have hb9:=yM wr uu;generalize bel wr uu=w9 at *;have HB9:=xN (yO HB4.o HB4.o.size hb9);clear g0 g1 g2;have HS9:=xN (yO HS4.o HS4.o.size hb9);clear hb9;go_wp2
   go_roundw
   case rel=>exact⟨m+1,by omega,by go_num,fun j z' h hz=>by
    by_cases e:j=m
    ·subst e;rw[HJ.o] at hz;injection hz with hz;subst hz;exact Q3.o
    ·exact HN.o j z' zM hz,HS9.o⟩
   case measure=>simp[intOf];omega
end
end Go.Proofs.YtdcofkabaigjpaaGreat
