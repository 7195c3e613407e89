/- Contracts: the mix of a session, both sides. The cache after an edit, in plain words. The session after an edit: plain cases; one field of own data replaced. Data without slices in it: copied by append of all. No program is named here. slices.Insert, slices.Delete, slices.Clone at clips: the library's own text is followed. slices.Clone and slices.Insert at clips, whole; edited. The program's edited clips. Contract: copyPatch. -/
import Derived.Test.YtoibekfhepnedaaGreatQBaExactMix
import Derived.Test.YtoibekfhepnedaaGreatQBdExactMix
import Derived.Test.YtoibekfhepnedaaGreatQAsExactMix
import Derived.Test.YtoibekfhepnedaaGreatQArExactMix
import Derived.Test.YtoibekfhepnedaaGreatQApExactMix
import Derived.Test.YtoibekfhepnedaaGreatQAbExactMix
import Derived.Test.YtoibekfhepnedaaGreatQAvExactMix
import Derived.Laws.Externs
import Derived.Deep.RegionLaw
import Derived.Lib.AppendZeros
import Derived.Lib.SliceRun
import Derived.Deep.RegionHeld3
import Derived.Test.YtoibekfhepnedaaGreatQAwExactMix
import Derived.Deep.RegionHeldLaw
set_option linter.unusedVariables false
set_option linter.unusedSimpArgs false
set_option maxHeartbeats 8000000
set_option maxRecDepth 100000
namespace Go.Proofs.YtoibekfhepnedaaGreat
section
open Go.RowKit
theorem c_slice' (v:Value) (xs:List Int) (f:Int) (n:Nat) (w:World) {N:Int} (hN:N=(n:Int)) (h0:0≤f) (h1:f≤1048576) (hn:n≤1048576) (hr:RdI w v xs):Calls Tryz.prog 133 #[v,.int .i64 f,.int .i64 N] w fun e w'=> ∃ v',e= .returned v'∧OwI 2 w' w.heap.size v' (cutL xs f n)∧Below w.heap.size w w':=by
 subst hN;exact c_slice v xs f n w h0 h1 hn hr
theorem c_l03Slice' (v:Value) (xs:List Int) (f:Int) (n:Nat) (w:World) {N:Int} (hN:N=(n:Int)) (h0: -1048576≤f) (h1:f≤1048576) (hn:n≤1048576) (hr:RdI w v xs):Calls Tryz.prog 128 #[v,.int .i64 f,.int .i64 N] w fun e w'=> ∃ v',e= .returned v'∧OwI 2 w' w.heap.size v' (cutL xs f n)∧Below w.heap.size w w':=by
 subst hN;exact c_l03Slice v xs f n w h0 h1 hn hr
theorem c_mix (x:xS) (cs:List Value) (w:World) (hS:vO x) (hg:x.good) (h:T.rds w x.fs cs):Calls Tryz.prog 61 #[.agg cs.toArray] w fun e w'=> ∃ v,e= .returned v∧OwI 2 w' w.heap.size v (zLz x)∧Below w.heap.size w w':=by
 obtain⟨v1,v2,v3,v4,v5,rfl,h1,h2,h3,h4,h5⟩:=xS.yV h;clear h;obtain⟨va1,vc1,rfl,vl1,vm1,R1,HX1⟩:=oG h1;clear h1;obtain⟨va2,vc2,rfl,vl2,vm2,R2,HX2⟩:=oG h2;clear h2;obtain⟨va3,vc3,rfl,vl3,vm3,R3,HX3⟩:=oI h3;clear h3;obtain⟨va4,vc4,rfl,vl4,vm4,R4,HX4⟩:=oG h4;clear h4;obtain⟨va5,vc5,rfl,vl5,vm5,R5,HX5⟩:=oG h5;clear h5;have HB0:=xN (show Below w.heap.size w (w.alloc (.cells #[.int .i64 x.zF,(.slice va1 x.zI.length vc1),(.slice va2 x.zL.length vc2),(.slice va3 x.zX.length vc3),(.slice va4 x.zO.length vc4),(.slice va5 x.zH.zD.length vc5)] 32)) from zR.alloc zJ _);have HK0:=xN (Bk.born w 32 #[.int .i64 x.zF,(.slice va1 x.zI.length vc1),(.slice va2 x.zL.length vc2),(.slice va3 x.zX.length vc3),(.slice va4 x.zO.length vc4),(.slice va5 x.zH.zD.length vc5)]);have HSO:=xN hS;have hn8:x.zH.zD.length≤8:=hS.mixer.few;have hn1:1≤x.zH.zD.length:=hS.mixer.some_;have htot:=yTy hS.mixer;have hle:=xK.1 hS.length;have HGD:=xN hg;obtain⟨lenN,hlen⟩: ∃ q:Nat,x.zF=(q:Int):=⟨x.zF.toNat,by omega⟩;have hl0:lenN≤1000:=by omega
 obtain⟨row,hrow,hrowd,-,-⟩:=(yUy hS).get (show x.zH.zD.length - 1<x.zH.zD.length by omega);have HMX:=xN (show cutL row (uI x.zH) lenN=zLz x by unfold zLz;rw[hrowd,hlen,Int.toNat_natCast]);have hol:=(yUy hS).len;have HRY:=xN (ready_last hS.mixer);have hryl:=vCz x.zH;have HROW:=xN hrow;have HLEN:=xN hlen;clear hS hg hrow hrowd hlen;obtain⟨m1,hm1⟩: ∃ m1:Nat,x.zH.zD.length - 1=m1:=⟨_,rfl⟩;rw[hm1] at HROW HRY;have hm2:x.zH.zD.length=m1+1:=by omega
 have hwm:IntKind.i64.wrap ((x.zH.zD.length:Int) - 1)=(m1:Int):=by rw[IntWalk.i64_in _ zM];omega
 have HM2:=xN hm2;have hm3:m1<x.zH.zD.length:=by omega
 clear hm1 hm2
 go_enter Tryz.func61,Tryz.ntmps61
 go_wp2_with fail
 refine(c_strips x _ _ HSO.out HGD.out (xS.rd_mk (T.yM R1.out HB0.out) (T.yM R2.out HB0.out) (T.xB.2 (Rd.below R3.out HB0.out)) (T.yM R4.out HB0.out) (T.yM R5.out HB0.out))).mono ?_;rintro e w1 ⟨vo,vr,rfl,ho,hr,hd⟩;have hb:Below (w.alloc (.cells #[.int .i64 x.zF,(.slice va1 x.zI.length vc1),(.slice va2 x.zL.length vc2),(.slice va3 x.zX.length vc3),(.slice va4 x.zO.length vc4),(.slice va5 x.zH.zD.length vc5)] 32)).heap.size (w.alloc (.cells #[.int .i64 x.zF,(.slice va1 x.zI.length vc1),(.slice va2 x.zL.length vc2),(.slice va3 x.zX.length vc3),(.slice va4 x.zO.length vc4),(.slice va5 x.zH.zD.length vc5)] 32)) w1:=by first|exact hd|exact hd.to_below _|exact hd ▸ zR
 have HK1:=xN (HK0.out.below hb HK0.out.lt);have HB1:=xN (yQ HB0.out HB0.out.size hb);clear hb hd;have ka:=HK1.out.cell;have la:=HK1.out.lt;obtain⟨oA,ocap,rfl,-,-,ox⟩:=T.yU ho;rw[hol] at *;obtain⟨bo,oo,cso,hAo,hbo,hcso,hcello⟩:=ox _ _ HROW.out;subst hAo;obtain⟨vrow,rfl⟩:=T.rd_one hcso;have eo:=hcello 0 vrow rfl;rw[Nat.mul_one,Nat.add_zero] at eo;have HRR:=xN (T.xB.1 hcso);have HEO:=xN eo;clear hcso hcello eo ox ho;obtain⟨bR,oR,cR,rfl,-,-,hbR,hxR⟩:=xY hr zM;rw[hryl] at *;have HER:=xN (hxR _ _ HRY.out);clear hxR hr;go_wp2;have HDr:=xN ((Below.refl w1.heap.size w1).drew);have HWd:=xN (show w1.cell? ⟨w.heap.size,0,none⟩=some (.int .i64 x.zF)∧w1.cell? ⟨bo,oo+m1,none⟩=some vrow∧w1.cell? ⟨bR,oR+m1,none⟩=some (.int .i64 (uI x.zH)) from⟨ka 0,HEO.out,HER.out⟩);have HKP:=xN (fun(w':World) (hw:Below w1.heap.size w1 w')=>(⟨(hw.cell (World.block_lt_of_cell? _ _ HWd.out.1)).trans HWd.out.1,(hw.cell (World.block_lt_of_cell? _ _ HWd.out.2.1)).trans HWd.out.2.1,(hw.cell (World.block_lt_of_cell? _ _ HWd.out.2.2)).trans HWd.out.2.2⟩:w'.cell? ⟨w.heap.size,0,none⟩=some (.int .i64 x.zF)∧w'.cell? ⟨bo,oo+m1,none⟩=some vrow∧w'.cell? ⟨bR,oR+m1,none⟩=some (.int .i64 (uI x.zH))));clear ka la;refine wH (fun w'=>w'.cell? ⟨w.heap.size,0,none⟩=some (.int .i64 x.zF)∧w'.cell? ⟨bo,oo+m1,none⟩=some vrow∧w'.cell? ⟨bR,oR+m1,none⟩=some (.int .i64 (uI x.zH))) [] (by kernel_rfl) ?_ (fun hS0=>?_)
 ·exact HKP.out _ HDr.out
 generalize hwd:w1.drew=wd at *;clear hwd;refine zN 0 hS0 ?_;refine zN 1 hS0 ?_;refine zN 2 hS0 ?_;refine zN 3 hS0 ?_;refine zN 4 hS0 ?_;refine zN 5 hS0 ?_;refine zN 6 hS0 ?_;refine zN 7 hS0 ?_;refine zN 8 hS0 ?_;refine zN 9 hS0 ?_;refine pN 10 (fun K hK=>?_);go_simp;go_wp2_with (go_at_call 133;refine(c_slice' _ row (uI x.zH) lenN _ HLEN.out htot.1 zM zM (RdI.below HRR.out HDr.out)).mono ?_;rintro e w2 ⟨v2,rfl,ho,hb⟩)
 have HO2:=xN (OwI.more ho (Nat.le_trans HB1.out.size HDr.out.size));have HD2:=xN (yQ HDr.out HDr.out.size hb);clear ho hb;refine uN hK ?_ (fun hS1=>?_)
 ·exact HKP.out _ HD2.out
 clear hK K hS0;refine pN 11 (fun K hK=>?_);go_simp;refine uN hK ?_ (fun hS2=>?_)
 ·exact HKP.out _ HD2.out
 clear hK K hS1;refine qN ?_;clear hS2;go_wp2;go_ret
 exact⟨_,rfl,by rw[←HMX.out];exact HO2.out,yQ HB1.out HB1.out.size HD2.out⟩
theorem c_l27Mix (x:xS) (b o:Nat) (w:World) (hS:vO x) (hg:x.good) (h:T.at w x.fs b o):Calls Tryz.prog 55 #[.pointer (some ⟨b,o,none⟩)] w fun e w'=> ∃ v,e= .returned v∧OwI 2 w' w.heap.size v (zLz x)∧Below w.heap.size w w':=by
 have HAT:=xN h;obtain⟨hlt0,cs,hr,hc⟩:=h;obtain⟨v1,v2,v3,v4,v5,rfl,h1,h2,h3,h4,h5⟩:=xS.yV hr;clear hr;obtain⟨va1,vc1,rfl,vl1,vm1,R1,HX1⟩:=oG h1;clear h1;obtain⟨va2,vc2,rfl,vl2,vm2,R2,HX2⟩:=oG h2;clear h2;obtain⟨va3,vc3,rfl,vl3,vm3,R3,HX3⟩:=oI h3;clear h3;obtain⟨va4,vc4,rfl,vl4,vm4,R4,HX4⟩:=oG h4;clear h4;obtain⟨va5,vc5,rfl,vl5,vm5,R5,HX5⟩:=oG h5;clear h5;have HL:=xN hlt0;have HCC:=xN hc;have HB0:=xN (Below.refl w.heap.size w);clear hlt0 hc;have HSO:=xN hS;have hn8:x.zH.zD.length≤8:=hS.mixer.few;have hn1:1≤x.zH.zD.length:=hS.mixer.some_;have htot:=yTy hS.mixer;have hle:=xK.1 hS.length;have HGD:=xN hg;obtain⟨lenN,hlen⟩: ∃ q:Nat,x.zF=(q:Int):=⟨x.zF.toNat,by omega⟩;have hl0:lenN≤1000:=by omega
 obtain⟨row,hrow,hrowd,-,-⟩:=(yUy hS).get (show x.zH.zD.length - 1<x.zH.zD.length by omega);have HMX:=xN (show cutL row (uI x.zH) lenN=zLz x by unfold zLz;rw[hrowd,hlen,Int.toNat_natCast]);have hol:=(yUy hS).len;have HRY:=xN (ready_last hS.mixer);have hryl:=vCz x.zH;have HROW:=xN hrow;have HLEN:=xN hlen;clear hS hg hrow hrowd hlen;obtain⟨m1,hm1⟩: ∃ m1:Nat,x.zH.zD.length - 1=m1:=⟨_,rfl⟩;rw[hm1] at HROW HRY;have hm2:x.zH.zD.length=m1+1:=by omega
 have hwm:IntKind.i64.wrap ((x.zH.zD.length:Int) - 1)=(m1:Int):=by rw[IntWalk.i64_in _ zM];omega
 have HM2:=xN hm2;have hm3:m1<x.zH.zD.length:=by omega
 clear hm1 hm2;have HATM:=xN (show T.at w x.zH.fs b (o+5) from T.at_sub [.int .i64 x.zF,.slice va1 x.zI.length vc1,.slice va2 x.zL.length vc2,.slice va3 x.zX.length vc3,.slice va4 x.zO.length vc4] [.slice va5 x.zH.zD.length vc5] [] HL.out HCC.out (wG.rd_mk R5.out));have p0:w.cell? ⟨b,o,none⟩=some (.int .i64 x.zF):=(HB0.out.cell HL.out).trans (HCC.out 0 _ rfl);have p1:w.cell? ⟨b,o+1,none⟩=some (.slice va1 x.zI.length vc1):=(HB0.out.cell HL.out).trans (HCC.out 1 _ rfl);have p2:w.cell? ⟨b,o+2,none⟩=some (.slice va2 x.zL.length vc2):=(HB0.out.cell HL.out).trans (HCC.out 2 _ rfl);have p3:w.cell? ⟨b,o+3,none⟩=some (.slice va3 x.zX.length vc3):=(HB0.out.cell HL.out).trans (HCC.out 3 _ rfl);have p4:w.cell? ⟨b,o+4,none⟩=some (.slice va4 x.zO.length vc4):=(HB0.out.cell HL.out).trans (HCC.out 4 _ rfl);have p5:w.cell? ⟨b,o+5,none⟩=some (.slice va5 x.zH.zD.length vc5):=(HB0.out.cell HL.out).trans (HCC.out 5 _ rfl);have lb:b<w.heap.size:=zW HL.out HB0.out.size
 go_enter Tryz.func55,Tryz.ntmps55
 go_wp2_with fail
 refine(c_l27Outputs x b o _ HSO.out HGD.out HAT.out).mono ?_;rintro e w1 ⟨vo,rfl,ho,hb⟩;have HB1:=xN hb;clear hb p0 p1 p2 p3 p4 p5 lb;obtain⟨oA,ocap,rfl,-,-,ox⟩:=T.yU ho;rw[hol] at *;obtain⟨bo,oo,cso,hAo,hbo,hcso,hcello⟩:=ox _ _ HROW.out;subst hAo;obtain⟨vrow,rfl⟩:=T.rd_one hcso;have eo:=hcello 0 vrow rfl;rw[Nat.mul_one,Nat.add_zero] at eo;have HRR:=xN (T.xB.1 hcso);have HEO:=xN eo;clear hcso hcello eo ox ho;have p0:w1.cell? ⟨b,o,none⟩=some (.int .i64 x.zF):=(HB1.out.cell HL.out).trans (HCC.out 0 _ rfl);have p1:w1.cell? ⟨b,o+1,none⟩=some (.slice va1 x.zI.length vc1):=(HB1.out.cell HL.out).trans (HCC.out 1 _ rfl);have p2:w1.cell? ⟨b,o+2,none⟩=some (.slice va2 x.zL.length vc2):=(HB1.out.cell HL.out).trans (HCC.out 2 _ rfl);have p3:w1.cell? ⟨b,o+3,none⟩=some (.slice va3 x.zX.length vc3):=(HB1.out.cell HL.out).trans (HCC.out 3 _ rfl);have p4:w1.cell? ⟨b,o+4,none⟩=some (.slice va4 x.zO.length vc4):=(HB1.out.cell HL.out).trans (HCC.out 4 _ rfl);have p5:w1.cell? ⟨b,o+5,none⟩=some (.slice va5 x.zH.zD.length vc5):=(HB1.out.cell HL.out).trans (HCC.out 5 _ rfl);have lb:b<w1.heap.size:=zW HL.out HB1.out.size;go_wp2;have HDr:=xN ((Below.refl w1.heap.size w1).drew);have HWd:=xN (show w1.cell? ⟨b,o,none⟩=some (.int .i64 x.zF)∧w1.cell? ⟨bo,oo+m1,none⟩=some vrow from⟨p0,HEO.out⟩);have HKP:=xN (fun(w':World) (hw:Below w1.heap.size w1 w')=>(⟨(hw.cell (World.block_lt_of_cell? _ _ HWd.out.1)).trans HWd.out.1,(hw.cell (World.block_lt_of_cell? _ _ HWd.out.2)).trans HWd.out.2⟩:w'.cell? ⟨b,o,none⟩=some (.int .i64 x.zF)∧w'.cell? ⟨bo,oo+m1,none⟩=some vrow));clear p0 p1 p2 p3 p4 p5 lb;refine wH (fun w'=>w'.cell? ⟨b,o,none⟩=some (.int .i64 x.zF)∧w'.cell? ⟨bo,oo+m1,none⟩=some vrow) [] (by kernel_rfl) ?_ (fun hS0=>?_)
 ·exact HKP.out _ HDr.out
 generalize hwd:w1.drew=wd at *;clear hwd;refine zN 0 hS0 ?_;refine zN 1 hS0 ?_;refine zN 2 hS0 ?_;refine zN 3 hS0 ?_;refine zN 4 hS0 ?_;refine zN 5 hS0 ?_;refine zN 6 hS0 ?_;refine zN 7 hS0 ?_;refine zN 8 hS0 ?_;refine zN 10 hS0 ?_;refine zN 11 hS0 ?_;refine zN 12 hS0 ?_;refine zN 13 hS0 ?_;refine pN 9 (fun K hK=>?_);go_simp;go_wp2_with (go_at_call 129;refine(c_l26Total x.zH b (o+5) _ HSO.out.mixer (show x.zH.good from HGD.out.2.2.2.2.2) (T.at_below HATM.out (yQ HB1.out HB1.out.size HDr.out))).mono ?_;rintro e w2 ⟨rfl,hb⟩)
 have HD2:=xN (yQ HDr.out HDr.out.size hb);clear hb;refine uN hK ?_ (fun hS1=>?_)
 ·exact HKP.out _ HD2.out
 clear hK K hS0;refine pN 14 (fun K hK=>?_);go_simp;go_wp2_with (go_at_call 128;refine(c_l03Slice' _ row (uI x.zH) lenN _ HLEN.out zM zM zM (RdI.below HRR.out HD2.out)).mono ?_;rintro e w3 ⟨v2,rfl,ho,hb⟩)
 have HO3:=xN (OwI.more ho (Nat.le_trans HB1.out.size HD2.out.size));have HD3:=xN (yQ HD2.out HD2.out.size hb);clear ho hb;refine uN hK ?_ (fun hS2=>?_)
 ·exact HKP.out _ HD3.out
 clear hK K hS1;refine pN 15 (fun K hK=>?_);go_simp;refine uN hK ?_ (fun hS3=>?_)
 ·exact HKP.out _ HD3.out
 clear hK K hS2;refine qN ?_;clear hS3;go_wp2;go_ret
 exact⟨_,rfl,by rw[←HMX.out];exact HO3.out,yQ HB1.out HB1.out.size HD3.out⟩
end
section
open Go.RowKit
def wW:xX:=⟨wZ,[],[]⟩
end
section
open Go.RowKit
end
section
open Go.RowKit
def T.flat (w:World) (x:T):Prop:= ∀ w' cs,T.rd w' x cs→T.ow w x [] cs
theorem xU.flat (w:World) (x:xU):T.flat w x.t:=fun w' cs h=>by
 simp only[xU.t,T.rd] at h;obtain rfl:=xU.yV h;exact T.ow_st xU.ow_mk
theorem xV.flat (w:World) (x:xV):T.flat w x.t:=fun w' cs h=>by
 simp only[xV.t,T.rd] at h;obtain rfl:=xV.yV h;exact T.ow_st xV.ow_mk
theorem T.ows_flat {w w':World} : ∀ {xs:List T} {cs:List Value},(∀ x ∈ xs,T.flat w x)→T.rds w' xs cs→T.ows w xs [] cs
 | [],cs,_,h=>by simp only[T.rds] at h;subst h;exact T.c_oe
 |x :: r,cs,hf,h=>by
  simp only[T.rds] at h;obtain⟨c1,c2,rfl,h1,h2⟩:=h;simp only[T.ows];exact⟨[],[],c1,c2,rfl,rfl,hf x (by simp) w' c1 h1,T.ows_flat (fun y hy=>hf y (by simp[hy])) h2⟩
theorem T.ows_flat_map {w w':World} {α:Type} {tr:α→T} {xs:List α} {cs:List Value} (hf: ∀ x,T.flat w (tr x)) (h:T.rds w' (xs.map tr) cs):T.ows w (xs.map tr) [] cs:=
 T.ows_flat (fun x hx=>by obtain⟨y,_,rfl⟩:=List.mem_map.1 hx;exact hf y) h
theorem T.rd_row {w:World} {E:TypeId} {sz:Nat} {xs:List T} {v:Value} (h:T.rd w (.sl E sz xs) [v]): ∃ es,Rd w v sz xs.length es∧T.rds w xs es:=by
 simp only[T.rd] at h;obtain⟨v',es,hv,_,h1,h2⟩:=h;obtain rfl:v=v':=by simpa using hv
 exact⟨es,h1,h2⟩
structure Nx (B:Nat) (w:World) (xs:List T) (F:List Nat) (cs:List Value):Prop where
 ows:T.ows w xs F cs
 nodup:F.Nodup
 lo: ∀ b ∈ F,B≤b
theorem Nx.all {B:Nat} {w w':World} {xs:List T} {F:List Nat} {cs:List Value} (h:Nx B w xs F cs) (hb:Below w.heap.size w w'):Nx B w' xs F cs:=⟨T.ows_all h.ows hb,h.nodup,h.lo⟩
theorem Nx.of_nw {B:Nat} {w w':World} {xs:List T} {F:List Nat} {cs:List Value} (h:Nw w w' xs F cs) (hB:B≤w.heap.size):Nx B w' xs F cs:=⟨h.ows,h.nodup,fun b hb=>Nat.le_trans hB (h.lo b hb)⟩
theorem vDz {A B:List Nat} (h: ∀ a,A.count a=B.count a):A.Perm B:=List.perm_iff_count.2 h
theorem Grow.split4 {B:Nat} {w:World} {E:TypeId} {sz:Nat} {xs:List T} {F FR:List Nat} {v:Value} {E1 E2 E3 E4:TypeId} {s1 s2 s3 s4:Nat} {l1 l2 l3 l4:List T} {v1 v2 v3 v4:Value}
  (h:Grow B w E sz xs F v [.sl E1 s1 l1,.sl E3 s3 l3,.sl E2 s2 l2,.sl E4 s4 l4] FR [v1,v3,v2,v4]):
  ∃ F1 F2 F3 F4,T.ow w (.sl E1 s1 l1) F1 [v1]∧T.ow w (.sl E2 s2 l2) F2 [v2]∧T.ow w (.sl E3 s3 l3) F3 [v3]∧T.ow w (.sl E4 s4 l4) F4 [v4]∧(F1++(F2++(F3++(F4++(F++ []))))).Nodup∧
   (∀ b ∈ F1++(F2++(F3++(F4++(F++ [])))),B≤b)∧ ∀ g,g ∉ F→g ∉ FR→g ∉ F1++(F2++(F3++(F4++(F++ [])))):=by
 obtain⟨u1,r1,F1,G1,rfl,e1,o1,h1⟩:=T.ows_sl.1 h.rest;obtain⟨u3,r3,F3,G3,rfl,e3,o3,h3⟩:=T.ows_sl.1 h1;obtain⟨u2,r2,F2,G2,rfl,e2,o2,h2⟩:=T.ows_sl.1 h3;obtain⟨u4,r4,F4,G4,rfl,e4,o4,h4⟩:=T.ows_sl.1 h2;obtain⟨rfl,rfl⟩:=T.ows_nil.1 h4;subst e4 e2 e3;injection e1 with e1 e;injection e with e3 e;injection e with e2 e;injection e with e4 _;subst e1 e2 e3 e4
 have hp:(F1++(F2++(F3++(F4++(F++ []))))).Perm (F++(F1++(F3++(F2++(F4++ []))))):=vDz fun a=>by
  simp only[List.count_append,List.count_nil];omega
 have hn:(F++(F1++(F3++(F2++(F4++ []))))).Nodup:=zAz h.own.nodup h.nd h.dj;refine⟨F1,F2,F3,F4,o1,o2,o3,o4,hp.nodup_iff.2 hn,fun b hb=>?_,fun g h1 h2 hg=>?_⟩
 ·rcases List.mem_append.1 (hp.mem_iff.1 hb) with hb|hb
  ·exact h.own.lo b hb
  ·exact h.lo b hb
 ·rcases List.mem_append.1 (hp.mem_iff.1 hg) with hg|hg
  ·exact h1 hg
  ·exact h2 hg
theorem xO.sl3 {w:World} {x:xO} {p1 p2 p3:Value} (h:T.rds w x.fs [.int .i64 x.zS,p1,p2,p3]):(∃ A l c,p1= .slice A l c)∧(∃ A l c,p2= .slice A l c)∧ ∃ A l c,p3= .slice A l c:=by
 obtain⟨v1,v2,v3,e,h1,h2,h3⟩:=xO.yV h;injection e with _ e;injection e with e1 e;injection e with e2 e;injection e with e3 _;subst e1 e2 e3;exact⟨T.xD h1,T.xD h2,T.xD h3⟩
theorem Own.of_flat {B:Nat} {w w':World} {E:TypeId} {sz n:Nat} {v:Value} {α:Type} {tr:α→T} {xs:List α} {es:List Value} (hf: ∀ x,T.flat w (tr x)) (hw: ∀ x,T.wide (tr x)=sz)
  (h:w.ownsRow B E sz v n es) (hr:T.rds w' (xs.map tr) es) (hn:n=xs.length):Own B w (.sl E sz (xs.map tr)) v.ownBlock.toList v:=by
 refine⟨?_,by cases v.ownBlock<;>simp,fun b hb=>(h.lt b (by simpa using hb)).1⟩;simp only[T.ow];refine⟨v,es,[],rfl,by simp,?_,by rw[List.length_map,←hn];exact wU h (Nat.zero_le _),T.ows_flat_map hf hr⟩;intro x hx;obtain⟨y,_,rfl⟩:=List.mem_map.1 hx;exact hw y
end
section
open Go.RowKit
end
section
open Go.RowKit
end
section
open Go.RowKit
end
section
open Go.RowKit
theorem c_copyPatch (x:xO) (cs:List Value) (w:World) (hs:x.small) (h:T.rds w x.fs cs):Calls Tryz.prog 113 #[.agg cs.toArray] w fun e w'=> ∃ v1 v2 v3 F,e= .returned (.agg #[.int .i64 x.zS,v1,v2,v3])∧Nw w w' x.fs F [.int .i64 x.zS,v1,v2,v3]:=by
 obtain⟨v1,v2,v3,rfl,h1,h2,h3⟩:=xO.yV h;clear h;obtain⟨va1,vc1,rfl,vl1,vm1,R1,HX1⟩:=oG h1;clear h1;obtain⟨va2,vc2,rfl,vl2,vm2,R2,HX2⟩:=oG h2;clear h2;obtain⟨va3,vc3,rfl,vl3,vm3,R3,HX3⟩:=oI h3;clear h3;have HB0:=xN (show Below w.heap.size w (w.alloc (.cells #[.int .i64 x.zS,(.slice va1 x.zV.length vc1),(.slice va2 x.zC.length vc2),(.slice va3 x.zT.length vc3)] 108)) from zR.alloc zJ _);have HK0:=xN (Bk.born w 108 #[.int .i64 x.zS,(.slice va1 x.zV.length vc1),(.slice va2 x.zC.length vc2),(.slice va3 x.zT.length vc3)]);have HS:=xN hs;clear hs;have HBa:=xN (HB0.out.alloc (by simp) (.cells #[.int .i64 0,.slice none 0 0,.slice none 0 0,.slice none 0 0] 108));have HKa:=xN (HK0.out.alloc (.cells #[.int .i64 0,.slice none 0 0,.slice none 0 0,.slice none 0 0] 108));have HRa:=xN (Bk.born1' w (.cells #[.int .i64 x.zS,(.slice va1 x.zV.length vc1),(.slice va2 x.zC.length vc2),(.slice va3 x.zT.length vc3)] 108) 108 #[.int .i64 0,.slice none 0 0,.slice none 0 0,.slice none 0 0]);clear HB0 HK0
 go_enter Tryz.func113,Tryz.ntmps113
 go_wp2_with fail
 rename_i Q1 K1 hK1
 have REST: ∀ (g:Nat) (tA:Option Addr) (lA cA:Nat) (tB:Option Addr) (lB cB:Nat) (FR:List Nat) (u6 u7 u8 u9 u10 u11 u12 u13 u14:Value) (W:World),Bk W w.heap.size 108 #[.int .i64 x.zS,(.slice va1 x.zV.length vc1),(.slice va2 x.zC.length vc2),(.slice va3 x.zT.length vc3)]→Bk W (w.heap.size+1) 108 #[.int .i64 0,.slice none 0 0,.slice none 0 0,.slice none 0 0]→Bk W g 108 #[.int .i64 x.zS,.slice tA lA cA,.slice none 0 0,.slice tB lB cB]→T.ows W [T.sl 26 1 (x.zV.map (T.ints 2)),T.ints 2 x.zT] FR [.slice tA lA cA,.slice tB lB cB]→FR.Nodup→(∀ b ∈ FR,w.heap.size+2≤b)→g ∉ FR→w.heap.size+2≤g→Below w.heap.size w W→K1 { tmps:= #[.agg #[.int .i64 x.zS,(.slice va1 x.zV.length vc1),(.slice va2 x.zC.length vc2),(.slice va3 x.zT.length vc3)],.pointer (some ⟨w.heap.size,0,none⟩),.pointer (some ⟨w.heap.size+1,0,none⟩),.pointer (some ⟨g,0,none⟩),undef,undef,u6,u7,u8,u9,u10,u11,u12,u13,u14,undef,undef,undef,undef,undef,undef,undef,undef,undef,undef,undef,undef,undef,undef,undef,undef],defers:= [] } W:=by
  intro g tA lA cA tB lB cB FR u6 u7 u8 u9 u10 u11 u12 u13 u14 W bk1 bk2 bk3 ow nd lo gf gl hbw;refine hK1 _ _ ?_;clear hK1 K1 HBa HKa HRa;have HP:=xN bk1;have HR:=xN bk2;have HO:=xN bk3;have HOW:=xN ow;have HND:=xN nd;have HLO:=xN lo;have HGF:=xN gf;have HBW:=xN hbw;have kp:=bk1.cell;clear bk1 bk2 bk3 ow nd lo gf hbw;have ng1:w.heap.size≠g:=by omega
  have ng2:w.heap.size+1≠g:=by omega
  go_wp2
  go_loopw [18] (fun i wr=> ∃ (k:Nat) (v:Value) (F:List Nat),k≤x.zC.length∧i= .int .i64 (k:Int)∧Grow (w.heap.size+2) wr 167 4 ((x.zC.take k).map xR.t) F v [T.sl 26 1 (x.zV.map (T.ints 2)),T.ints 2 x.zT] FR [.slice tA lA cA,.slice tB lB cB]∧g ∉ F∧Bk wr w.heap.size 108 #[.int .i64 x.zS,(.slice va1 x.zV.length vc1),(.slice va2 x.zC.length vc2),(.slice va3 x.zT.length vc3)]∧Bk wr (w.heap.size+1) 108 #[.int .i64 0,.slice none 0 0,.slice none 0 0,.slice none 0 0]∧Bk wr g 108 #[.int .i64 x.zS,.slice tA lA cA,v,.slice tB lB cB]∧Below w.heap.size w wr) (fun i _=>x.zC.length - (intOf i).toNat)
  case atStart=>exact⟨0,.slice none 0 0,[],Nat.zero_le _,rfl,by simpa using Grow.start HOW.out HND.out HLO.out 167 4,by simp,HP.out,HR.out,HO.out,HBW.out⟩
  case round=>
   obtain⟨k,v,F,hk,rfl,hG,hgF,b1,b2,b3,hb⟩:=hrel;obtain⟨tN,lN,cN,rfl⟩:=hG.form;have HG:=xN hG;have HF:=xN hgF;have HP1:=xN b1;have HR1:=xN b2;have HO1:=xN b3;have HB:=xN hb;clear hG hgF b1 b2 b3 hb;have hsz:w.heap.size+2≤wr.heap.size:=by have:=HR1.out.lt;omega
   have hgr:g<wr.heap.size:=HO1.out.lt;by_cases hlt:k<x.zC.length
   rotate_left
   ·obtain rfl:k=x.zC.length:=by omega
    have ko:=HO1.out.cell;have fo:=HO1.out.free;have kr:=HR1.out.cell;have fr:=HR1.out.free;have hr1:w.heap.size+1<wr.heap.size:=by omega
    have nn1: ¬ g=w.heap.size+1:=by omega
    go_wp2;obtain⟨F1,F3,o1,o3,nd,lo,gn⟩:=HG.out.split;have hr2:=gn (w.heap.size+1) (fun hm=>by have:=HG.out.own.lo _ hm;omega) (fun hm=>by have:=HG.out.lo _ hm;omega);have o2:=HG.out.own.ow;rw[List.take_length] at o2;have hO:=xO.ow_mk (x:=x) o1 o2 o3;refine bodyPost_ret (v:= .agg #[.int .i64 x.zS,.slice tA lA cA,(.slice tN lN cN),.slice tB lB cB]) (by simp[results,Tryz.results113,go_sem,ko,fo,kr,fr]) rfl ?_;exact⟨_,_,_,_,rfl,T.yX (T.yX (T.yX (T.yX hO hr2 _ _) hr2 _ _) hr2 _ _) hr2 _ _,nd,fun b hb=>by have:=lo b hb;omega,(((HB.out.setCell (by simp) _).setCell (by simp) _).setCell (by simp) _).setCell (by simp) _⟩
   have hsy:=HS.out.2.1.2 _ (List.getElem_mem hlt);have hgk:=gE hlt;obtain⟨b,off,cs1,hA,hb1,hcs,hcell⟩:=HX2.out k x.zC[k] hgk;subst hA;generalize x.zC[k]=y at *;have HY:=xN hgk;have HSY:=xN hsy;clear hgk hsy;obtain⟨u3,rfl,hRY3⟩:=xR.yV (show T.rds _ _ _ by simpa only[xR.t,T.rd] using hcs);have d0:=(HB.out.cell hb1).trans (hcell 0 (.int .i64 y.zG) rfl);have d1:=(HB.out.cell hb1).trans (hcell 1 (.int .i64 y.fA) rfl);have d2:=(HB.out.cell hb1).trans (hcell 2 (.int .i64 y.fB) rfl);have d3:=(HB.out.cell hb1).trans (hcell 3 (u3) rfl);rw[show off+(k * 4+0)=off+k * 4 by omega] at d0;rw[show off+(k * 4+1)=off+k * 4+1 by omega] at d1;rw[show off+(k * 4+2)=off+k * 4+2 by omega] at d2;rw[show off+(k * 4+3)=off+k * 4+3 by omega] at d3;have RY3:=xN (T.yM hRY3 HB.out);clear hRY3;clear hcs hcell;obtain⟨ua3,ul3,uc3,rfl⟩:=T.xD RY3.out;have hq1:b<wr.heap.size:=zW hb1 HB.out.size;have HXA:=xN (show Below wr.heap.size wr (wr.alloc (.cells #[.int .i64 y.zG,.int .i64 y.fA,.int .i64 y.fB,.slice ua3 ul3 uc3] 167)) from zR.alloc zJ _);have HXB:=xN (Bk.born wr 167 #[.int .i64 y.zG,.int .i64 y.fA,.int .i64 y.fB,.slice ua3 ul3 uc3]);go_wp2;generalize wr.alloc (.cells #[.int .i64 y.zG,.int .i64 y.fA,.int .i64 y.fB,.slice ua3 ul3 uc3] 167)=W2 at *;have ko:=(HO1.out.below HXA.out HO1.out.lt).cell;have kx:=HXB.out.cell;refine vC (fun w'=>(∀ i,w'.cell? ⟨g,i,none⟩= #[.int .i64 x.zS,.slice tA lA cA,(.slice tN lN cN),.slice tB lB cB][i]?)∧(∀ i,w'.cell? ⟨wr.heap.size,i,none⟩= #[.int .i64 y.zG,.int .i64 y.fA,.int .i64 y.fB,.slice ua3 ul3 uc3][i]?)) 7 (by kernel_rfl) ?_ (fun hS0=>?_)
   ·exact⟨ko,kx⟩
   refine zE 0 hS0 ?_;refine zE 1 hS0 ?_;refine zE 2 hS0 ?_;refine pE 3 (fun K hK=>?_);go_simp;go_wp2_with (go_at_call 167;refine(c_copyNode y _ _ HSY.out (xR.rd_mk (T.yM RY3.out HXA.out.drew))).mono ?_;rintro e wC ⟨u,Fx,rfl,hN⟩;obtain⟨u3,G3,e1,e2,hu3⟩:=xR.ow_open hN.ows;obtain⟨tU,lU,cU,rfl⟩:=T.xE (show T.ow _ _ _ [u] by simpa using(by injection e1 with _ e1;injection e1 with _ e1;injection e1 with _ e1;injection e1 with e1 _;subst e1;exact hu3));clear e1 e2 hu3;have HN:=xN hN;clear hN)
   have hbC:=undrew HN.out.below;have HBC:=xN hbC;have HGC:=xN ((HG.out.all HXA.out).all hbC);have HOC:=xN ((HO1.out.below HXA.out HO1.out.lt).below hbC (HO1.out.below HXA.out HO1.out.lt).lt);have HXC:=xN (HXB.out.below hbC HXB.out.lt);have HPC:=xN ((HP1.out.below HXA.out HP1.out.lt).below hbC (HP1.out.below HXA.out HP1.out.lt).lt);have HRC:=xN ((HR1.out.below HXA.out HR1.out.lt).below hbC (HR1.out.below HXA.out HR1.out.lt).lt);have HBCw:=xN (yQ (yQ HB.out HB.out.size HXA.out) (yQ HB.out HB.out.size HXA.out).size hbC);clear hbC;refine hK.out _ _ ?_ (fun hS1=>?_)
   ·exact⟨HOC.out.cell,HXC.out.cell⟩
   clear hK K hS0;have hsC:wr.heap.size≤wC.heap.size:=Nat.le_trans HXA.out.size HBC.out.size;have HZA:=xN (show Below wC.heap.size wC (wC.alloc (.cells #[.int .i64 y.zG,.int .i64 y.fA,.int .i64 y.fB,.slice tU lU cU] 167)) from zR.alloc zJ _);refine pE 4 (fun K hK=>?_);go_simp;refine hK.out _ _ ?_ (fun hS2=>?_)
   ·exact⟨(HOC.out.alloc _).cell,(HXC.out.alloc _).cell⟩
   clear hK K hS1;refine pE 5 (fun K hK=>?_);refine xRz rfl _ _ _ rfl (w.heap.size+2) _ _ 4 48 Tryz.underlying106 yEy rfl zM rfl (HGC.out.all HZA.out).own rfl (Bk.born _ _ _) (x:=y.t) (T.ow_st (T.ows_all HN.out.ows HZA.out)) HN.out.nodup (fun b hb=>by have:=HN.out.lo b hb;have h2:=HXA.out.size;exact Nat.le_trans hsz (Nat.le_trans h2 this)) (fun b hb hb2=>by have h1:=HG.out.lt b hb;have h2:=HN.out.lo b hb2;have h3:wr.heap.size≤b:=Nat.le_trans HXA.out.size h2;omega) rfl (by rw[List.length_map,List.length_take];have:=HS.out.2.1.1;omega) (by rw[List.length_map,List.length_take];have:=HS.out.2.1.1;unfold maxLen;omega) (Nat.le_trans hsz (Nat.le_trans hsC HZA.out.size)) ?_;intro v8 w8 F8 ho8 hg8 hv8;obtain⟨t8,l8,c8,rfl⟩:=T.xE ho8.ow;have HG8:=xN ((HGC.out.all HZA.out).app ho8 hg8 hv8 (fun b hb hb2=>by have h1:=HG.out.ltR b hb2;have h2:=HN.out.lo b hb;have h3:wr.heap.size≤b:=Nat.le_trans HXA.out.size h2;omega));have gC:g ∉ F:=HF.out;have HO8:=xN ((HOC.out.alloc (.cells #[.int .i64 y.zG,.int .i64 y.fA,.int .i64 y.fB,.slice tU lU cU] 167)).far1 hg8 gC (HGC.out.all HZA.out).own);have HX8:=xN ((HXC.out.alloc (.cells #[.int .i64 y.zG,.int .i64 y.fA,.int .i64 y.fB,.slice tU lU cU] 167)).far1 hg8 (fun hm=>by have:=HG.out.lt _ hm;omega) (HGC.out.all HZA.out).own);have HP8:=xN ((HPC.out.alloc (.cells #[.int .i64 y.zG,.int .i64 y.fA,.int .i64 y.fB,.slice tU lU cU] 167)).far1 hg8 (fun hm=>by have:=HG.out.own.lo _ hm;omega) (HGC.out.all HZA.out).own);have HR8:=xN ((HRC.out.alloc (.cells #[.int .i64 y.zG,.int .i64 y.fA,.int .i64 y.fB,.slice tU lU cU] 167)).far1 hg8 (fun hm=>by have:=HG.out.own.lo _ hm;omega) (HGC.out.all HZA.out).own);have HB8:=xN (((HGC.out.all HZA.out).own.more (show w.heap.size≤w.heap.size+2 by omega)).below (HBCw.out.alloc HBCw.out.size _) (Nat.le_trans (Nat.le_trans (show w.heap.size≤wr.heap.size by omega) hsC) HZA.out.size) hg8);have HF8:=xN (Grow.out hv8 gC (fun hm=>by have h2:=HN.out.lo _ hm;have h3:wr.heap.size≤g:=Nat.le_trans HXA.out.size h2;omega) (zW hgr (Nat.le_trans hsC HZA.out.size)));clear ho8 hg8 hv8;refine hK.out _ _ ?_ (fun hS3=>?_)
   ·exact⟨HO8.out.cell,HX8.out.cell⟩
   clear hK K hS2;refine zE 6 hS3 ?_;refine qE ?_;have fo8:=HO8.out.free;have co8:=HO8.out.cell;have lo8:=HO8.out.lt;go_wp2
   go_roundw
   case rel=>exact⟨k+1,.slice t8 l8 c8,F8,by omega,by go_num,(by rw[xZ HY.out,List.map_append];exact HG8.out.far HF8.out HGF.out _ _),HF8.out,HP8.out.far ng1 _,HR8.out.far ng2 _,(by have:=HO8.out.set_ 2 (.slice t8 l8 c8);simpa using this),HB8.out.setCell (by simp;omega) _⟩
   case measure=>simp[intOf];omega
 have HE2:=xN (show ((w.alloc (.cells #[.int .i64 x.zS,(.slice va1 x.zV.length vc1),(.slice va2 x.zC.length vc2),(.slice va3 x.zT.length vc3)] 108)).alloc (.cells #[.int .i64 0,.slice none 0 0,.slice none 0 0,.slice none 0 0] 108)).heap.size=w.heap.size+1+1 by simp)
 go_region_held3 (fun w'=> ∀ i,w'.cell? ⟨w.heap.size,i,none⟩= #[.int .i64 x.zS,(.slice va1 x.zV.length vc1),(.slice va2 x.zC.length vc2),(.slice va3 x.zT.length vc3)][i]?) (first|with_reducible exact((((KB.out.far (by first|with_reducible exact Nat.ne_of_lt KA.out.lt|(simp;done)|(simp;omega)) _).far (by first|with_reducible exact Nat.ne_of_lt KA.out.lt|(simp;done)|(simp;omega)) _).far (by first|with_reducible exact Nat.ne_of_lt KA.out.lt|(simp;done)|(simp;omega)) _).far (by first|with_reducible exact Nat.ne_of_lt KA.out.lt|(simp;done)|(simp;omega)) _).cell|with_reducible exact(KB.out.alloc _).cell|with_reducible exact KB.out.cell|with_reducible exact(KA.out.alloc _).cell|with_reducible exact KA.out.cell|exact HKa.out.cell|exact(HKa.out.alloc _).cell) (first|(go_at_call 111;refine(c_clones _ x.zV _ HS.out.1 (T.yM R1.out (by first|with_reducible exact HBa.out|with_reducible exact HBa.out.drew|with_reducible exact below_drewN HBa.out _|with_reducible exact HBa.out.alloc zQ _|with_reducible exact(HBa.out.alloc zQ _).drew|with_reducible exact(HBa.out.drew).alloc zQ _|with_reducible exact below_drewN (HBa.out.alloc zQ _) _|with_reducible exact(below_drewN HBa.out _).alloc zQ _))).mono ?_;rintro e wA ⟨vA,FA,rfl,hoA,hbA⟩;obtain⟨tA,lA,cA,rfl⟩:=T.xE hoA.ow;have OA:=xN hoA;have CA:=xN (show Below ((w.alloc (.cells #[.int .i64 x.zS,(.slice va1 x.zV.length vc1),(.slice va2 x.zC.length vc2),(.slice va3 x.zT.length vc3)] 108)).alloc (.cells #[.int .i64 0,.slice none 0 0,.slice none 0 0,.slice none 0 0] 108)).heap.size ((w.alloc (.cells #[.int .i64 x.zS,(.slice va1 x.zV.length vc1),(.slice va2 x.zC.length vc2),(.slice va3 x.zT.length vc3)] 108)).alloc (.cells #[.int .i64 0,.slice none 0 0,.slice none 0 0,.slice none 0 0] 108)) wA from(by first|with_reducible exact hbA|with_reducible exact undrew hbA|with_reducible exact wP hbA|with_reducible exact yT hbA|with_reducible exact undrew (yT hbA)|with_reducible exact yT (undrew hbA)|with_reducible exact wP (yT hbA)|with_reducible exact yT (wP hbA)));have KA:=xN (HKa.out.below CA.out HKa.out.lt);have RA:=xN (HRa.out.below CA.out HRa.out.lt);(try ((first|have gA:=Bk.below (Bk.born _ _ _) hbA (by simp)|have gA:=Bk.below (Bk.drew (Bk.born _ _ _)) hbA (by simp));rw[HE2.out] at gA;have GA:=xN gA;clear gA;have ga:=GA.out.cell;have gaf:=GA.out.free));clear hoA hbA)|(go_at_call 112;refine(yFz _ x.zT _ (Rd.below R3.out (yQ HBa.out HBa.out.size (by first|with_reducible exact CA.out|with_reducible exact CA.out.drew|with_reducible exact below_drewN CA.out _|with_reducible exact CA.out.alloc (CA.out.size) _|with_reducible exact(CA.out.drew).alloc (CA.out.size) _|with_reducible exact(CA.out.alloc (CA.out.size) _).drew|with_reducible exact below_drewN (CA.out.alloc (CA.out.size) _) _))) HS.out.2.2).mono ?_;rintro e wB ⟨vB,rfl,hoB,hbB⟩;obtain⟨tB,cB,rfl,-,-,-⟩:=hoB.rd.open_;have OB:=xN (Nv.ints hoB hbB);have CB:=xN (show Below wA.heap.size wA wB from(by first|with_reducible exact hbB|with_reducible exact undrew hbB|with_reducible exact wP hbB|with_reducible exact yT hbB|with_reducible exact undrew (yT hbB)|with_reducible exact yT (undrew hbB)|with_reducible exact yT (wP hbB)));have KB:=xN (KA.out.below CB.out KA.out.lt);have RB:=xN (RA.out.below CB.out RA.out.lt);(try (have GB:=xN (Bk.below (Bk.born _ _ _) hbB (by simp));have gb:=GB.out.cell;have gbf:=GB.out.free));(try (have GC:=xN (GA.out.below CB.out GA.out.lt);have gc:=GC.out.cell;have gcf:=GC.out.free));clear hoB hbB))
 ·-- the alloc comes last
  have ow:T.ows wB [T.sl 26 1 (x.zV.map (T.ints 2)),T.ints 2 x.zT] (FA++(_++ [])) [.slice tA lA cA,.slice tB x.zT.length cB]:=T.c_ol (T.ow_all OA.out.ow CB.out) (T.c_ol OB.out.ow T.c_oe);have s1:=CA.out.size;have s2:=CB.out.size;rw[HE2.out] at s1;have la: ∀ b ∈ FA,w.heap.size+2≤b:=fun b hb=>by have h1:=OA.out.lo b hb;(try simp at h1);omega
  have ta:=OA.out.lt;have lb:=OB.out.lo;have tb:=OB.out.lt;have hwb:Below w.heap.size w wB:=yQ (yQ HBa.out HBa.out.size CA.out) (yQ HBa.out HBa.out.size CA.out).size CB.out;have nd:(FA++(_++ [])).Nodup:=zAz OA.out.nodup (by rw[List.append_nil];exact OB.out.nodup) (fun b hb hm=>by rw[List.append_nil] at hm;have h1:=ta b hb;have h2:=lb b hm;(try simp at h2);omega);have lo: ∀ b ∈ FA++(_++ []),w.heap.size+2≤b:=fun b hb=>by rw[List.append_nil] at hb;rcases List.mem_append.1 hb with h|h;(· exact la b h);(· have h2:=lb b h;(try simp at h2);omega)
  exact REST wB.heap.size _ _ _ _ _ _ _ _ _ _ _ _ _ _ _ _ _ (KB.out.alloc _) (RB.out.alloc _) (Bk.born _ _ _) (T.ows_all ow (zR.alloc zJ _)) nd lo (fun hm=>by rw[List.append_nil] at hm;rcases List.mem_append.1 hm with h|h;(· have h1:=ta _ h;have h2:=OA.out.lo _ h;(try simp at h2);omega);(· have h1:=tb _ h;have h2:=lb _ h;(try simp at h2);omega)) zM (hwb.alloc hwb.size _)
 ·
  have ow:T.ows wB [T.sl 26 1 (x.zV.map (T.ints 2)),T.ints 2 x.zT] (FA++(_++ [])) [.slice tA lA cA,.slice tB x.zT.length cB]:=T.c_ol (T.ow_all OA.out.ow CB.out) (T.c_ol OB.out.ow T.c_oe);have s1:=CA.out.size;have s2:=CB.out.size;rw[HE2.out] at s1;have la: ∀ b ∈ FA,w.heap.size+2≤b:=fun b hb=>by have h1:=OA.out.lo b hb;(try simp at h1);omega
  have ta:=OA.out.lt;have lb:=OB.out.lo;have tb:=OB.out.lt;have hwb:Below w.heap.size w wB:=yQ (yQ HBa.out HBa.out.size CA.out) (yQ HBa.out HBa.out.size CA.out).size CB.out;have nd:(FA++(_++ [])).Nodup:=zAz OA.out.nodup (by rw[List.append_nil];exact OB.out.nodup) (fun b hb hm=>by rw[List.append_nil] at hm;have h1:=ta b hb;have h2:=lb b hm;(try simp at h2);omega);have lo: ∀ b ∈ FA++(_++ []),w.heap.size+2≤b:=fun b hb=>by rw[List.append_nil] at hb;rcases List.mem_append.1 hb with h|h;(· exact la b h);(· have h2:=lb b h;(try simp at h2);omega)
  have g1:w.heap.size≠wA.heap.size:=by omega
  have g2:w.heap.size+1≠wA.heap.size:=by omega
  have gf:wA.heap.size ∉ FA++(_++ []):=(fun hm=>by rw[List.append_nil] at hm;rcases List.mem_append.1 hm with h|h;(· have h1:=ta _ h;have h2:=OA.out.lo _ h;(try simp at h2);omega);(· have h1:=tb _ h;have h2:=lb _ h;(try simp at h2);omega));have gl:w.heap.size≤wA.heap.size:=by omega
  exact REST (wA.heap.size) _ _ _ _ _ _ _ _ _ _ _ _ _ _ _ _ _ ((((KB.out.far g1 _).far g1 _).far g1 _).far g1 _) ((((RB.out.far g2 _).far g2 _).far g2 _).far g2 _) ((((GB.out.set_ _ _).set_ _ _).set_ _ _).set_ _ _) (T.yX (T.yX (T.yX (T.yX ow gf _ _) gf _ _) gf _ _) gf _ _) nd lo gf zM ((((hwb.setCell gl _).setCell gl _).setCell gl _).setCell gl _)
 ·
  have ow:T.ows wB [T.sl 26 1 (x.zV.map (T.ints 2)),T.ints 2 x.zT] (FA++(_++ [])) [.slice tA lA cA,.slice tB x.zT.length cB]:=T.c_ol (T.ow_all OA.out.ow CB.out) (T.c_ol OB.out.ow T.c_oe);have s1:=CA.out.size;have s2:=CB.out.size;rw[HE2.out] at s1;have la: ∀ b ∈ FA,w.heap.size+2≤b:=fun b hb=>by have h1:=OA.out.lo b hb;(try simp at h1);omega
  have ta:=OA.out.lt;have lb:=OB.out.lo;have tb:=OB.out.lt;have hwb:Below w.heap.size w wB:=yQ (yQ HBa.out HBa.out.size CA.out) (yQ HBa.out HBa.out.size CA.out).size CB.out;have nd:(FA++(_++ [])).Nodup:=zAz OA.out.nodup (by rw[List.append_nil];exact OB.out.nodup) (fun b hb hm=>by rw[List.append_nil] at hm;have h1:=ta b hb;have h2:=lb b hm;(try simp at h2);omega);have lo: ∀ b ∈ FA++(_++ []),w.heap.size+2≤b:=fun b hb=>by rw[List.append_nil] at hb;rcases List.mem_append.1 hb with h|h;(· exact la b h);(· have h2:=lb b h;(try simp at h2);omega)
  have s3:=GA.out.lt;have g1:w.heap.size≠(w.heap.size+1+1):=by omega
  have g2:w.heap.size+1≠(w.heap.size+1+1):=by omega
  have gf:(w.heap.size+1+1) ∉ FA++(_++ []):=(fun hm=>by rw[List.append_nil] at hm;rcases List.mem_append.1 hm with h|h;(· have h1:=ta _ h;have h2:=OA.out.lo _ h;(try simp at h2);omega);(· have h1:=tb _ h;have h2:=lb _ h;(try simp at h2);omega));have gl:w.heap.size≤(w.heap.size+1+1):=by omega
  exact REST ((w.heap.size+1+1)) _ _ _ _ _ _ _ _ _ _ _ _ _ _ _ _ _ ((((KB.out.far g1 _).far g1 _).far g1 _).far g1 _) ((((RB.out.far g2 _).far g2 _).far g2 _).far g2 _) ((((GC.out.set_ _ _).set_ _ _).set_ _ _).set_ _ _) (T.yX (T.yX (T.yX (T.yX ow gf _ _) gf _ _) gf _ _) gf _ _) nd lo gf zM ((((hwb.setCell gl _).setCell gl _).setCell gl _).setCell gl _)
end
end Go.Proofs.YtoibekfhepnedaaGreat
