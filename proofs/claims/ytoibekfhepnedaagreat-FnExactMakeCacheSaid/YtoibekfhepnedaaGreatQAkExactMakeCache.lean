/- Contracts: what is valid, by the reference: tables, nodes. -/
import Derived.Test.YtoibekfhepnedaaGreatQAjExactMakeCache
import Derived.Test.YtoibekfhepnedaaGreatQAeExactMakeCache
set_option linter.unusedVariables false
set_option linter.unusedSimpArgs false
set_option maxHeartbeats 2000000
set_option maxRecDepth 20000
namespace Go.Proofs.YtoibekfhepnedaaGreat
open Go.RowKit
theorem rdI_bk {w:World} {g:Nat} {t:TypeId} {cs:Array Value} {xs:List Int} (h:Bk w g t cs) (hx:cs.toList=xs.map (Value.int .i64)) (hl:xs.length≤1048576):RdI w (.slice (some ⟨g,0,none⟩) xs.length xs.length) xs:=by
 refine⟨by simp,some ⟨g,0,none⟩,xs.length,rfl,Nat.le_refl _,by omega,fun _=>⟨g,0,rfl,h.lt,fun j u hj=>?_⟩⟩
 rw[Nat.zero_add,h.cell j,←Array.getElem?_toList,hx]
 exact hj
theorem c_l00Has (v:Value) (xs:List Int) (n:Int) (w:World) (hr:RdI w v xs):Calls Tryz.prog 58 #[v,.int .i64 n] w fun e w'=>e= .returned (.bool (decide (n ∈ xs)))∧w=w':=by
 obtain⟨A,cap,rfl,hl,hc,hx⟩:=hr.open_
 have HX:=hide hx;clear hx hr
 go_enter Tryz.func58,Tryz.ntmps58
 go_wp2
 go_loop [5] (fun i=> ∃ k:Nat,k≤xs.length∧i= .int .i64 k∧vI xs (fun _ x=>x≠n) k) (fun i=>xs.length - (intOf i).toNat)
 case atStart=>exact⟨0,Nat.zero_le _,rfl,vI.zero⟩
 case round=>
  obtain⟨k,hk,rfl,hs⟩:=hrel
  have HS:=hide hs;clear hs
  by_cases hlt:k<xs.length
  ·have hgk:=gE hlt
   obtain⟨b,off,rfl,hb,hcell⟩:=HX.out k xs[k] hgk
   generalize xs[k]=x at *
   have HG:=hide hgk;clear hgk
   by_cases hq:x=n
   ·have q:(x == n)=true:=yS hq
    have HQ:=hide hq;clear hq
    go_wp2
    go_ret
    exact⟨yI (decide_eq_true (by rw[←HQ.out];exact List.mem_of_getElem? HG.out)).symm,rfl⟩
   ·have q:(x == n)=false:=yR hq
    have HQ:=hide hq;clear hq
    go_wp2
    go_round
    case rel=>exact⟨k+1,by omega,by go_num,HS.out.step HG.out HQ.out⟩
    case measure=>simp[intOf];omega
  ·have hall:=hide (HS.out.all (by omega))
   go_wp2
   go_ret
   exact⟨yI (decide_eq_false (fun h=>by
    obtain⟨i,hi,e⟩:=List.mem_iff_getElem.1 h
    exact hall.out i _ (gE hi) e)).symm,rfl⟩
theorem c_l06Kind (n:Int) (w:World):Calls Tryz.prog 268 #[.int .i64 n] w fun e w'=>e= .returned (.bool (inB n 1 17))∧w=w':=by
 go_enter Tryz.func268,Tryz.ntmps268
 go_wp2_with (go_at_call 87;refine(xX _ _ _ _).mono ?_;rintro e w' ⟨rfl,rfl⟩)
 go_ret
 exact⟨rfl,rfl⟩
theorem c_l06Arity (n:Int) (h:inB n 1 17=true) (w:World):Calls Tryz.prog 217 #[.int .i64 n] w fun e w'=>e= .returned (.int .i64 (kndF n).inputs)∧Below w.heap.size w w':=by
 have HB:=hide (show Below w.heap.size w (w.alloc (.cells #[.int .i64 (-1),.int .i64 0,.int .i64 0,.int .i64 2,.int .i64 2,.int .i64 1,.int .i64 1,.int .i64 1,.int .i64 1,.int .i64 2,.int .i64 1,.int .i64 1,.int .i64 1,.int .i64 1,.int .i64 0,.int .i64 3,.int .i64 2,.int .i64 1] 2)) from(Below.refl _ _).alloc (Nat.le_refl _) _)
 have hb:=xC.1 h
 have:n=1∨n=2∨n=3∨n=4∨n=5∨n=6∨n=7∨n=8∨n=9∨n=10∨n=11∨n=12∨n=13∨n=14∨n=15∨n=16∨n=17:=by omega
 clear h hb
 rcases this with rfl|rfl|rfl|rfl|rfl|rfl|rfl|rfl|rfl|rfl|rfl|rfl|rfl|rfl|rfl|rfl|rfl
 all_goals
  go_enter Tryz.func217,Tryz.ntmps217
  go_wp2
  go_ret
  exact⟨rfl,HB.out⟩
theorem uI (n:Int) (w:World):Calls Tryz.prog 277 #[.int .i64 n] w fun e w'=>e= .returned (.bool (decide (n ∈ ([1,2,5,6,10,11,12,13,14,17]:List Int))))∧Below w.heap.size w w':=by
 have HR:=hide (rdI_bk (xs:= [1,2,5,6,10,11,12,13,14,17]) (Bk.born w 2 #[.int .i64 1,.int .i64 2,.int .i64 5,.int .i64 6,.int .i64 10,.int .i64 11,.int .i64 12,.int .i64 13,.int .i64 14,.int .i64 17]) rfl (by decide))
 have HB:=hide (show Below w.heap.size w (w.alloc (.cells #[.int .i64 1,.int .i64 2,.int .i64 5,.int .i64 6,.int .i64 10,.int .i64 11,.int .i64 12,.int .i64 13,.int .i64 14,.int .i64 17] 2)) from(Below.refl _ _).alloc (Nat.le_refl _) _)
 go_enter Tryz.func277,Tryz.ntmps277
 go_wp2_with (go_at_call 58;refine(c_l00Has _ [1,2,5,6,10,11,12,13,14,17] _ _ HR.out).mono ?_;rintro e w' ⟨rfl,rfl⟩)
 go_ret
 exact⟨yI (by simp),HB.out⟩
theorem c_qMax (a b:Int) (w:World):Calls Tryz.prog 213 #[.int .i64 a,.int .i64 b] w fun e w'=>e= .returned (.int .i64 (max a b))∧w=w':=by
 by_cases h:a > b
 all_goals
  go_enter Tryz.func213,Tryz.ntmps213
  go_wp2
  go_ret
  exact⟨xZ (by omega),rfl⟩
theorem c_qMin (a b:Int) (w:World):Calls Tryz.prog 282 #[.int .i64 a,.int .i64 b] w fun e w'=>e= .returned (.int .i64 (min a b))∧w=w':=by
 by_cases h:a<b
 all_goals
  go_enter Tryz.func282,Tryz.ntmps282
  go_wp2
  go_ret
  exact⟨xZ (by omega),rfl⟩
def AOk (x:xJ):Prop:=if (kndF x.zD).low≤(kndF x.zD).high then inB x.fA (kndF x.zD).low (kndF x.zD).high=true else x.fA=0
theorem c_l06A (x:xJ) (b o:Nat) (n:Int) (w:World) (hk:inB x.zD 1 17=true) (n0:0≤n) (n1:n≤1048576) (h:T.at w x.fs b o):Calls Tryz.prog 269 #[.pointer (some ⟨b,o,none⟩),.int .i64 n] w fun e w'=>e= .returned (.bool (tf (AOk x∧(x.zD=13→x.fA<n))))∧Below w.heap.size w w':=by
 have HAT:=hide h
 obtain⟨hlt0,cs,hr,hc⟩:=h
 obtain⟨v3,rfl,h3⟩:=xJ.yO hr
 clear hr
 have h3i:=T.yT.1 h3;obtain⟨va3,vc3,rfl,vl3,vm3,vx3⟩:=h3i.open_
 have R3:=hide h3i;have HX3:=hide vx3;clear vx3 h3 h3i
 have HL:=hide hlt0;have HCC:=hide hc;have HB0:=hide (Below.refl w.heap.size w);clear hlt0 hc
 have p0:w.cell? ⟨b,o,none⟩=some (.int .i64 x.zD):=(HB0.out.cell HL.out).trans (HCC.out 0 _ rfl)
 have p1:w.cell? ⟨b,o+1,none⟩=some (.int .i64 x.fA):=(HB0.out.cell HL.out).trans (HCC.out 1 _ rfl)
 have p2:w.cell? ⟨b,o+2,none⟩=some (.int .i64 x.fB):=(HB0.out.cell HL.out).trans (HCC.out 2 _ rfl)
 have p3:w.cell? ⟨b,o+3,none⟩=some (.slice va3 x.zH.length vc3):=(HB0.out.cell HL.out).trans (HCC.out 3 _ rfl)
 have lb:b<w.heap.size:=lL HL.out HB0.out.size
 have hb:=xC.1 hk
 have h17:x.zD=1∨x.zD=2∨x.zD=3∨x.zD=4∨x.zD=5∨x.zD=6∨x.zD=7∨x.zD=8∨x.zD=9∨x.zD=10∨x.zD=11∨x.zD=12∨x.zD=13∨x.zD=14∨x.zD=15∨x.zD=16∨x.zD=17:=by omega
 clear hk hb
 rcases h17 with e|e|e|e|e|e|e|e|e|e|e|e|e|e|e|e|e
 ·have hK:kndF x.zD=⟨0,0,3,true,false⟩:=by rw[e];rfl
  have b1:(x.zD == 1)=true:=yS e
  have HK:=hide hK;have EK:=hide e;clear hK e
  go_enter Tryz.func269,Tryz.ntmps269
  go_wp2_with (go_at_call 87;refine(xX _ _ _ _).mono ?_;rintro e w' ⟨rfl,rfl⟩)
  go_ret
  exact⟨yI (by
    by_cases h:inB x.fA 0 3=true
    ·rw[xA ⟨by unfold AOk;rw[HK.out];simpa using h,fun h=>by have:=EK.out;omega⟩];simpa using h
    ·rw[yZ (fun hh=>h (by have h1:=hh.1;unfold AOk at h1;rw[HK.out] at h1;simpa using h1))];simpa using h),HB0.out⟩
 ·have hK:kndF x.zD=⟨0,-2147483648,2147483647,false,false⟩:=by rw[e];rfl
  have b1:(x.zD == 1)=false:=yR (by omega)
  have b6:(x.zD == 6)=false:=yR (by omega)
  have b10:(x.zD == 10)=false:=yR (by omega)
  have b11:(x.zD == 11)=false:=yR (by omega)
  have b13:(x.zD == 13)=false:=yR (by omega)
  have HK:=hide hK;have EK:=hide e;clear hK e
  go_enter Tryz.func269,Tryz.ntmps269
  have E0:decide (x.zD ∈ ([1,2,5,6,10,11,12,13,14,17]:List Int))=true:=by rw[EK.out];rfl
  go_wp2_with (first|(go_at_call 277;refine(uI _ _).mono ?_;rintro e w2 ⟨rfl,hb2⟩;rw[E0];have HB2:=hide (yJ HB0.out HB0.out.size hb2);clear hb2;have p1:=(HB2.out.cell HL.out).trans (HCC.out 1 _ rfl);have lb2:b<w2.heap.size:=lL HL.out HB2.out.size)|(go_at_call 158;refine(wG _ _).mono ?_;rintro e w' ⟨rfl,rfl⟩))
  go_ret
  exact⟨yI (by
    by_cases h:Smp x.fA
    ·rw[xA ⟨by unfold AOk;rw[HK.out];simp[inB];unfold Smp at h;omega,fun h=>by have:=EK.out;omega⟩];exact decide_eq_true h
    ·rw[yZ (fun hh=>h (by have h1:=hh.1;unfold AOk at h1;rw[HK.out] at h1;simp[inB] at h1;unfold Smp;omega))];exact decide_eq_false h),HB2.out⟩
 ·have hK:kndF x.zD=⟨2,1,0,true,false⟩:=by rw[e];rfl
  have b1:(x.zD == 1)=false:=yR (by omega)
  have b6:(x.zD == 6)=false:=yR (by omega)
  have b10:(x.zD == 10)=false:=yR (by omega)
  have b11:(x.zD == 11)=false:=yR (by omega)
  have b13:(x.zD == 13)=false:=yR (by omega)
  have HK:=hide hK;have EK:=hide e;clear hK e
  go_enter Tryz.func269,Tryz.ntmps269
  have E0:decide (x.zD ∈ ([1,2,5,6,10,11,12,13,14,17]:List Int))=false:=by rw[EK.out];rfl
  go_wp2_with (go_at_call 277;refine(uI _ _).mono ?_;rintro e w2 ⟨rfl,hb2⟩;rw[E0];have HB2:=hide (yJ HB0.out HB0.out.size hb2);clear hb2;have p1:=(HB2.out.cell HL.out).trans (HCC.out 1 _ rfl);have lb2:b<w2.heap.size:=lL HL.out HB2.out.size)
  go_ret
  exact⟨yI (by
    by_cases h:x.fA=0
    ·rw[xA ⟨by unfold AOk;rw[HK.out];simpa using h,fun h=>by have:=EK.out;omega⟩];simpa using h
    ·rw[yZ (fun hh=>h (by have h1:=hh.1;unfold AOk at h1;rw[HK.out] at h1;simpa using h1))];simpa using h),HB2.out⟩
 ·have hK:kndF x.zD=⟨2,1,0,true,false⟩:=by rw[e];rfl
  have b1:(x.zD == 1)=false:=yR (by omega)
  have b6:(x.zD == 6)=false:=yR (by omega)
  have b10:(x.zD == 10)=false:=yR (by omega)
  have b11:(x.zD == 11)=false:=yR (by omega)
  have b13:(x.zD == 13)=false:=yR (by omega)
  have HK:=hide hK;have EK:=hide e;clear hK e
  go_enter Tryz.func269,Tryz.ntmps269
  have E0:decide (x.zD ∈ ([1,2,5,6,10,11,12,13,14,17]:List Int))=false:=by rw[EK.out];rfl
  go_wp2_with (go_at_call 277;refine(uI _ _).mono ?_;rintro e w2 ⟨rfl,hb2⟩;rw[E0];have HB2:=hide (yJ HB0.out HB0.out.size hb2);clear hb2;have p1:=(HB2.out.cell HL.out).trans (HCC.out 1 _ rfl);have lb2:b<w2.heap.size:=lL HL.out HB2.out.size)
  go_ret
  exact⟨yI (by
    by_cases h:x.fA=0
    ·rw[xA ⟨by unfold AOk;rw[HK.out];simpa using h,fun h=>by have:=EK.out;omega⟩];simpa using h
    ·rw[yZ (fun hh=>h (by have h1:=hh.1;unfold AOk at h1;rw[HK.out] at h1;simpa using h1))];simpa using h),HB2.out⟩
 ·have hK:kndF x.zD=⟨1,-2147483648,2147483647,true,false⟩:=by rw[e];rfl
  have b1:(x.zD == 1)=false:=yR (by omega)
  have b6:(x.zD == 6)=false:=yR (by omega)
  have b10:(x.zD == 10)=false:=yR (by omega)
  have b11:(x.zD == 11)=false:=yR (by omega)
  have b13:(x.zD == 13)=false:=yR (by omega)
  have HK:=hide hK;have EK:=hide e;clear hK e
  go_enter Tryz.func269,Tryz.ntmps269
  have E0:decide (x.zD ∈ ([1,2,5,6,10,11,12,13,14,17]:List Int))=true:=by rw[EK.out];rfl
  go_wp2_with (first|(go_at_call 277;refine(uI _ _).mono ?_;rintro e w2 ⟨rfl,hb2⟩;rw[E0];have HB2:=hide (yJ HB0.out HB0.out.size hb2);clear hb2;have p1:=(HB2.out.cell HL.out).trans (HCC.out 1 _ rfl);have lb2:b<w2.heap.size:=lL HL.out HB2.out.size)|(go_at_call 158;refine(wG _ _).mono ?_;rintro e w' ⟨rfl,rfl⟩))
  go_ret
  exact⟨yI (by
    by_cases h:Smp x.fA
    ·rw[xA ⟨by unfold AOk;rw[HK.out];simp[inB];unfold Smp at h;omega,fun h=>by have:=EK.out;omega⟩];exact decide_eq_true h
    ·rw[yZ (fun hh=>h (by have h1:=hh.1;unfold AOk at h1;rw[HK.out] at h1;simp[inB] at h1;unfold Smp;omega))];exact decide_eq_false h),HB2.out⟩
 ·have hK:kndF x.zD=⟨1,1,16,true,false⟩:=by rw[e];rfl
  have b1:(x.zD == 1)=false:=yR (by omega)
  have b6:(x.zD == 6)=true:=yS e
  have HK:=hide hK;have EK:=hide e;clear hK e
  go_enter Tryz.func269,Tryz.ntmps269
  go_wp2_with (go_at_call 87;refine(xX _ _ _ _).mono ?_;rintro e w' ⟨rfl,rfl⟩)
  go_ret
  exact⟨yI (by
    by_cases h:inB x.fA 1 16=true
    ·rw[xA ⟨by unfold AOk;rw[HK.out];simpa using h,fun h=>by have:=EK.out;omega⟩];simpa using h
    ·rw[yZ (fun hh=>h (by have h1:=hh.1;unfold AOk at h1;rw[HK.out] at h1;simpa using h1))];simpa using h),HB0.out⟩
 ·have hK:kndF x.zD=⟨1,1,0,true,false⟩:=by rw[e];rfl
  have b1:(x.zD == 1)=false:=yR (by omega)
  have b6:(x.zD == 6)=false:=yR (by omega)
  have b10:(x.zD == 10)=false:=yR (by omega)
  have b11:(x.zD == 11)=false:=yR (by omega)
  have b13:(x.zD == 13)=false:=yR (by omega)
  have HK:=hide hK;have EK:=hide e;clear hK e
  go_enter Tryz.func269,Tryz.ntmps269
  have E0:decide (x.zD ∈ ([1,2,5,6,10,11,12,13,14,17]:List Int))=false:=by rw[EK.out];rfl
  go_wp2_with (go_at_call 277;refine(uI _ _).mono ?_;rintro e w2 ⟨rfl,hb2⟩;rw[E0];have HB2:=hide (yJ HB0.out HB0.out.size hb2);clear hb2;have p1:=(HB2.out.cell HL.out).trans (HCC.out 1 _ rfl);have lb2:b<w2.heap.size:=lL HL.out HB2.out.size)
  go_ret
  exact⟨yI (by
    by_cases h:x.fA=0
    ·rw[xA ⟨by unfold AOk;rw[HK.out];simpa using h,fun h=>by have:=EK.out;omega⟩];simpa using h
    ·rw[yZ (fun hh=>h (by have h1:=hh.1;unfold AOk at h1;rw[HK.out] at h1;simpa using h1))];simpa using h),HB2.out⟩
 ·have hK:kndF x.zD=⟨1,1,0,true,false⟩:=by rw[e];rfl
  have b1:(x.zD == 1)=false:=yR (by omega)
  have b6:(x.zD == 6)=false:=yR (by omega)
  have b10:(x.zD == 10)=false:=yR (by omega)
  have b11:(x.zD == 11)=false:=yR (by omega)
  have b13:(x.zD == 13)=false:=yR (by omega)
  have HK:=hide hK;have EK:=hide e;clear hK e
  go_enter Tryz.func269,Tryz.ntmps269
  have E0:decide (x.zD ∈ ([1,2,5,6,10,11,12,13,14,17]:List Int))=false:=by rw[EK.out];rfl
  go_wp2_with (go_at_call 277;refine(uI _ _).mono ?_;rintro e w2 ⟨rfl,hb2⟩;rw[E0];have HB2:=hide (yJ HB0.out HB0.out.size hb2);clear hb2;have p1:=(HB2.out.cell HL.out).trans (HCC.out 1 _ rfl);have lb2:b<w2.heap.size:=lL HL.out HB2.out.size)
  go_ret
  exact⟨yI (by
    by_cases h:x.fA=0
    ·rw[xA ⟨by unfold AOk;rw[HK.out];simpa using h,fun h=>by have:=EK.out;omega⟩];simpa using h
    ·rw[yZ (fun hh=>h (by have h1:=hh.1;unfold AOk at h1;rw[HK.out] at h1;simpa using h1))];simpa using h),HB2.out⟩
 ·have hK:kndF x.zD=⟨2,1,0,false,false⟩:=by rw[e];rfl
  have b1:(x.zD == 1)=false:=yR (by omega)
  have b6:(x.zD == 6)=false:=yR (by omega)
  have b10:(x.zD == 10)=false:=yR (by omega)
  have b11:(x.zD == 11)=false:=yR (by omega)
  have b13:(x.zD == 13)=false:=yR (by omega)
  have HK:=hide hK;have EK:=hide e;clear hK e
  go_enter Tryz.func269,Tryz.ntmps269
  have E0:decide (x.zD ∈ ([1,2,5,6,10,11,12,13,14,17]:List Int))=false:=by rw[EK.out];rfl
  go_wp2_with (go_at_call 277;refine(uI _ _).mono ?_;rintro e w2 ⟨rfl,hb2⟩;rw[E0];have HB2:=hide (yJ HB0.out HB0.out.size hb2);clear hb2;have p1:=(HB2.out.cell HL.out).trans (HCC.out 1 _ rfl);have lb2:b<w2.heap.size:=lL HL.out HB2.out.size)
  go_ret
  exact⟨yI (by
    by_cases h:x.fA=0
    ·rw[xA ⟨by unfold AOk;rw[HK.out];simpa using h,fun h=>by have:=EK.out;omega⟩];simpa using h
    ·rw[yZ (fun hh=>h (by have h1:=hh.1;unfold AOk at h1;rw[HK.out] at h1;simpa using h1))];simpa using h),HB2.out⟩
 ·have hK:kndF x.zD=⟨1,0,31,false,false⟩:=by rw[e];rfl
  have b1:(x.zD == 1)=false:=yR (by omega)
  have b6:(x.zD == 6)=false:=yR (by omega)
  have b10:(x.zD == 10)=true:=yS e
  have HK:=hide hK;have EK:=hide e;clear hK e
  go_enter Tryz.func269,Tryz.ntmps269
  go_wp2_with (go_at_call 87;refine(xX _ _ _ _).mono ?_;rintro e w' ⟨rfl,rfl⟩)
  go_ret
  exact⟨yI (by
    by_cases h:inB x.fA 0 31=true
    ·rw[xA ⟨by unfold AOk;rw[HK.out];simpa using h,fun h=>by have:=EK.out;omega⟩];simpa using h
    ·rw[yZ (fun hh=>h (by have h1:=hh.1;unfold AOk at h1;rw[HK.out] at h1;simpa using h1))];simpa using h),HB0.out⟩
 ·have hK:kndF x.zD=⟨1,0,2147483647,false,false⟩:=by rw[e];rfl
  have b1:(x.zD == 1)=false:=yR (by omega)
  have b6:(x.zD == 6)=false:=yR (by omega)
  have b10:(x.zD == 10)=false:=yR (by omega)
  have b11:(x.zD == 11)=true:=yS e
  have HK:=hide hK;have EK:=hide e;clear hK e
  go_enter Tryz.func269,Tryz.ntmps269
  go_wp2_with (go_at_call 87;refine(xX _ _ _ _).mono ?_;rintro e w' ⟨rfl,rfl⟩)
  go_ret
  exact⟨yI (by
    by_cases h:inB x.fA 0 2147483647=true
    ·rw[xA ⟨by unfold AOk;rw[HK.out];simpa using h,fun h=>by have:=EK.out;omega⟩];simpa using h
    ·rw[yZ (fun hh=>h (by have h1:=hh.1;unfold AOk at h1;rw[HK.out] at h1;simpa using h1))];simpa using h),HB0.out⟩
 ·have hK:kndF x.zD=⟨1,-2147483648,2147483647,false,false⟩:=by rw[e];rfl
  have b1:(x.zD == 1)=false:=yR (by omega)
  have b6:(x.zD == 6)=false:=yR (by omega)
  have b10:(x.zD == 10)=false:=yR (by omega)
  have b11:(x.zD == 11)=false:=yR (by omega)
  have b13:(x.zD == 13)=false:=yR (by omega)
  have HK:=hide hK;have EK:=hide e;clear hK e
  go_enter Tryz.func269,Tryz.ntmps269
  have E0:decide (x.zD ∈ ([1,2,5,6,10,11,12,13,14,17]:List Int))=true:=by rw[EK.out];rfl
  go_wp2_with (first|(go_at_call 277;refine(uI _ _).mono ?_;rintro e w2 ⟨rfl,hb2⟩;rw[E0];have HB2:=hide (yJ HB0.out HB0.out.size hb2);clear hb2;have p1:=(HB2.out.cell HL.out).trans (HCC.out 1 _ rfl);have lb2:b<w2.heap.size:=lL HL.out HB2.out.size)|(go_at_call 158;refine(wG _ _).mono ?_;rintro e w' ⟨rfl,rfl⟩))
  go_ret
  exact⟨yI (by
    by_cases h:Smp x.fA
    ·rw[xA ⟨by unfold AOk;rw[HK.out];simp[inB];unfold Smp at h;omega,fun h=>by have:=EK.out;omega⟩];exact decide_eq_true h
    ·rw[yZ (fun hh=>h (by have h1:=hh.1;unfold AOk at h1;rw[HK.out] at h1;simp[inB] at h1;unfold Smp;omega))];exact decide_eq_false h),HB2.out⟩
 ·have hK:kndF x.zD=⟨1,0,3,false,false⟩:=by rw[e];rfl
  have b1:(x.zD == 1)=false:=yR (by omega)
  have b6:(x.zD == 6)=false:=yR (by omega)
  have b10:(x.zD == 10)=false:=yR (by omega)
  have b11:(x.zD == 11)=false:=yR (by omega)
  have b13:(x.zD == 13)=true:=yS e
  have HK:=hide hK;have EK:=hide e;clear hK e
  go_enter Tryz.func269,Tryz.ntmps269
  have hm:IntKind.i64.wrap (min (max n 0) 4 - 1)=min (max n 0) 4 - 1:=IntWalk.i64_in _ (by omega)
  go_wp2
  have g0:=yG p0
  have g1:=yG p1
  have g2:=yG p2
  have g3:=yG p3
  refine xD (by kernel_rfl) (by kernel_rfl) ?_
  repeat(first|go_big_quiet_skip|(go_big_quiet_want;go_big_quiet_op;first|go_big_quiet_on|(apply Exists.intro;refine⟨fun _=>?_,?_⟩;(· (first|(go_at_call 213;exact Calls.yK (c_qMax _ _ _))|(go_at_call 282;exact Calls.yK (c_qMin _ _ _))|(go_at_call 87;exact Calls.yK (xX _ _ _ _))));go_big_quiet_on)))
  refine wpQuiet_nil ?_
  rintro w9 ⟨uu,rfl⟩
  have hb9:=yH w uu
  generalize bel w uu=w9 at *
  have HB9:=hide (yJ HB0.out HB0.out.size hb9);clear g0 g1 g2 g3
  go_wp2
  go_ret
  exact⟨yI (by
    by_cases h:inB x.fA 0 3=true∧x.fA<n
    ·rw[xA ⟨by unfold AOk;rw[HK.out];simpa using h.1,fun _=>h.2⟩];have:=xC.1 h.1;exact xC.2 (by omega)
    ·rw[yZ (fun hh=>h ⟨by have h1:=hh.1;unfold AOk at h1;rw[HK.out] at h1;simpa using h1,hh.2 EK.out⟩)];exact inB_false.2 (fun hh=>h ⟨xC.2 (by omega),by omega⟩)),HB9.out⟩
 ·have hK:kndF x.zD=⟨0,-2147483648,2147483647,false,false⟩:=by rw[e];rfl
  have b1:(x.zD == 1)=false:=yR (by omega)
  have b6:(x.zD == 6)=false:=yR (by omega)
  have b10:(x.zD == 10)=false:=yR (by omega)
  have b11:(x.zD == 11)=false:=yR (by omega)
  have b13:(x.zD == 13)=false:=yR (by omega)
  have HK:=hide hK;have EK:=hide e;clear hK e
  go_enter Tryz.func269,Tryz.ntmps269
  have E0:decide (x.zD ∈ ([1,2,5,6,10,11,12,13,14,17]:List Int))=true:=by rw[EK.out];rfl
  go_wp2_with (first|(go_at_call 277;refine(uI _ _).mono ?_;rintro e w2 ⟨rfl,hb2⟩;rw[E0];have HB2:=hide (yJ HB0.out HB0.out.size hb2);clear hb2;have p1:=(HB2.out.cell HL.out).trans (HCC.out 1 _ rfl);have lb2:b<w2.heap.size:=lL HL.out HB2.out.size)|(go_at_call 158;refine(wG _ _).mono ?_;rintro e w' ⟨rfl,rfl⟩))
  go_ret
  exact⟨yI (by
    by_cases h:Smp x.fA
    ·rw[xA ⟨by unfold AOk;rw[HK.out];simp[inB];unfold Smp at h;omega,fun h=>by have:=EK.out;omega⟩];exact decide_eq_true h
    ·rw[yZ (fun hh=>h (by have h1:=hh.1;unfold AOk at h1;rw[HK.out] at h1;simp[inB] at h1;unfold Smp;omega))];exact decide_eq_false h),HB2.out⟩
 ·have hK:kndF x.zD=⟨3,1,0,false,false⟩:=by rw[e];rfl
  have b1:(x.zD == 1)=false:=yR (by omega)
  have b6:(x.zD == 6)=false:=yR (by omega)
  have b10:(x.zD == 10)=false:=yR (by omega)
  have b11:(x.zD == 11)=false:=yR (by omega)
  have b13:(x.zD == 13)=false:=yR (by omega)
  have HK:=hide hK;have EK:=hide e;clear hK e
  go_enter Tryz.func269,Tryz.ntmps269
  have E0:decide (x.zD ∈ ([1,2,5,6,10,11,12,13,14,17]:List Int))=false:=by rw[EK.out];rfl
  go_wp2_with (go_at_call 277;refine(uI _ _).mono ?_;rintro e w2 ⟨rfl,hb2⟩;rw[E0];have HB2:=hide (yJ HB0.out HB0.out.size hb2);clear hb2;have p1:=(HB2.out.cell HL.out).trans (HCC.out 1 _ rfl);have lb2:b<w2.heap.size:=lL HL.out HB2.out.size)
  go_ret
  exact⟨yI (by
    by_cases h:x.fA=0
    ·rw[xA ⟨by unfold AOk;rw[HK.out];simpa using h,fun h=>by have:=EK.out;omega⟩];simpa using h
    ·rw[yZ (fun hh=>h (by have h1:=hh.1;unfold AOk at h1;rw[HK.out] at h1;simpa using h1))];simpa using h),HB2.out⟩
 ·have hK:kndF x.zD=⟨2,1,0,false,false⟩:=by rw[e];rfl
  have b1:(x.zD == 1)=false:=yR (by omega)
  have b6:(x.zD == 6)=false:=yR (by omega)
  have b10:(x.zD == 10)=false:=yR (by omega)
  have b11:(x.zD == 11)=false:=yR (by omega)
  have b13:(x.zD == 13)=false:=yR (by omega)
  have HK:=hide hK;have EK:=hide e;clear hK e
  go_enter Tryz.func269,Tryz.ntmps269
  have E0:decide (x.zD ∈ ([1,2,5,6,10,11,12,13,14,17]:List Int))=false:=by rw[EK.out];rfl
  go_wp2_with (go_at_call 277;refine(uI _ _).mono ?_;rintro e w2 ⟨rfl,hb2⟩;rw[E0];have HB2:=hide (yJ HB0.out HB0.out.size hb2);clear hb2;have p1:=(HB2.out.cell HL.out).trans (HCC.out 1 _ rfl);have lb2:b<w2.heap.size:=lL HL.out HB2.out.size)
  go_ret
  exact⟨yI (by
    by_cases h:x.fA=0
    ·rw[xA ⟨by unfold AOk;rw[HK.out];simpa using h,fun h=>by have:=EK.out;omega⟩];simpa using h
    ·rw[yZ (fun hh=>h (by have h1:=hh.1;unfold AOk at h1;rw[HK.out] at h1;simpa using h1))];simpa using h),HB2.out⟩
 ·have hK:kndF x.zD=⟨1,-2147483648,2147483647,true,true⟩:=by rw[e];rfl
  have b1:(x.zD == 1)=false:=yR (by omega)
  have b6:(x.zD == 6)=false:=yR (by omega)
  have b10:(x.zD == 10)=false:=yR (by omega)
  have b11:(x.zD == 11)=false:=yR (by omega)
  have b13:(x.zD == 13)=false:=yR (by omega)
  have HK:=hide hK;have EK:=hide e;clear hK e
  go_enter Tryz.func269,Tryz.ntmps269
  have E0:decide (x.zD ∈ ([1,2,5,6,10,11,12,13,14,17]:List Int))=true:=by rw[EK.out];rfl
  go_wp2_with (first|(go_at_call 277;refine(uI _ _).mono ?_;rintro e w2 ⟨rfl,hb2⟩;rw[E0];have HB2:=hide (yJ HB0.out HB0.out.size hb2);clear hb2;have p1:=(HB2.out.cell HL.out).trans (HCC.out 1 _ rfl);have lb2:b<w2.heap.size:=lL HL.out HB2.out.size)|(go_at_call 158;refine(wG _ _).mono ?_;rintro e w' ⟨rfl,rfl⟩))
  go_ret
  exact⟨yI (by
    by_cases h:Smp x.fA
    ·rw[xA ⟨by unfold AOk;rw[HK.out];simp[inB];unfold Smp at h;omega,fun h=>by have:=EK.out;omega⟩];exact decide_eq_true h
    ·rw[yZ (fun hh=>h (by have h1:=hh.1;unfold AOk at h1;rw[HK.out] at h1;simp[inB] at h1;unfold Smp;omega))];exact decide_eq_false h),HB2.out⟩
end Go.Proofs.YtoibekfhepnedaaGreat
