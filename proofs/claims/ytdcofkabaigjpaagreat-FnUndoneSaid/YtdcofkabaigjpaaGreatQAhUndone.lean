/- Contracts: what is valid, by the reference: tables, nodes. Contracts: what is valid, by the reference: tables, nodes, well formed patches. -/
import Derived.Test.YtdcofkabaigjpaaGreatQAgUndone
import Derived.Test.YtdcofkabaigjpaaGreatQAeUndone
set_option linter.unusedVariables false
set_option linter.unusedSimpArgs false
set_option maxHeartbeats 2000000
set_option maxRecDepth 20000
namespace Go.Proofs.YtdcofkabaigjpaaGreat
section
open Go.RowKit
theorem rdI_bk {w:World} {g:Nat} {t:TypeId} {cs:Array Value} {xs:List Int} (h:Bk w g t cs) (hx:cs.toList=xs.map (Value.int .i64)) (hl:xs.length≤1048576):RdI w (.slice (some ⟨g,0,none⟩) xs.length xs.length) xs:=by
 refine⟨by simp,some ⟨g,0,none⟩,xs.length,rfl,zJ,by omega,fun _=>⟨g,0,rfl,h.lt,fun j u hj=>?_⟩⟩;rw[Nat.zero_add,h.cell j,←Array.getElem?_toList,hx];exact hj
theorem yBz (v:Value) (xs:List Int) (n:Int) (w:World) (hr:RdI w v xs):Calls Tryz.prog 137 #[v,.int .i64 n] w fun e w'=>e= .returned (.bool (decide (n ∈ xs)))∧w=w':=by
 obtain⟨A,cap,rfl,hl,hc,hx⟩:=hr.open_;have HX:=xL hx;clear hx hr
 go_enter Tryz.func137,Tryz.ntmps137
 go_wp2
 go_loop [5] (fun i=> ∃ k:Nat,k≤xs.length∧i= .int .i64 k∧vF xs (fun _ x=>x≠n) k) (fun i=>xs.length - (intOf i).toNat)
 case atStart=>exact⟨0,Nat.zero_le _,rfl,vF.zero⟩
 case round=>
  obtain⟨k,hk,rfl,hs⟩:=hrel;have HS:=xL hs;clear hs;by_cases hlt:k<xs.length
  ·have hgk:=gE hlt
   obtain⟨b,off,rfl,hb,hcell⟩:=HX.out k xs[k] hgk;generalize xs[k]=x at *;have HG:=xL hgk;clear hgk;by_cases hq:x=n
   ·have q:(x == n)=true:=yY hq
    have HQ:=xL hq;clear hq;go_wp2;go_ret
    exact⟨yK (decide_eq_true (by rw[←HQ.out];exact List.mem_of_getElem? HG.out)).symm,rfl⟩
   ·have q:(x == n)=false:=yX hq
    have HQ:=xL hq;clear hq;go_wp2
    go_round
    case rel=>exact⟨k+1,by omega,by go_num,HS.out.step HG.out HQ.out⟩
    case measure=>simp[intOf];omega
  ·have hall:=xL (HS.out.all zM)
   go_wp2;go_ret
   exact⟨yK (decide_eq_false (fun h=>by
    obtain⟨i,hi,e⟩:=List.mem_iff_getElem.1 h;exact hall.out i _ (gE hi) e)).symm,rfl⟩
theorem wEz (n:Int) (w:World):Calls Tryz.prog 162 #[.int .i64 n] w fun e w'=>e= .returned (.bool (inB n 1 17))∧w=w':=by
 go_enter Tryz.func162,Tryz.ntmps162
 go_wp2_with (go_at_call 67;refine(xZ _ _ _ _).mono ?_;rintro e w' ⟨rfl,rfl⟩)
 go_ret
 exact⟨rfl,rfl⟩
theorem yMz (n:Int) (h:inB n 1 17=true) (w:World):Calls Tryz.prog 120 #[.int .i64 n] w fun e w'=>e= .returned (.int .i64 (vU n).inputs)∧Below w.heap.size w w':=by
 have HB:=xL (show Below w.heap.size w (w.alloc (.cells #[.int .i64 (-1),.int .i64 0,.int .i64 0,.int .i64 2,.int .i64 2,.int .i64 1,.int .i64 1,.int .i64 1,.int .i64 1,.int .i64 2,.int .i64 1,.int .i64 1,.int .i64 1,.int .i64 1,.int .i64 0,.int .i64 3,.int .i64 2,.int .i64 1] 2)) from zR.alloc zJ _);have hb:=xI.1 h;have:n=1∨n=2∨n=3∨n=4∨n=5∨n=6∨n=7∨n=8∨n=9∨n=10∨n=11∨n=12∨n=13∨n=14∨n=15∨n=16∨n=17:=by omega
 clear h hb
 rcases this with rfl|rfl|rfl|rfl|rfl|rfl|rfl|rfl|rfl|rfl|rfl|rfl|rfl|rfl|rfl|rfl|rfl
 all_goals
  go_enter Tryz.func120,Tryz.ntmps120
  go_wp2;go_ret
  exact⟨rfl,HB.out⟩
theorem vR (n:Int) (w:World):Calls Tryz.prog 167 #[.int .i64 n] w fun e w'=>e= .returned (.bool (decide (n ∈ ([1,2,5,6,10,11,12,13,14,17]:List Int))))∧Below w.heap.size w w':=by
 have HR:=xL (rdI_bk (xs:= [1,2,5,6,10,11,12,13,14,17]) (Bk.born w 2 #[.int .i64 1,.int .i64 2,.int .i64 5,.int .i64 6,.int .i64 10,.int .i64 11,.int .i64 12,.int .i64 13,.int .i64 14,.int .i64 17]) rfl (by decide));have HB:=xL (show Below w.heap.size w (w.alloc (.cells #[.int .i64 1,.int .i64 2,.int .i64 5,.int .i64 6,.int .i64 10,.int .i64 11,.int .i64 12,.int .i64 13,.int .i64 14,.int .i64 17] 2)) from zR.alloc zJ _)
 go_enter Tryz.func167,Tryz.ntmps167
 go_wp2_with (go_at_call 137;refine(yBz _ [1,2,5,6,10,11,12,13,14,17] _ _ HR.out).mono ?_;rintro e w' ⟨rfl,rfl⟩)
 go_ret
 exact⟨yK (by simp),HB.out⟩
theorem c_qMax (a b:Int) (w:World):Calls Tryz.prog 116 #[.int .i64 a,.int .i64 b] w fun e w'=>e= .returned (.int .i64 (max a b))∧w=w':=by
 by_cases h:a > b
 all_goals
  go_enter Tryz.func116,Tryz.ntmps116
  go_wp2;go_ret
  exact⟨wAz zM,rfl⟩
theorem c_qMin (a b:Int) (w:World):Calls Tryz.prog 172 #[.int .i64 a,.int .i64 b] w fun e w'=>e= .returned (.int .i64 (min a b))∧w=w':=by
 by_cases h:a<b
 all_goals
  go_enter Tryz.func172,Tryz.ntmps172
  go_wp2;go_ret
  exact⟨wAz zM,rfl⟩
def AOk (x:xP):Prop:=if (vU x.zC).low≤(vU x.zC).high then inB x.fA (vU x.zC).low (vU x.zC).high=true else x.fA=0
theorem c_l06A (x:xP) (b o:Nat) (n:Int) (w:World) (hk:inB x.zC 1 17=true) (n0:0≤n) (n1:n≤1048576) (h:T.at w x.fs b o):Calls Tryz.prog 163 #[.pointer (some ⟨b,o,none⟩),.int .i64 n] w fun e w'=>e= .returned (.bool (tf (AOk x∧(x.zC=13→x.fA<n))))∧Below w.heap.size w w':=by
 have HAT:=xL h;obtain⟨hlt0,cs,hr,hc⟩:=h;obtain⟨v3,rfl,h3⟩:=xP.yR hr;clear hr;obtain⟨va3,vc3,rfl,vl3,vm3,R3,HX3⟩:=oI h3;clear h3;have HL:=xL hlt0;have HCC:=xL hc;have HB0:=xL (Below.refl w.heap.size w);clear hlt0 hc;have p0:w.cell? ⟨b,o,none⟩=some (.int .i64 x.zC):=(HB0.out.cell HL.out).trans (HCC.out 0 _ rfl);have p1:w.cell? ⟨b,o+1,none⟩=some (.int .i64 x.fA):=(HB0.out.cell HL.out).trans (HCC.out 1 _ rfl);have p2:w.cell? ⟨b,o+2,none⟩=some (.int .i64 x.fB):=(HB0.out.cell HL.out).trans (HCC.out 2 _ rfl);have p3:w.cell? ⟨b,o+3,none⟩=some (.slice va3 x.zK.length vc3):=(HB0.out.cell HL.out).trans (HCC.out 3 _ rfl);have lb:b<w.heap.size:=zW HL.out HB0.out.size;have hb:=xI.1 hk;have h17:x.zC=1∨x.zC=2∨x.zC=3∨x.zC=4∨x.zC=5∨x.zC=6∨x.zC=7∨x.zC=8∨x.zC=9∨x.zC=10∨x.zC=11∨x.zC=12∨x.zC=13∨x.zC=14∨x.zC=15∨x.zC=16∨x.zC=17:=by omega
 clear hk hb
 rcases h17 with e|e|e|e|e|e|e|e|e|e|e|e|e|e|e|e|e
 ·have hK:vU x.zC=⟨0,0,3,true,false⟩:=by rw[e];rfl
  have b1:(x.zC == 1)=true:=yY e;have HK:=xL hK;have EK:=xL e;clear hK e
  go_enter Tryz.func163,Tryz.ntmps163
  go_wp2_with (go_at_call 67;refine(xZ _ _ _ _).mono ?_;rintro e w' ⟨rfl,rfl⟩)
  go_ret
  exact⟨yK (by
    by_cases h:inB x.fA 0 3=true
    ·rw[xG ⟨by unfold AOk;rw[HK.out];simpa using h,fun h=>by have:=EK.out;omega⟩];simpa using h
    ·rw[xE (fun hh=>h (by have h1:=hh.1;unfold AOk at h1;rw[HK.out] at h1;simpa using h1))];simpa using h),HB0.out⟩
 ·have hK:vU x.zC=⟨0,-2147483648,2147483647,false,false⟩:=by rw[e];rfl
  have b1:(x.zC == 1)=false:=yX zM;have b6:(x.zC == 6)=false:=yX zM;have b10:(x.zC == 10)=false:=yX zM;have b11:(x.zC == 11)=false:=yX zM;have b13:(x.zC == 13)=false:=yX zM;have HK:=xL hK;have EK:=xL e;clear hK e
  go_enter Tryz.func163,Tryz.ntmps163
  have E0:decide (x.zC ∈ ([1,2,5,6,10,11,12,13,14,17]:List Int))=true:=by rw[EK.out];rfl
  go_wp2_with (first|(go_at_call 167;refine(vR _ _).mono ?_;rintro e w2 ⟨rfl,hb2⟩;rw[E0];have HB2:=xL (yM HB0.out HB0.out.size hb2);clear hb2;have p1:=(HB2.out.cell HL.out).trans (HCC.out 1 _ rfl);have lb2:b<w2.heap.size:=zW HL.out HB2.out.size)|(go_at_call 84;refine(wH _ _).mono ?_;rintro e w' ⟨rfl,rfl⟩))
  go_ret
  exact⟨yK (by
    by_cases h:Smp x.fA
    ·rw[xG ⟨by unfold AOk;rw[HK.out];simp[inB];unfold Smp at h;omega,fun h=>by have:=EK.out;omega⟩];exact decide_eq_true h
    ·rw[xE (fun hh=>h (by have h1:=hh.1;unfold AOk at h1;rw[HK.out] at h1;simp[inB] at h1;unfold Smp;omega))];exact decide_eq_false h),HB2.out⟩
 ·have hK:vU x.zC=⟨2,1,0,true,false⟩:=by rw[e];rfl
  have b1:(x.zC == 1)=false:=yX zM;have b6:(x.zC == 6)=false:=yX zM;have b10:(x.zC == 10)=false:=yX zM;have b11:(x.zC == 11)=false:=yX zM;have b13:(x.zC == 13)=false:=yX zM;have HK:=xL hK;have EK:=xL e;clear hK e
  go_enter Tryz.func163,Tryz.ntmps163
  have E0:decide (x.zC ∈ ([1,2,5,6,10,11,12,13,14,17]:List Int))=false:=by rw[EK.out];rfl
  go_wp2_with (go_at_call 167;refine(vR _ _).mono ?_;rintro e w2 ⟨rfl,hb2⟩;rw[E0];have HB2:=xL (yM HB0.out HB0.out.size hb2);clear hb2;have p1:=(HB2.out.cell HL.out).trans (HCC.out 1 _ rfl);have lb2:b<w2.heap.size:=zW HL.out HB2.out.size)
  go_ret
  exact⟨yK (by
    by_cases h:x.fA=0
    ·rw[xG ⟨by unfold AOk;rw[HK.out];simpa using h,fun h=>by have:=EK.out;omega⟩];simpa using h
    ·rw[xE (fun hh=>h (by have h1:=hh.1;unfold AOk at h1;rw[HK.out] at h1;simpa using h1))];simpa using h),HB2.out⟩
 ·have hK:vU x.zC=⟨2,1,0,true,false⟩:=by rw[e];rfl
  have b1:(x.zC == 1)=false:=yX zM;have b6:(x.zC == 6)=false:=yX zM;have b10:(x.zC == 10)=false:=yX zM;have b11:(x.zC == 11)=false:=yX zM;have b13:(x.zC == 13)=false:=yX zM;have HK:=xL hK;have EK:=xL e;clear hK e
  go_enter Tryz.func163,Tryz.ntmps163
  have E0:decide (x.zC ∈ ([1,2,5,6,10,11,12,13,14,17]:List Int))=false:=by rw[EK.out];rfl
  go_wp2_with (go_at_call 167;refine(vR _ _).mono ?_;rintro e w2 ⟨rfl,hb2⟩;rw[E0];have HB2:=xL (yM HB0.out HB0.out.size hb2);clear hb2;have p1:=(HB2.out.cell HL.out).trans (HCC.out 1 _ rfl);have lb2:b<w2.heap.size:=zW HL.out HB2.out.size)
  go_ret
  exact⟨yK (by
    by_cases h:x.fA=0
    ·rw[xG ⟨by unfold AOk;rw[HK.out];simpa using h,fun h=>by have:=EK.out;omega⟩];simpa using h
    ·rw[xE (fun hh=>h (by have h1:=hh.1;unfold AOk at h1;rw[HK.out] at h1;simpa using h1))];simpa using h),HB2.out⟩
 ·have hK:vU x.zC=⟨1,-2147483648,2147483647,true,false⟩:=by rw[e];rfl
  have b1:(x.zC == 1)=false:=yX zM;have b6:(x.zC == 6)=false:=yX zM;have b10:(x.zC == 10)=false:=yX zM;have b11:(x.zC == 11)=false:=yX zM;have b13:(x.zC == 13)=false:=yX zM;have HK:=xL hK;have EK:=xL e;clear hK e
  go_enter Tryz.func163,Tryz.ntmps163
  have E0:decide (x.zC ∈ ([1,2,5,6,10,11,12,13,14,17]:List Int))=true:=by rw[EK.out];rfl
  go_wp2_with (first|(go_at_call 167;refine(vR _ _).mono ?_;rintro e w2 ⟨rfl,hb2⟩;rw[E0];have HB2:=xL (yM HB0.out HB0.out.size hb2);clear hb2;have p1:=(HB2.out.cell HL.out).trans (HCC.out 1 _ rfl);have lb2:b<w2.heap.size:=zW HL.out HB2.out.size)|(go_at_call 84;refine(wH _ _).mono ?_;rintro e w' ⟨rfl,rfl⟩))
  go_ret
  exact⟨yK (by
    by_cases h:Smp x.fA
    ·rw[xG ⟨by unfold AOk;rw[HK.out];simp[inB];unfold Smp at h;omega,fun h=>by have:=EK.out;omega⟩];exact decide_eq_true h
    ·rw[xE (fun hh=>h (by have h1:=hh.1;unfold AOk at h1;rw[HK.out] at h1;simp[inB] at h1;unfold Smp;omega))];exact decide_eq_false h),HB2.out⟩
 ·have hK:vU x.zC=⟨1,1,16,true,false⟩:=by rw[e];rfl
  have b1:(x.zC == 1)=false:=yX zM;have b6:(x.zC == 6)=true:=yY e;have HK:=xL hK;have EK:=xL e;clear hK e
  go_enter Tryz.func163,Tryz.ntmps163
  go_wp2_with (go_at_call 67;refine(xZ _ _ _ _).mono ?_;rintro e w' ⟨rfl,rfl⟩)
  go_ret
  exact⟨yK (by
    by_cases h:inB x.fA 1 16=true
    ·rw[xG ⟨by unfold AOk;rw[HK.out];simpa using h,fun h=>by have:=EK.out;omega⟩];simpa using h
    ·rw[xE (fun hh=>h (by have h1:=hh.1;unfold AOk at h1;rw[HK.out] at h1;simpa using h1))];simpa using h),HB0.out⟩
 ·have hK:vU x.zC=⟨1,1,0,true,false⟩:=by rw[e];rfl
  have b1:(x.zC == 1)=false:=yX zM;have b6:(x.zC == 6)=false:=yX zM;have b10:(x.zC == 10)=false:=yX zM;have b11:(x.zC == 11)=false:=yX zM;have b13:(x.zC == 13)=false:=yX zM;have HK:=xL hK;have EK:=xL e;clear hK e
  go_enter Tryz.func163,Tryz.ntmps163
  have E0:decide (x.zC ∈ ([1,2,5,6,10,11,12,13,14,17]:List Int))=false:=by rw[EK.out];rfl
  go_wp2_with (go_at_call 167;refine(vR _ _).mono ?_;rintro e w2 ⟨rfl,hb2⟩;rw[E0];have HB2:=xL (yM HB0.out HB0.out.size hb2);clear hb2;have p1:=(HB2.out.cell HL.out).trans (HCC.out 1 _ rfl);have lb2:b<w2.heap.size:=zW HL.out HB2.out.size)
  go_ret
  exact⟨yK (by
    by_cases h:x.fA=0
    ·rw[xG ⟨by unfold AOk;rw[HK.out];simpa using h,fun h=>by have:=EK.out;omega⟩];simpa using h
    ·rw[xE (fun hh=>h (by have h1:=hh.1;unfold AOk at h1;rw[HK.out] at h1;simpa using h1))];simpa using h),HB2.out⟩
 ·have hK:vU x.zC=⟨1,1,0,true,false⟩:=by rw[e];rfl
  have b1:(x.zC == 1)=false:=yX zM;have b6:(x.zC == 6)=false:=yX zM;have b10:(x.zC == 10)=false:=yX zM;have b11:(x.zC == 11)=false:=yX zM;have b13:(x.zC == 13)=false:=yX zM;have HK:=xL hK;have EK:=xL e;clear hK e
  go_enter Tryz.func163,Tryz.ntmps163
  have E0:decide (x.zC ∈ ([1,2,5,6,10,11,12,13,14,17]:List Int))=false:=by rw[EK.out];rfl
  go_wp2_with (go_at_call 167;refine(vR _ _).mono ?_;rintro e w2 ⟨rfl,hb2⟩;rw[E0];have HB2:=xL (yM HB0.out HB0.out.size hb2);clear hb2;have p1:=(HB2.out.cell HL.out).trans (HCC.out 1 _ rfl);have lb2:b<w2.heap.size:=zW HL.out HB2.out.size)
  go_ret
  exact⟨yK (by
    by_cases h:x.fA=0
    ·rw[xG ⟨by unfold AOk;rw[HK.out];simpa using h,fun h=>by have:=EK.out;omega⟩];simpa using h
    ·rw[xE (fun hh=>h (by have h1:=hh.1;unfold AOk at h1;rw[HK.out] at h1;simpa using h1))];simpa using h),HB2.out⟩
 ·have hK:vU x.zC=⟨2,1,0,false,false⟩:=by rw[e];rfl
  have b1:(x.zC == 1)=false:=yX zM;have b6:(x.zC == 6)=false:=yX zM;have b10:(x.zC == 10)=false:=yX zM;have b11:(x.zC == 11)=false:=yX zM;have b13:(x.zC == 13)=false:=yX zM;have HK:=xL hK;have EK:=xL e;clear hK e
  go_enter Tryz.func163,Tryz.ntmps163
  have E0:decide (x.zC ∈ ([1,2,5,6,10,11,12,13,14,17]:List Int))=false:=by rw[EK.out];rfl
  go_wp2_with (go_at_call 167;refine(vR _ _).mono ?_;rintro e w2 ⟨rfl,hb2⟩;rw[E0];have HB2:=xL (yM HB0.out HB0.out.size hb2);clear hb2;have p1:=(HB2.out.cell HL.out).trans (HCC.out 1 _ rfl);have lb2:b<w2.heap.size:=zW HL.out HB2.out.size)
  go_ret
  exact⟨yK (by
    by_cases h:x.fA=0
    ·rw[xG ⟨by unfold AOk;rw[HK.out];simpa using h,fun h=>by have:=EK.out;omega⟩];simpa using h
    ·rw[xE (fun hh=>h (by have h1:=hh.1;unfold AOk at h1;rw[HK.out] at h1;simpa using h1))];simpa using h),HB2.out⟩
 ·have hK:vU x.zC=⟨1,0,31,false,false⟩:=by rw[e];rfl
  have b1:(x.zC == 1)=false:=yX zM;have b6:(x.zC == 6)=false:=yX zM;have b10:(x.zC == 10)=true:=yY e;have HK:=xL hK;have EK:=xL e;clear hK e
  go_enter Tryz.func163,Tryz.ntmps163
  go_wp2_with (go_at_call 67;refine(xZ _ _ _ _).mono ?_;rintro e w' ⟨rfl,rfl⟩)
  go_ret
  exact⟨yK (by
    by_cases h:inB x.fA 0 31=true
    ·rw[xG ⟨by unfold AOk;rw[HK.out];simpa using h,fun h=>by have:=EK.out;omega⟩];simpa using h
    ·rw[xE (fun hh=>h (by have h1:=hh.1;unfold AOk at h1;rw[HK.out] at h1;simpa using h1))];simpa using h),HB0.out⟩
 ·have hK:vU x.zC=⟨1,0,2147483647,false,false⟩:=by rw[e];rfl
  have b1:(x.zC == 1)=false:=yX zM;have b6:(x.zC == 6)=false:=yX zM;have b10:(x.zC == 10)=false:=yX zM;have b11:(x.zC == 11)=true:=yY e;have HK:=xL hK;have EK:=xL e;clear hK e
  go_enter Tryz.func163,Tryz.ntmps163
  go_wp2_with (go_at_call 67;refine(xZ _ _ _ _).mono ?_;rintro e w' ⟨rfl,rfl⟩)
  go_ret
  exact⟨yK (by
    by_cases h:inB x.fA 0 2147483647=true
    ·rw[xG ⟨by unfold AOk;rw[HK.out];simpa using h,fun h=>by have:=EK.out;omega⟩];simpa using h
    ·rw[xE (fun hh=>h (by have h1:=hh.1;unfold AOk at h1;rw[HK.out] at h1;simpa using h1))];simpa using h),HB0.out⟩
 ·have hK:vU x.zC=⟨1,-2147483648,2147483647,false,false⟩:=by rw[e];rfl
  have b1:(x.zC == 1)=false:=yX zM;have b6:(x.zC == 6)=false:=yX zM;have b10:(x.zC == 10)=false:=yX zM;have b11:(x.zC == 11)=false:=yX zM;have b13:(x.zC == 13)=false:=yX zM;have HK:=xL hK;have EK:=xL e;clear hK e
  go_enter Tryz.func163,Tryz.ntmps163
  have E0:decide (x.zC ∈ ([1,2,5,6,10,11,12,13,14,17]:List Int))=true:=by rw[EK.out];rfl
  go_wp2_with (first|(go_at_call 167;refine(vR _ _).mono ?_;rintro e w2 ⟨rfl,hb2⟩;rw[E0];have HB2:=xL (yM HB0.out HB0.out.size hb2);clear hb2;have p1:=(HB2.out.cell HL.out).trans (HCC.out 1 _ rfl);have lb2:b<w2.heap.size:=zW HL.out HB2.out.size)|(go_at_call 84;refine(wH _ _).mono ?_;rintro e w' ⟨rfl,rfl⟩))
  go_ret
  exact⟨yK (by
    by_cases h:Smp x.fA
    ·rw[xG ⟨by unfold AOk;rw[HK.out];simp[inB];unfold Smp at h;omega,fun h=>by have:=EK.out;omega⟩];exact decide_eq_true h
    ·rw[xE (fun hh=>h (by have h1:=hh.1;unfold AOk at h1;rw[HK.out] at h1;simp[inB] at h1;unfold Smp;omega))];exact decide_eq_false h),HB2.out⟩
 ·have hK:vU x.zC=⟨1,0,3,false,false⟩:=by rw[e];rfl
  have b1:(x.zC == 1)=false:=yX zM;have b6:(x.zC == 6)=false:=yX zM;have b10:(x.zC == 10)=false:=yX zM;have b11:(x.zC == 11)=false:=yX zM;have b13:(x.zC == 13)=true:=yY e;have HK:=xL hK;have EK:=xL e;clear hK e
  go_enter Tryz.func163,Tryz.ntmps163
  have hm:IntKind.i64.wrap (min (max n 0) 4 - 1)=min (max n 0) 4 - 1:=IntWalk.i64_in _ zM;go_wp2;have g0:=yI p0;have g1:=yI p1;have g2:=yI p2;have g3:=yI p3;refine rB ?_
  repeat(first|go_big_quiet_skip|(go_big_quiet_want;go_big_quiet_op;first|go_big_quiet_on|(apply Exists.intro;refine⟨fun _=>?_,?_⟩;(· (first|(go_at_call 116;exact Calls.yN (c_qMax _ _ _))|(go_at_call 172;exact Calls.yN (c_qMin _ _ _))|(go_at_call 67;exact Calls.yN (xZ _ _ _ _))));go_big_quiet_on)))
  refine wpQuiet_nil ?_;rintro w9 ⟨uu,rfl⟩;have hb9:=yJ w uu;generalize bel w uu=w9 at *;have HB9:=xL (yM HB0.out HB0.out.size hb9);clear g0 g1 g2 g3;go_wp2;go_ret
  exact⟨yK (by
    by_cases h:inB x.fA 0 3=true∧x.fA<n
    ·rw[xG ⟨by unfold AOk;rw[HK.out];simpa using h.1,fun _=>h.2⟩];have:=xI.1 h.1;exact xI.2 zM
    ·rw[xE (fun hh=>h ⟨by have h1:=hh.1;unfold AOk at h1;rw[HK.out] at h1;simpa using h1,hh.2 EK.out⟩)];exact inB_false.2 (fun hh=>h ⟨xI.2 zM,by omega⟩)),HB9.out⟩
 ·have hK:vU x.zC=⟨0,-2147483648,2147483647,false,false⟩:=by rw[e];rfl
  have b1:(x.zC == 1)=false:=yX zM;have b6:(x.zC == 6)=false:=yX zM;have b10:(x.zC == 10)=false:=yX zM;have b11:(x.zC == 11)=false:=yX zM;have b13:(x.zC == 13)=false:=yX zM;have HK:=xL hK;have EK:=xL e;clear hK e
  go_enter Tryz.func163,Tryz.ntmps163
  have E0:decide (x.zC ∈ ([1,2,5,6,10,11,12,13,14,17]:List Int))=true:=by rw[EK.out];rfl
  go_wp2_with (first|(go_at_call 167;refine(vR _ _).mono ?_;rintro e w2 ⟨rfl,hb2⟩;rw[E0];have HB2:=xL (yM HB0.out HB0.out.size hb2);clear hb2;have p1:=(HB2.out.cell HL.out).trans (HCC.out 1 _ rfl);have lb2:b<w2.heap.size:=zW HL.out HB2.out.size)|(go_at_call 84;refine(wH _ _).mono ?_;rintro e w' ⟨rfl,rfl⟩))
  go_ret
  exact⟨yK (by
    by_cases h:Smp x.fA
    ·rw[xG ⟨by unfold AOk;rw[HK.out];simp[inB];unfold Smp at h;omega,fun h=>by have:=EK.out;omega⟩];exact decide_eq_true h
    ·rw[xE (fun hh=>h (by have h1:=hh.1;unfold AOk at h1;rw[HK.out] at h1;simp[inB] at h1;unfold Smp;omega))];exact decide_eq_false h),HB2.out⟩
 ·have hK:vU x.zC=⟨3,1,0,false,false⟩:=by rw[e];rfl
  have b1:(x.zC == 1)=false:=yX zM;have b6:(x.zC == 6)=false:=yX zM;have b10:(x.zC == 10)=false:=yX zM;have b11:(x.zC == 11)=false:=yX zM;have b13:(x.zC == 13)=false:=yX zM;have HK:=xL hK;have EK:=xL e;clear hK e
  go_enter Tryz.func163,Tryz.ntmps163
  have E0:decide (x.zC ∈ ([1,2,5,6,10,11,12,13,14,17]:List Int))=false:=by rw[EK.out];rfl
  go_wp2_with (go_at_call 167;refine(vR _ _).mono ?_;rintro e w2 ⟨rfl,hb2⟩;rw[E0];have HB2:=xL (yM HB0.out HB0.out.size hb2);clear hb2;have p1:=(HB2.out.cell HL.out).trans (HCC.out 1 _ rfl);have lb2:b<w2.heap.size:=zW HL.out HB2.out.size)
  go_ret
  exact⟨yK (by
    by_cases h:x.fA=0
    ·rw[xG ⟨by unfold AOk;rw[HK.out];simpa using h,fun h=>by have:=EK.out;omega⟩];simpa using h
    ·rw[xE (fun hh=>h (by have h1:=hh.1;unfold AOk at h1;rw[HK.out] at h1;simpa using h1))];simpa using h),HB2.out⟩
 ·have hK:vU x.zC=⟨2,1,0,false,false⟩:=by rw[e];rfl
  have b1:(x.zC == 1)=false:=yX zM;have b6:(x.zC == 6)=false:=yX zM;have b10:(x.zC == 10)=false:=yX zM;have b11:(x.zC == 11)=false:=yX zM;have b13:(x.zC == 13)=false:=yX zM;have HK:=xL hK;have EK:=xL e;clear hK e
  go_enter Tryz.func163,Tryz.ntmps163
  have E0:decide (x.zC ∈ ([1,2,5,6,10,11,12,13,14,17]:List Int))=false:=by rw[EK.out];rfl
  go_wp2_with (go_at_call 167;refine(vR _ _).mono ?_;rintro e w2 ⟨rfl,hb2⟩;rw[E0];have HB2:=xL (yM HB0.out HB0.out.size hb2);clear hb2;have p1:=(HB2.out.cell HL.out).trans (HCC.out 1 _ rfl);have lb2:b<w2.heap.size:=zW HL.out HB2.out.size)
  go_ret
  exact⟨yK (by
    by_cases h:x.fA=0
    ·rw[xG ⟨by unfold AOk;rw[HK.out];simpa using h,fun h=>by have:=EK.out;omega⟩];simpa using h
    ·rw[xE (fun hh=>h (by have h1:=hh.1;unfold AOk at h1;rw[HK.out] at h1;simpa using h1))];simpa using h),HB2.out⟩
 ·have hK:vU x.zC=⟨1,-2147483648,2147483647,true,true⟩:=by rw[e];rfl
  have b1:(x.zC == 1)=false:=yX zM;have b6:(x.zC == 6)=false:=yX zM;have b10:(x.zC == 10)=false:=yX zM;have b11:(x.zC == 11)=false:=yX zM;have b13:(x.zC == 13)=false:=yX zM;have HK:=xL hK;have EK:=xL e;clear hK e
  go_enter Tryz.func163,Tryz.ntmps163
  have E0:decide (x.zC ∈ ([1,2,5,6,10,11,12,13,14,17]:List Int))=true:=by rw[EK.out];rfl
  go_wp2_with (first|(go_at_call 167;refine(vR _ _).mono ?_;rintro e w2 ⟨rfl,hb2⟩;rw[E0];have HB2:=xL (yM HB0.out HB0.out.size hb2);clear hb2;have p1:=(HB2.out.cell HL.out).trans (HCC.out 1 _ rfl);have lb2:b<w2.heap.size:=zW HL.out HB2.out.size)|(go_at_call 84;refine(wH _ _).mono ?_;rintro e w' ⟨rfl,rfl⟩))
  go_ret
  exact⟨yK (by
    by_cases h:Smp x.fA
    ·rw[xG ⟨by unfold AOk;rw[HK.out];simp[inB];unfold Smp at h;omega,fun h=>by have:=EK.out;omega⟩];exact decide_eq_true h
    ·rw[xE (fun hh=>h (by have h1:=hh.1;unfold AOk at h1;rw[HK.out] at h1;simp[inB] at h1;unfold Smp;omega))];exact decide_eq_false h),HB2.out⟩
end
section
open Go.RowKit
theorem kndF_hasB {n:Int} (h:inB n 1 17=true):(vU n).hasB=decide (n=17):=by
 have hb:=xI.1 h;have:n=1∨n=2∨n=3∨n=4∨n=5∨n=6∨n=7∨n=8∨n=9∨n=10∨n=11∨n=12∨n=13∨n=14∨n=15∨n=16∨n=17:=by omega
 rcases this with rfl|rfl|rfl|rfl|rfl|rfl|rfl|rfl|rfl|rfl|rfl|rfl|rfl|rfl|rfl|rfl|rfl
 all_goals rfl
theorem c_l06Ok (x:xP) (b o:Nat) (n:Int) (w:World) (n0:0≤n) (n1:n≤1048576) (h:T.at w x.fs b o):Calls Tryz.prog 136 #[.pointer (some ⟨b,o,none⟩),.int .i64 n] w fun e w'=>e= .returned (.bool (tf (NodeOk x n)))∧Below w.heap.size w w':=by
 have HAT:=xL h;obtain⟨hlt0,cs,hr,hc⟩:=h;obtain⟨v3,rfl,h3⟩:=xP.yR hr;clear hr;obtain⟨va3,vc3,rfl,vl3,vm3,R3,HX3⟩:=oI h3;clear h3;have HL:=xL hlt0;have HCC:=xL hc;have HB0:=xL (Below.refl w.heap.size w);clear hlt0 hc;have p0:w.cell? ⟨b,o,none⟩=some (.int .i64 x.zC):=(HB0.out.cell HL.out).trans (HCC.out 0 _ rfl);have p1:w.cell? ⟨b,o+1,none⟩=some (.int .i64 x.fA):=(HB0.out.cell HL.out).trans (HCC.out 1 _ rfl);have p2:w.cell? ⟨b,o+2,none⟩=some (.int .i64 x.fB):=(HB0.out.cell HL.out).trans (HCC.out 2 _ rfl);have p3:w.cell? ⟨b,o+3,none⟩=some (.slice va3 x.zK.length vc3):=(HB0.out.cell HL.out).trans (HCC.out 3 _ rfl);have lb:b<w.heap.size:=zW HL.out HB0.out.size
 go_enter Tryz.func136,Tryz.ntmps136
 go_wp2;by_cases q1:inB x.zC 1 17=true
 rotate_left
 ·have q1':inB x.zC 1 17=false:=(by simpa using q1)
  have g0:=yI p0;have g1:=yI p3;refine rB ?_
  repeat(first|go_big_quiet_skip|(go_big_quiet_want;go_big_quiet_op;first|go_big_quiet_on|(apply Exists.intro;refine⟨fun _=>?_,?_⟩;(· (first|(go_at_call 162;exact Calls.yN ((wEz _ _).mono (fun e w' h=>by(first|rw[q1'] at h|skip);exact h)))));go_big_quiet_on)))
  refine wpQuiet_nil ?_;rintro w9 ⟨uu,rfl⟩;have hb9:=yJ w uu;generalize bel w uu=w9 at *;have HB9:=xL (yM HB0.out HB0.out.size hb9);clear g0 g1;go_wp2;go_ret
  exact⟨yK (xE fun h=>q1 h.kind).symm,HB9.out⟩
 have q1':=q1;by_cases q2:AOk x∧(x.zC=13→x.fA<n)
 rotate_left
 ·have a2:=xE q2;have Q2:=xL q2;clear q2
  have g0:=yI p0;have g1:=yI p3;refine rB ?_
  repeat(first|go_big_quiet_skip|(go_big_quiet_want;go_big_quiet_op;first|go_big_quiet_on|(apply Exists.intro;refine⟨fun _=>?_,?_⟩;(· (first|(go_at_call 162;exact Calls.yN ((wEz _ _).mono (fun e w' h=>by(first|rw[q1'] at h|skip);exact h)))|(go_at_call 163;exact Calls.yO ((c_l06A x _ _ _ _ q1' n0 n1 (T.at_below HAT.out (yJ w _))).mono (fun e w' h=>by(first|rw[a2] at h|skip);exact h)))));go_big_quiet_on)))
  refine wpQuiet_nil ?_;rintro w9 ⟨uu,rfl⟩;have hb9:=yJ w uu;generalize bel w uu=w9 at *;have HB9:=xL (yM HB0.out HB0.out.size hb9);clear g0 g1;go_wp2;go_ret
  exact⟨yK (xE fun h=>Q2.out ⟨h.a,h.table⟩).symm,HB9.out⟩
 have a2:=xG q2;have Q2:=xL q2;clear q2;by_cases q3:(x.zK.length:Int)=(vU x.zC).inputs
 rotate_left
 ·have a3:((x.zK.length:Int) != (vU x.zC).inputs)=true:=uQ q3;have Q3:=xL q3;clear q3
  have g0:=yI p0;have g1:=yI p3;refine rB ?_
  repeat(first|go_big_quiet_skip|(go_big_quiet_want;go_big_quiet_op;first|go_big_quiet_on|(apply Exists.intro;refine⟨fun _=>?_,?_⟩;(· (first|(go_at_call 162;exact Calls.yN ((wEz _ _).mono (fun e w' h=>by(first|rw[q1'] at h|skip);exact h)))|(go_at_call 163;exact Calls.yO ((c_l06A x _ _ _ _ q1' n0 n1 (T.at_below HAT.out (yJ w _))).mono (fun e w' h=>by(first|rw[a2] at h|skip);exact h)))|(go_at_call 120;exact Calls.yO (yMz _ q1' _))));go_big_quiet_on)))
  refine wpQuiet_nil ?_;rintro w9 ⟨uu,rfl⟩;have hb9:=yJ w uu;generalize bel w uu=w9 at *;have HB9:=xL (yM HB0.out HB0.out.size hb9);clear g0 g1;go_wp2;go_ret
  exact⟨yK (xE fun h=>Q3.out h.arity).symm,HB9.out⟩
 have a3:((x.zK.length:Int) != (vU x.zC).inputs)=false:=uT q3;have Q3:=xL q3;clear q3;have g0:=yI p0;have g1:=yI p3;refine rB ?_
 repeat(first|go_big_quiet_skip|(go_big_quiet_want;go_big_quiet_op;first|go_big_quiet_on|(apply Exists.intro;refine⟨fun _=>?_,?_⟩;(· (first|(go_at_call 162;exact Calls.yN ((wEz _ _).mono (fun e w' h=>by(first|rw[q1'] at h|skip);exact h)))|(go_at_call 163;exact Calls.yO ((c_l06A x _ _ _ _ q1' n0 n1 (T.at_below HAT.out (yJ w _))).mono (fun e w' h=>by(first|rw[a2] at h|skip);exact h)))|(go_at_call 120;exact Calls.yO (yMz _ q1' _))));go_big_quiet_on)))
 refine wpQuiet_nil ?_;rintro w9 ⟨uu,rfl⟩;have hb9:=yJ w uu;generalize bel w uu=w9 at *;have HB9:=xL (yM HB0.out HB0.out.size hb9);clear g0 g1;clear hb9 p0 p1 p2 p3 lb a2 a3;have p0:w9.cell? ⟨b,o,none⟩=some (.int .i64 x.zC):=(HB9.out.cell HL.out).trans (HCC.out 0 _ rfl);have p1:w9.cell? ⟨b,o+1,none⟩=some (.int .i64 x.fA):=(HB9.out.cell HL.out).trans (HCC.out 1 _ rfl);have p2:w9.cell? ⟨b,o+2,none⟩=some (.int .i64 x.fB):=(HB9.out.cell HL.out).trans (HCC.out 2 _ rfl);have p3:w9.cell? ⟨b,o+3,none⟩=some (.slice va3 x.zK.length vc3):=(HB9.out.cell HL.out).trans (HCC.out 3 _ rfl);have lb:b<w9.heap.size:=zW HL.out HB9.out.size;go_wp2;clear p0 p1 p2 p3 lb
 go_loopw [5] (fun i wr=> ∃ k:Nat,k≤x.zK.length∧i= .int .i64 k∧vF x.zK (fun _ f=>inB f 0 23=true) k∧Below w9.heap.size w9 wr) (fun i _=>x.zK.length - (intOf i).toNat)
 case atStart=>exact⟨0,Nat.zero_le _,rfl,vF.zero,zR⟩
 case round=>
  obtain⟨k,hk,rfl,hs,hbw⟩:=hrel;have HS:=xL hs;have HW:=xL hbw;have HB:=xL (yM HB9.out HB9.out.size hbw);clear hs hbw;have p0:wr.cell? ⟨b,o,none⟩=some (.int .i64 x.zC):=(HB.out.cell HL.out).trans (HCC.out 0 _ rfl);have p1:wr.cell? ⟨b,o+1,none⟩=some (.int .i64 x.fA):=(HB.out.cell HL.out).trans (HCC.out 1 _ rfl);have p2:wr.cell? ⟨b,o+2,none⟩=some (.int .i64 x.fB):=(HB.out.cell HL.out).trans (HCC.out 2 _ rfl);have p3:wr.cell? ⟨b,o+3,none⟩=some (.slice va3 x.zK.length vc3):=(HB.out.cell HL.out).trans (HCC.out 3 _ rfl);have lb:b<wr.heap.size:=zW HL.out HB.out.size;by_cases hlt:k<x.zK.length
  rotate_left
  ·have hall:=xL (HS.out.all zM);clear HS
   by_cases e7:x.zC=17
   ·have b7:(x.zC == 17)=true:=yY e7;have E7:=xL e7;clear e7
    go_wp2_with (go_at_call 67;refine(xZ _ _ _ _).mono ?_;rintro e w' ⟨rfl,rfl⟩)
    go_ret
    exact⟨yK (by
     have hB:=kndF_hasB q1';by_cases h:inB x.fB 1 16=true
     ·rw[xG ⟨q1',Q2.out.1,by rw[hB];simp[E7.out];exact h,hall.out,Q3.out,Q2.out.2⟩];exact h
     ·rw[xE (fun hh=>h (by have h1:=hh.b;rw[hB] at h1;simp[E7.out] at h1;exact h1))];simpa using h),HB.out⟩
   ·have b7:(x.zC == 17)=false:=yX e7;have E7:=xL e7;clear e7
    go_wp2_with (go_at_call 67;refine(xZ _ _ _ _).mono ?_;rintro e w' ⟨rfl,rfl⟩)
    go_ret
    exact⟨yK (by
     have hB:=kndF_hasB q1';by_cases h:x.fB=0
     ·rw[xG ⟨q1',Q2.out.1,by rw[hB];simp[E7.out];exact h,hall.out,Q3.out,Q2.out.2⟩];exact yY h
     ·rw[xE (fun hh=>h (by have h1:=hh.b;rw[hB] at h1;simp[E7.out] at h1;exact h1))];exact yX h),HB.out⟩
  have hgk:=gE hlt;obtain⟨b1,off,hA,hb1,hcell⟩:=HX3.out k x.zK[k] hgk;subst hA;generalize x.zK[k]=y at *;have HG:=xL hgk;clear hgk;have cy:=(HB.out.cell hb1).trans hcell;have hq1:b1<wr.heap.size:=zW hb1 HB.out.size;by_cases s1:inB y 0 23=true
  rotate_left
  ·have s1':inB y 0 23=false:=(by simpa using s1)
   go_wp2_with (go_at_call 67;refine(xZ _ _ _ _).mono ?_;rintro e w' ⟨rfl,rfl⟩)
   go_ret
   exact⟨yK (xE fun h=>s1 (h.from_ k y HG.out)).symm,HB.out⟩
  go_wp2_with (go_at_call 67;refine(xZ _ _ _ _).mono ?_;rintro e w' ⟨rfl,rfl⟩)
  go_roundw
  case rel=>exact⟨k+1,by omega,by go_num,HS.out.step HG.out s1,HW.out⟩
  case measure=>simp[intOf];omega
theorem c_l06Tables (v:Value) (xs:List (List Int)) (w:World) (hr:T.rd w (T.sl 26 1 (xs.map (T.ints 2))) [v]):Calls Tryz.prog 135 #[v] w fun e w'=>e= .returned (.bool (tf (xNz xs)))∧Below w.heap.size w w':=by
 obtain⟨A,cap,rfl,hl,hc,hx⟩:=T.yQ hr;have HX:=xL hx;clear hx hr
 go_enter Tryz.func135,Tryz.ntmps135
 go_wp2
 go_loopw [3] (fun i wr=> ∃ k:Nat,k≤xs.length∧i= .int .i64 k∧vF xs (fun _ t=>(t.length=2∨t.length=4∨t.length=8∨t.length=16)∧smpB t=true) k∧Below w.heap.size w wr) (fun i _=>xs.length - (intOf i).toNat)
 case atStart=>exact⟨0,Nat.zero_le _,rfl,vF.zero,zR⟩
 case round=>
  obtain⟨k,hk,rfl,hs,hbw⟩:=hrel;have HS:=xL hs;have HB:=xL hbw;clear hs hbw;by_cases hlt:k<xs.length
  rotate_left
  ·have hall:=xL (HS.out.all zM);clear HS
   by_cases h4:xs.length≤4
   ·go_wp2
    go_ret
    exact⟨yK (by rw[xG ⟨hall.out,h4⟩];simp;omega),HB.out⟩
   ·go_wp2
    go_ret
    exact⟨yK (by rw[xE fun h=>h4 h.few];simp;omega),HB.out⟩
  have hgk:=gE hlt;obtain⟨b,off,cs,rfl,hb,hcs,hcell⟩:=HX.out k xs[k] hgk;generalize xs[k]=l at *;have HG:=xL hgk;clear hgk;obtain⟨v3,rfl⟩:=T.rd_one hcs;have d0:=(HB.out.cell hb).trans (hcell 0 v3 rfl);rw[Nat.mul_one,Nat.add_zero] at d0;have R:=xL (show RdI wr v3 l from Rd.below (T.yZ.1 hcs) HB.out);clear hcs hcell;obtain⟨A3,c3,rfl,l3,m3,x3⟩:=R.out.open_;clear x3;have hq1:b<wr.heap.size:=zW hb HB.out.size;have n1:((k:Int)<(xs.length:Int)):=by omega
  have HR:=xL (rdI_bk (xs:= [2,4,8,16]) (Bk.born wr 2 #[.int .i64 2,.int .i64 4,.int .i64 8,.int .i64 16]) rfl (by decide));have HW:=xL (show Below wr.heap.size wr (wr.alloc (.cells #[.int .i64 2,.int .i64 4,.int .i64 8,.int .i64 16] 2)) from zR.alloc zJ _);have HB2:=xL (yM HB.out HB.out.size HW.out);by_cases q1:(l.length:Int) ∈ ([2,4,8,16]:List Int)
  rotate_left
  ·have a1:decide ((l.length:Int) ∈ ([2,4,8,16]:List Int))=false:=decide_eq_false q1
   have Q1:=xL q1;clear q1;go_wp2_with (go_at_call 137;refine(yBz _ [2,4,8,16] _ _ HR.out).mono ?_;rintro e w' ⟨rfl,rfl⟩;rw[a1])
   go_ret
   exact⟨yK (xE fun h=>Q1.out (by have:=(h.each k l HG.out).1;simp;omega)).symm,HB2.out⟩
  have a1:decide ((l.length:Int) ∈ ([2,4,8,16]:List Int))=true:=decide_eq_true q1;have hn:l.length=2∨l.length=4∨l.length=8∨l.length=16:=by simp at q1;omega
  have HN:=xL hn;clear q1 hn;have R2:=xL (RdI.below R.out HW.out);by_cases q2:smpB l=true
  ·have a2:sigB l=true:=by unfold sigB;rw[q2];simp;have:=HN.out;omega
   go_wp2_with (first|(go_at_call 137;refine(yBz _ [2,4,8,16] _ _ HR.out).mono ?_;rintro e w' ⟨rfl,rfl⟩;rw[a1])|(go_at_call 69;refine(c_l03Ok _ l _ R2.out).mono ?_;rintro e w' ⟨rfl,rfl⟩;rw[a2]))
   go_roundw
   case rel=>exact⟨k+1,by omega,by go_num,HS.out.step HG.out ⟨HN.out,q2⟩,HB2.out⟩
   case measure=>simp[intOf];omega
  ·have a2:sigB l=false:=by unfold sigB;simp[q2]
   go_wp2_with (first|(go_at_call 137;refine(yBz _ [2,4,8,16] _ _ HR.out).mono ?_;rintro e w' ⟨rfl,rfl⟩;rw[a1])|(go_at_call 69;refine(c_l03Ok _ l _ R2.out).mono ?_;rintro e w' ⟨rfl,rfl⟩;rw[a2]))
   go_ret
   exact⟨yK (xE fun h=>q2 (h.each k l HG.out).2).symm,HB2.out⟩
theorem c_l07Formed (x:xQ) (b o:Nat) (w:World) (ht:x.zU.length≤1048576) (h:T.at w x.fs b o):Calls Tryz.prog 106 #[.pointer (some ⟨b,o,none⟩)] w fun e w'=>e= .returned (.bool (tf (xOz x)))∧Below w.heap.size w w':=by
 have HAT:=xL h;obtain⟨hlt0,cs,hr,hc⟩:=h;obtain⟨v1,v2,v3,rfl,h1,h2,h3⟩:=xQ.yR hr;clear hr;obtain⟨va1,vc1,rfl,vl1,vm1,R1,HX1⟩:=oG h1;clear h1;obtain⟨va2,vc2,rfl,vl2,vm2,R2,HX2⟩:=oG h2;clear h2;obtain⟨va3,vc3,rfl,vl3,vm3,R3,HX3⟩:=oI h3;clear h3;have HL:=xL hlt0;have HCC:=xL hc;have HB0:=xL (Below.refl w.heap.size w);clear hlt0 hc;have p0:w.cell? ⟨b,o,none⟩=some (.int .i64 x.zS):=(HB0.out.cell HL.out).trans (HCC.out 0 _ rfl);have p1:w.cell? ⟨b,o+1,none⟩=some (.slice va1 x.zU.length vc1):=(HB0.out.cell HL.out).trans (HCC.out 1 _ rfl);have p2:w.cell? ⟨b,o+2,none⟩=some (.slice va2 x.zH.length vc2):=(HB0.out.cell HL.out).trans (HCC.out 2 _ rfl);have p3:w.cell? ⟨b,o+3,none⟩=some (.slice va3 x.zT.length vc3):=(HB0.out.cell HL.out).trans (HCC.out 3 _ rfl);have lb:b<w.heap.size:=zW HL.out HB0.out.size
 go_enter Tryz.func106,Tryz.ntmps106
 by_cases q1:inB x.zS 0 4=true
 rotate_left
 ·have q1':inB x.zS 0 4=false:=(by simpa using q1)
  go_wp2_with (go_at_call 67;refine(xZ _ _ _ _).mono ?_;rintro e w' ⟨rfl,rfl⟩)
  go_ret
  exact⟨yK (xE fun h=>q1 h.inputs).symm,HB0.out⟩
 go_wp2_with (go_at_call 67;refine(xZ _ _ _ _).mono ?_;rintro e w' ⟨rfl,rfl⟩)
 refine(c_l06Tables _ x.zU _ (T.yH R1.out HB0.out)).mono ?_;rintro e w1 ⟨rfl,hb1⟩;have HB1:=xL (yM HB0.out HB0.out.size hb1);clear hb1 p0 p1 p2 p3 lb;have p0:w1.cell? ⟨b,o,none⟩=some (.int .i64 x.zS):=(HB1.out.cell HL.out).trans (HCC.out 0 _ rfl);have p1:w1.cell? ⟨b,o+1,none⟩=some (.slice va1 x.zU.length vc1):=(HB1.out.cell HL.out).trans (HCC.out 1 _ rfl);have p2:w1.cell? ⟨b,o+2,none⟩=some (.slice va2 x.zH.length vc2):=(HB1.out.cell HL.out).trans (HCC.out 2 _ rfl);have p3:w1.cell? ⟨b,o+3,none⟩=some (.slice va3 x.zT.length vc3):=(HB1.out.cell HL.out).trans (HCC.out 3 _ rfl);have lb:b<w1.heap.size:=zW HL.out HB1.out.size;by_cases q2:xNz x.zU
 rotate_left
 ·rw[xE q2];have Q2:=xL q2;clear q2
  go_wp2;go_ret
  exact⟨yK (xE fun h=>Q2.out h.tables).symm,HB1.out⟩
 rw[xG q2];have Q2:=xL q2;clear q2;by_cases q3:x.zH.length≤24
 rotate_left
 ·have Q3:=xL q3
  go_wp2;go_ret
  exact⟨yK (xE fun h=>q3 h.few).symm,HB1.out⟩
 by_cases q4:x.zT.length≤4
 rotate_left
 ·have Q4:=xL q4
  go_wp2;go_ret
  exact⟨yK (xE fun h=>q4 h.outs).symm,HB1.out⟩
 have Q3:=xL q3;have Q4:=xL q4;go_wp2;clear p0 p1 p2 p3 lb
 go_loopw [4] (fun i wr=> ∃ k:Nat,k≤x.zH.length∧i= .int .i64 k∧vF x.zH (fun _ x_1=>NodeOk x_1 (x.zU.length:Int)∧Idx x_1.zK (x.zH.length:Int)∧(x_1.zC=1→x_1.fA<x.zS)) k∧Below w1.heap.size w1 wr) (fun i _=>x.zH.length - (intOf i).toNat)
 case atStart=>exact⟨0,Nat.zero_le _,rfl,vF.zero,zR⟩
 case round=>
  obtain⟨k,hk,rfl,hs,hbw⟩:=hrel;have HS:=xL hs;have HW:=xL hbw;have HB:=xL (yM HB1.out HB1.out.size hbw);clear hs hbw;have p0:wr.cell? ⟨b,o,none⟩=some (.int .i64 x.zS):=(HB.out.cell HL.out).trans (HCC.out 0 _ rfl);have p1:wr.cell? ⟨b,o+1,none⟩=some (.slice va1 x.zU.length vc1):=(HB.out.cell HL.out).trans (HCC.out 1 _ rfl);have p2:wr.cell? ⟨b,o+2,none⟩=some (.slice va2 x.zH.length vc2):=(HB.out.cell HL.out).trans (HCC.out 2 _ rfl);have p3:wr.cell? ⟨b,o+3,none⟩=some (.slice va3 x.zT.length vc3):=(HB.out.cell HL.out).trans (HCC.out 3 _ rfl);have lb:b<wr.heap.size:=zW HL.out HB.out.size;by_cases hlt:k<x.zH.length
  rotate_left
  ·have hall:=xL (HS.out.all zM);clear HS
   generalize wr=w2 at *;go_wp2;clear p0 p1 p2 p3 lb;have HB2:=HB;clear HB
   go_loopw [7] (fun i wr=> ∃ k:Nat,k≤x.zT.length∧i= .int .i64 k∧vF x.zT (fun _ f=>0≤f∧f≤(x.zH.length:Int) - 1) k∧Below w2.heap.size w2 wr) (fun i _=>x.zT.length - (intOf i).toNat)
   case atStart=>exact⟨0,Nat.zero_le _,rfl,vF.zero,zR⟩
   case round=>
    obtain⟨k,hk,rfl,hs,hbw⟩:=hrel;have HS:=xL hs;have HW:=xL hbw;have HB:=xL (yM HB2.out HB2.out.size hbw);clear hs hbw;have p0:wr.cell? ⟨b,o,none⟩=some (.int .i64 x.zS):=(HB.out.cell HL.out).trans (HCC.out 0 _ rfl);have p1:wr.cell? ⟨b,o+1,none⟩=some (.slice va1 x.zU.length vc1):=(HB.out.cell HL.out).trans (HCC.out 1 _ rfl);have p2:wr.cell? ⟨b,o+2,none⟩=some (.slice va2 x.zH.length vc2):=(HB.out.cell HL.out).trans (HCC.out 2 _ rfl);have p3:wr.cell? ⟨b,o+3,none⟩=some (.slice va3 x.zT.length vc3):=(HB.out.cell HL.out).trans (HCC.out 3 _ rfl);have lb:b<wr.heap.size:=zW HL.out HB.out.size;by_cases hlt:k<x.zT.length
    rotate_left
    ·have hall2:=xL (HS.out.all zM);clear HS
     go_wp2;go_ret
     exact⟨yK (xG ⟨q1,Q2.out,Q3.out,Q4.out,hall2.out,hall.out⟩).symm,HB.out⟩
    have hgk:=gE hlt;obtain⟨b1,off,hA,hb1,hcell⟩:=HX3.out k x.zT[k] hgk;subst hA;generalize x.zT[k]=y at *;have HG:=xL hgk;clear hgk;have cy:=(HB.out.cell hb1).trans hcell;have hq1:b1<wr.heap.size:=zW hb1 HB.out.size;by_cases s1:inB y 0 ((x.zH.length:Int) - 1)=true
    rotate_left
    ·have s1':inB y 0 ((x.zH.length:Int) - 1)=false:=(by simpa using s1)
     go_wp2_with (go_at_call 67;refine(xZ _ _ _ _).mono ?_;rintro e w' ⟨rfl,rfl⟩)
     go_ret
     exact⟨yK (xE fun h=>s1 (xI.2 (h.outputs k y HG.out))).symm,HB.out⟩
    go_wp2_with (go_at_call 67;refine(xZ _ _ _ _).mono ?_;rintro e w' ⟨rfl,rfl⟩)
    go_roundw
    case rel=>exact⟨k+1,by omega,by go_num,HS.out.step HG.out (xI.1 s1),HW.out⟩
    case measure=>simp[intOf];omega
  have hgk:=gE hlt;obtain⟨b1,off,csy,hA,hb1,hcs,hcell⟩:=HX2.out k x.zH[k] hgk;subst hA;generalize x.zH[k]=y at *;have HG:=xL hgk;clear hgk;have HAy:=xL (T.at_elem (o:=off+k * 4) hb1 (show T.rds w y.fs csy by simpa only[xP.t,T.rd] using hcs) hcell zM);clear hcs hcell;have n1:((k:Int)<(x.zH.length:Int)):=by omega
  obtain⟨lty,csy',hry,hcy⟩:=HAy.out;obtain⟨u3,rfl,hu3⟩:=xP.yR hry;have Ru3:=xL (T.yZ.1 hu3);obtain⟨ua3,uc3,rfl,ul3,um3,ux3⟩:=Ru3.out.open_;have HXu3:=xL ux3;clear ux3 hu3;have HCy:=xL hcy;clear hry hcy;have cy0:wr.cell? ⟨b1,off+k * 4,none⟩=some (.int .i64 y.zC):=(HB.out.cell lty).trans (HCy.out 0 _ rfl);have cy1:wr.cell? ⟨b1,off+k * 4+1,none⟩=some (.int .i64 y.fA):=(HB.out.cell lty).trans (HCy.out 1 _ rfl);have cy2:wr.cell? ⟨b1,off+k * 4+2,none⟩=some (.int .i64 y.fB):=(HB.out.cell lty).trans (HCy.out 2 _ rfl);have cy3:wr.cell? ⟨b1,off+k * 4+3,none⟩=some (.slice ua3 y.zK.length uc3):=(HB.out.cell lty).trans (HCy.out 3 _ rfl);have hq1:b1<wr.heap.size:=zW hb1 HB.out.size;by_cases q5:NodeOk y (x.zU.length:Int)
  rotate_left
  ·have a5:=xE q5;have Q5:=xL q5;clear q5
   go_wp2;have g0:=yI p0;have g1:=yI p1;have g2:=yI cy0;have g3:=yI cy1;refine rB ?_
   repeat(first|go_big_quiet_skip|(go_big_quiet_want;go_big_quiet_op;first|go_big_quiet_on|(apply Exists.intro;refine⟨fun _=>?_,?_⟩;(· (go_at_call 136;exact Calls.yO ((c_l06Ok y _ _ _ _ zM zM (T.at_below HAy.out (yM HB.out HB.out.size (yJ wr _)))).mono (fun e w' h=>by(first|rw[a5] at h|skip);exact h))));go_big_quiet_on)))
   refine wpQuiet_nil ?_;rintro w9 ⟨uu,rfl⟩;have hb9:=yJ wr uu;generalize bel wr uu=w9 at *;have HB9:=xL (yM HB.out HB.out.size hb9);clear g0 g1 g2 g3;go_wp2;go_ret
   exact⟨yK (xE fun h=>Q5.out (h.nodes k y HG.out).1).symm,HB9.out⟩
  have a5:=xG q5;have Q5:=xL q5;clear q5;by_cases q6:y.zC=1
  rotate_left
  ·have a6:(y.zC == 1)=false:=yX q6;have Q6:=xL q6;clear q6
   go_wp2;have g0:=yI p0;have g1:=yI p1;have g2:=yI cy0;have g3:=yI cy1;refine rB ?_
   repeat(first|go_big_quiet_skip|(go_big_quiet_want;go_big_quiet_op;first|go_big_quiet_on|(apply Exists.intro;refine⟨fun _=>?_,?_⟩;(· (go_at_call 136;exact Calls.yO ((c_l06Ok y _ _ _ _ zM zM (T.at_below HAy.out (yM HB.out HB.out.size (yJ wr _)))).mono (fun e w' h=>by(first|rw[a5] at h|skip);exact h))));go_big_quiet_on)))
   refine wpQuiet_nil ?_;rintro w9 ⟨uu,rfl⟩;have hb9:=yJ wr uu;generalize bel wr uu=w9 at *;have HB9:=xL (yM HB.out HB.out.size hb9);clear g0 g1 g2 g3;have HW9:=xL (yM HW.out HW.out.size hb9);clear hb9;clear p0 p1 p2 p3 lb cy0 cy1 cy2 cy3 a5;have p0:w9.cell? ⟨b,o,none⟩=some (.int .i64 x.zS):=(HB9.out.cell HL.out).trans (HCC.out 0 _ rfl);have p1:w9.cell? ⟨b,o+1,none⟩=some (.slice va1 x.zU.length vc1):=(HB9.out.cell HL.out).trans (HCC.out 1 _ rfl);have p2:w9.cell? ⟨b,o+2,none⟩=some (.slice (some ⟨b1,off,none⟩) x.zH.length vc2):=(HB9.out.cell HL.out).trans (HCC.out 2 _ rfl);have p3:w9.cell? ⟨b,o+3,none⟩=some (.slice va3 x.zT.length vc3):=(HB9.out.cell HL.out).trans (HCC.out 3 _ rfl);have lb:b<w9.heap.size:=zW HL.out HB9.out.size;have cy0:w9.cell? ⟨b1,off+k * 4,none⟩=some (.int .i64 y.zC):=(HB9.out.cell lty).trans (HCy.out 0 _ rfl);have cy1:w9.cell? ⟨b1,off+k * 4+1,none⟩=some (.int .i64 y.fA):=(HB9.out.cell lty).trans (HCy.out 1 _ rfl);have cy2:w9.cell? ⟨b1,off+k * 4+2,none⟩=some (.int .i64 y.fB):=(HB9.out.cell lty).trans (HCy.out 2 _ rfl);have cy3:w9.cell? ⟨b1,off+k * 4+3,none⟩=some (.slice ua3 y.zK.length uc3):=(HB9.out.cell lty).trans (HCy.out 3 _ rfl);go_wp2;clear p0 p1 p2 p3 lb cy0 cy1 cy2 cy3
   go_loopw [6] (fun i ws=> ∃ m:Nat,m≤y.zK.length∧i= .int .i64 m∧vF y.zK (fun _ f=>f≤(x.zH.length:Int) - 1) m∧Below w9.heap.size w9 ws) (fun i _=>y.zK.length - (intOf i).toNat)
   case atStart=>exact⟨0,Nat.zero_le _,rfl,vF.zero,zR⟩
   case round=>
    obtain⟨m,hm,rfl,hs2,hbs⟩:=hrel;have HS2:=xL hs2;have HB4:=xL (yM HB9.out HB9.out.size hbs);have HW4:=xL (yM HW9.out HW9.out.size hbs);have HS4:=xL hbs;clear hs2 hbs;have cy0:wr.cell? ⟨b1,off+k * 4,none⟩=some (.int .i64 y.zC):=(HB4.out.cell lty).trans (HCy.out 0 _ rfl);have cy1:wr.cell? ⟨b1,off+k * 4+1,none⟩=some (.int .i64 y.fA):=(HB4.out.cell lty).trans (HCy.out 1 _ rfl);have cy2:wr.cell? ⟨b1,off+k * 4+2,none⟩=some (.int .i64 y.fB):=(HB4.out.cell lty).trans (HCy.out 2 _ rfl);have cy3:wr.cell? ⟨b1,off+k * 4+3,none⟩=some (.slice ua3 y.zK.length uc3):=(HB4.out.cell lty).trans (HCy.out 3 _ rfl);have p0:wr.cell? ⟨b,o,none⟩=some (.int .i64 x.zS):=(HB4.out.cell HL.out).trans (HCC.out 0 _ rfl);have p1:wr.cell? ⟨b,o+1,none⟩=some (.slice va1 x.zU.length vc1):=(HB4.out.cell HL.out).trans (HCC.out 1 _ rfl);have p2:wr.cell? ⟨b,o+2,none⟩=some (.slice (some ⟨b1,off,none⟩) x.zH.length vc2):=(HB4.out.cell HL.out).trans (HCC.out 2 _ rfl);have p3:wr.cell? ⟨b,o+3,none⟩=some (.slice va3 x.zT.length vc3):=(HB4.out.cell HL.out).trans (HCC.out 3 _ rfl);have lb:b<wr.heap.size:=zW HL.out HB4.out.size;by_cases hltm:m<y.zK.length
    rotate_left
    ·have hall:=xL (HS2.out.all zM);clear HS2
     go_wp2
     go_roundw
     case rel=>exact⟨k+1,by omega,by go_num,HS.out.step HG.out ⟨Q5.out,fun i f hf=>⟨(xI.1 (Q5.out.from_ i f hf)).1,hall.out i f hf⟩,fun h=>absurd h Q6.out⟩,HW4.out⟩
     case measure=>simp[intOf];omega
    have hgm:=gE hltm;obtain⟨b3,off3,hA,hb3,hcf⟩:=HXu3.out m y.zK[m] hgm;subst hA;generalize y.zK[m]=f at *;have HF:=xL hgm;clear hgm;have cf:=(HB4.out.cell hb3).trans hcf;have hq3:b3<wr.heap.size:=zW hb3 HB4.out.size;by_cases s1:(x.zH.length:Int)≤f
    ·have s1':decide ((x.zH.length:Int)≤f)=true:=decide_eq_true s1;have S1:=xL s1
     go_wp2;go_ret
     exact⟨yK (xE fun h=>by have:=(h.nodes k y HG.out).2.1 m f HF.out;have:=S1.out;omega).symm,HB4.out⟩
    have s1':decide ((x.zH.length:Int)≤f)=false:=decide_eq_false s1;go_wp2
    go_roundw
    case rel=>exact⟨m+1,by omega,by go_num,HS2.out.step HF.out zM,HS4.out⟩
    case measure=>simp[intOf];omega
  have a6:(y.zC == 1)=true:=yY q6;have Q6:=xL q6;clear q6;by_cases q7:x.zS≤y.fA
  ·have a7:decide (x.zS≤y.fA)=true:=decide_eq_true q7;have Q7:=xL q7
   go_wp2;have g0:=yI p0;have g1:=yI p1;have g2:=yI cy0;have g3:=yI cy1;refine rB ?_
   repeat(first|go_big_quiet_skip|(go_big_quiet_want;go_big_quiet_op;first|go_big_quiet_on|(apply Exists.intro;refine⟨fun _=>?_,?_⟩;(· (go_at_call 136;exact Calls.yO ((c_l06Ok y _ _ _ _ zM zM (T.at_below HAy.out (yM HB.out HB.out.size (yJ wr _)))).mono (fun e w' h=>by(first|rw[a5] at h|skip);exact h))));go_big_quiet_on)))
   refine wpQuiet_nil ?_;rintro w9 ⟨uu,rfl⟩;have hb9:=yJ wr uu;generalize bel wr uu=w9 at *;have HB9:=xL (yM HB.out HB.out.size hb9);clear g0 g1 g2 g3;go_wp2;go_ret
   exact⟨yK (xE fun h=>by have:=(h.nodes k y HG.out).2.2 Q6.out;have:=Q7.out;omega).symm,HB9.out⟩
  have a7:decide (x.zS≤y.fA)=false:=decide_eq_false q7;have Q7:=xL q7;go_wp2;have g0:=yI p0;have g1:=yI p1;have g2:=yI cy0;have g3:=yI cy1;refine rB ?_
  repeat(first|go_big_quiet_skip|(go_big_quiet_want;go_big_quiet_op;first|go_big_quiet_on|(apply Exists.intro;refine⟨fun _=>?_,?_⟩;(· (go_at_call 136;exact Calls.yO ((c_l06Ok y _ _ _ _ zM zM (T.at_below HAy.out (yM HB.out HB.out.size (yJ wr _)))).mono (fun e w' h=>by(first|rw[a5] at h|skip);exact h))));go_big_quiet_on)))
  refine wpQuiet_nil ?_;rintro w9 ⟨uu,rfl⟩;have hb9:=yJ wr uu;generalize bel wr uu=w9 at *;have HB9:=xL (yM HB.out HB.out.size hb9);clear g0 g1 g2 g3;have HW9:=xL (yM HW.out HW.out.size hb9);clear hb9;clear p0 p1 p2 p3 lb cy0 cy1 cy2 cy3 a5;have p0:w9.cell? ⟨b,o,none⟩=some (.int .i64 x.zS):=(HB9.out.cell HL.out).trans (HCC.out 0 _ rfl);have p1:w9.cell? ⟨b,o+1,none⟩=some (.slice va1 x.zU.length vc1):=(HB9.out.cell HL.out).trans (HCC.out 1 _ rfl);have p2:w9.cell? ⟨b,o+2,none⟩=some (.slice (some ⟨b1,off,none⟩) x.zH.length vc2):=(HB9.out.cell HL.out).trans (HCC.out 2 _ rfl);have p3:w9.cell? ⟨b,o+3,none⟩=some (.slice va3 x.zT.length vc3):=(HB9.out.cell HL.out).trans (HCC.out 3 _ rfl);have lb:b<w9.heap.size:=zW HL.out HB9.out.size;have cy0:w9.cell? ⟨b1,off+k * 4,none⟩=some (.int .i64 y.zC):=(HB9.out.cell lty).trans (HCy.out 0 _ rfl);have cy1:w9.cell? ⟨b1,off+k * 4+1,none⟩=some (.int .i64 y.fA):=(HB9.out.cell lty).trans (HCy.out 1 _ rfl);have cy2:w9.cell? ⟨b1,off+k * 4+2,none⟩=some (.int .i64 y.fB):=(HB9.out.cell lty).trans (HCy.out 2 _ rfl);have cy3:w9.cell? ⟨b1,off+k * 4+3,none⟩=some (.slice ua3 y.zK.length uc3):=(HB9.out.cell lty).trans (HCy.out 3 _ rfl);go_wp2;clear p0 p1 p2 p3 lb cy0 cy1 cy2 cy3
  go_loopw [6] (fun i ws=> ∃ m:Nat,m≤y.zK.length∧i= .int .i64 m∧vF y.zK (fun _ f=>f≤(x.zH.length:Int) - 1) m∧Below w9.heap.size w9 ws) (fun i _=>y.zK.length - (intOf i).toNat)
  case atStart=>exact⟨0,Nat.zero_le _,rfl,vF.zero,zR⟩
  case round=>
   obtain⟨m,hm,rfl,hs2,hbs⟩:=hrel;have HS2:=xL hs2;have HB4:=xL (yM HB9.out HB9.out.size hbs);have HW4:=xL (yM HW9.out HW9.out.size hbs);have HS4:=xL hbs;clear hs2 hbs;have cy0:wr.cell? ⟨b1,off+k * 4,none⟩=some (.int .i64 y.zC):=(HB4.out.cell lty).trans (HCy.out 0 _ rfl);have cy1:wr.cell? ⟨b1,off+k * 4+1,none⟩=some (.int .i64 y.fA):=(HB4.out.cell lty).trans (HCy.out 1 _ rfl);have cy2:wr.cell? ⟨b1,off+k * 4+2,none⟩=some (.int .i64 y.fB):=(HB4.out.cell lty).trans (HCy.out 2 _ rfl);have cy3:wr.cell? ⟨b1,off+k * 4+3,none⟩=some (.slice ua3 y.zK.length uc3):=(HB4.out.cell lty).trans (HCy.out 3 _ rfl);have p0:wr.cell? ⟨b,o,none⟩=some (.int .i64 x.zS):=(HB4.out.cell HL.out).trans (HCC.out 0 _ rfl);have p1:wr.cell? ⟨b,o+1,none⟩=some (.slice va1 x.zU.length vc1):=(HB4.out.cell HL.out).trans (HCC.out 1 _ rfl);have p2:wr.cell? ⟨b,o+2,none⟩=some (.slice (some ⟨b1,off,none⟩) x.zH.length vc2):=(HB4.out.cell HL.out).trans (HCC.out 2 _ rfl);have p3:wr.cell? ⟨b,o+3,none⟩=some (.slice va3 x.zT.length vc3):=(HB4.out.cell HL.out).trans (HCC.out 3 _ rfl);have lb:b<wr.heap.size:=zW HL.out HB4.out.size;by_cases hltm:m<y.zK.length
   rotate_left
   ·have hall:=xL (HS2.out.all zM);clear HS2
    go_wp2
    go_roundw
    case rel=>exact⟨k+1,by omega,by go_num,HS.out.step HG.out ⟨Q5.out,fun i f hf=>⟨(xI.1 (Q5.out.from_ i f hf)).1,hall.out i f hf⟩,fun _=>by have:=Q7.out;omega⟩,HW4.out⟩
    case measure=>simp[intOf];omega
   have hgm:=gE hltm;obtain⟨b3,off3,hA,hb3,hcf⟩:=HXu3.out m y.zK[m] hgm;subst hA;generalize y.zK[m]=f at *;have HF:=xL hgm;clear hgm;have cf:=(HB4.out.cell hb3).trans hcf;have hq3:b3<wr.heap.size:=zW hb3 HB4.out.size;by_cases s1:(x.zH.length:Int)≤f
   ·have s1':decide ((x.zH.length:Int)≤f)=true:=decide_eq_true s1;have S1:=xL s1
    go_wp2;go_ret
    exact⟨yK (xE fun h=>by have:=(h.nodes k y HG.out).2.1 m f HF.out;have:=S1.out;omega).symm,HB4.out⟩
   have s1':decide ((x.zH.length:Int)≤f)=false:=decide_eq_false s1;go_wp2
   go_roundw
   case rel=>exact⟨m+1,by omega,by go_num,HS2.out.step HF.out zM,HS4.out⟩
   case measure=>simp[intOf];omega
end
end Go.Proofs.YtdcofkabaigjpaaGreat
