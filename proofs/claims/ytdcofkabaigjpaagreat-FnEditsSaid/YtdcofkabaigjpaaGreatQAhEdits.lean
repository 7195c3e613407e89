/- Contracts: what is valid, by the reference: tables, nodes. Contracts: what is valid, by the reference: tables, nodes, well formed patches. -/
import Derived.Test.YtdcofkabaigjpaaGreatQAgEdits
import Derived.Test.YtdcofkabaigjpaaGreatQAeEdits
set_option linter.unusedVariables false
set_option linter.unusedSimpArgs false
set_option maxHeartbeats 2000000
set_option maxRecDepth 20000
namespace Go.Proofs.YtdcofkabaigjpaaGreat
section
open Go.RowKit
theorem rdI_bk {w:World} {g:Nat} {t:TypeId} {cs:Array Value} {xs:List Int} (h:Bk w g t cs) (hx:cs.toList=xs.map (Value.int .i64)) (hl:xs.length≤1048576):RdI w (.slice (some ⟨g,0,none⟩) xs.length xs.length) xs:=by
 refine⟨by simp,some ⟨g,0,none⟩,xs.length,rfl,zJ,by omega,fun _=>⟨g,0,rfl,h.lt,fun j u hj=>?_⟩⟩;rw[Nat.zero_add,h.cell j,←Array.getElem?_toList,hx];exact hj
theorem wHz (v:Value) (xs:List Int) (n:Int) (w:World) (hr:RdI w v xs):Calls Tryz.prog 137 #[v,.int .i64 n] w fun e w'=>e= .returned (.bool (decide (n ∈ xs)))∧w=w':=by
 obtain⟨A,cap,rfl,hl,hc,hx⟩:=hr.open_;have HX:=xN hx;clear hx hr
 go_enter Tryz.func137,Tryz.ntmps137
 go_wp2
 go_loop [5] (fun i=> ∃ k:Nat,k≤xs.length∧i= .int .i64 k∧vU xs (fun _ x=>x≠n) k) (fun i=>xs.length - (intOf i).toNat)
 case atStart=>exact⟨0,Nat.zero_le _,rfl,vU.zero⟩
 case round=>
  obtain⟨k,hk,rfl,hs⟩:=hrel;have HS:=xN hs;clear hs;by_cases hlt:k<xs.length
  ·have hgk:=gE hlt
   obtain⟨b,off,rfl,hb,hcell⟩:=HX.o k xs[k] hgk;generalize xs[k]=x at *;have HG:=xN hgk;clear hgk;by_cases hq:x=n
   ·have q:(x == n)=true:=xA hq
    have HQ:=xN hq;clear hq;go_wp2;go_ret
    exact⟨yN (decide_eq_true (by rw[←HQ.o];exact List.mem_of_getElem? HG.o)).symm,rfl⟩
   ·have q:(x == n)=false:=yZ hq
    have HQ:=xN hq;clear hq;go_wp2
    go_round
    case rel=>exact⟨k+1,by omega,by go_num,HS.o.step HG.o HQ.o⟩
    case measure=>simp[intOf];omega
  ·have hall:=xN (HS.o.all zM)
   go_wp2;go_ret
   exact⟨yN (decide_eq_false (fun h=>by
    obtain⟨i,hi,e⟩:=List.mem_iff_getElem.1 h;exact hall.o i _ (gE hi) e)).symm,rfl⟩
theorem zTy (n:Int) (w:World):Calls Tryz.prog 162 #[.int .i64 n] w fun e w'=>e= .returned (.bool (inB n 1 17))∧w=w':=by
 go_enter Tryz.func162,Tryz.ntmps162
 go_wp2_with (go_at_call 67;refine(wJ _ _ _ _).mono ?_;rintro e w' ⟨rfl,rfl⟩)
 go_ret
 exact⟨rfl,rfl⟩
theorem uFz (n:Int) (h:inB n 1 17=true) (w:World):Calls Tryz.prog 120 #[.int .i64 n] w fun e w'=>e= .returned (.int .i64 (uF n).inputs)∧Below w.heap.size w w':=by
 have HB:=xN (show Below w.heap.size w (w.alloc (.cells #[.int .i64 (-1),.int .i64 0,.int .i64 0,.int .i64 2,.int .i64 2,.int .i64 1,.int .i64 1,.int .i64 1,.int .i64 1,.int .i64 2,.int .i64 1,.int .i64 1,.int .i64 1,.int .i64 1,.int .i64 0,.int .i64 3,.int .i64 2,.int .i64 1] 2)) from zR.alloc zJ _);have hb:=xK.1 h;have:n=1∨n=2∨n=3∨n=4∨n=5∨n=6∨n=7∨n=8∨n=9∨n=10∨n=11∨n=12∨n=13∨n=14∨n=15∨n=16∨n=17:=by omega
 clear h hb
 rcases this with rfl|rfl|rfl|rfl|rfl|rfl|rfl|rfl|rfl|rfl|rfl|rfl|rfl|rfl|rfl|rfl|rfl
 all_goals
  go_enter Tryz.func120,Tryz.ntmps120
  go_wp2;go_ret
  exact⟨rfl,HB.o⟩
theorem uT (n:Int) (w:World):Calls Tryz.prog 167 #[.int .i64 n] w fun e w'=>e= .returned (.bool (decide (n ∈ ([1,2,5,6,10,11,12,13,14,17]:List Int))))∧Below w.heap.size w w':=by
 have HR:=xN (rdI_bk (xs:= [1,2,5,6,10,11,12,13,14,17]) (Bk.born w 2 #[.int .i64 1,.int .i64 2,.int .i64 5,.int .i64 6,.int .i64 10,.int .i64 11,.int .i64 12,.int .i64 13,.int .i64 14,.int .i64 17]) rfl (by decide));have HB:=xN (show Below w.heap.size w (w.alloc (.cells #[.int .i64 1,.int .i64 2,.int .i64 5,.int .i64 6,.int .i64 10,.int .i64 11,.int .i64 12,.int .i64 13,.int .i64 14,.int .i64 17] 2)) from zR.alloc zJ _)
 go_enter Tryz.func167,Tryz.ntmps167
 go_wp2_with (go_at_call 137;refine(wHz _ [1,2,5,6,10,11,12,13,14,17] _ _ HR.o).mono ?_;rintro e w' ⟨rfl,rfl⟩)
 go_ret
 exact⟨yN (by simp),HB.o⟩
theorem c_qMax (a b:Int) (w:World):Calls Tryz.prog 116 #[.int .i64 a,.int .i64 b] w fun e w'=>e= .returned (.int .i64 (max a b))∧w=w':=by
 by_cases h:a > b
 all_goals
  go_enter Tryz.func116,Tryz.ntmps116
  go_wp2;go_ret
  exact⟨vN zM,rfl⟩
theorem c_qMin (a b:Int) (w:World):Calls Tryz.prog 172 #[.int .i64 a,.int .i64 b] w fun e w'=>e= .returned (.int .i64 (min a b))∧w=w':=by
 by_cases h:a<b
 all_goals
  go_enter Tryz.func172,Tryz.ntmps172
  go_wp2;go_ret
  exact⟨vN zM,rfl⟩
def AOk (x:xR):Prop:=if (uF x.zD).low≤(uF x.zD).high then inB x.fA (uF x.zD).low (uF x.zD).high=true else x.fA=0
theorem c_l06A (x:xR) (b o:Nat) (n:Int) (w:World) (hk:inB x.zD 1 17=true) (n0:0≤n) (n1:n≤1048576) (h:T.at w x.fs b o):Calls Tryz.prog 163 #[.pointer (some ⟨b,o,none⟩),.int .i64 n] w fun e w'=>e= .returned (.bool (tf (AOk x∧(x.zD=13→x.fA<n))))∧Below w.heap.size w w':=by
 have HAT:=xN h;obtain⟨hlt0,cs,hr,hc⟩:=h;obtain⟨v3,rfl,h3⟩:=xR.yT hr;clear hr;obtain⟨va3,vc3,rfl,vl3,vm3,R3,HX3⟩:=oI h3;clear h3;have HL:=xN hlt0;have HCC:=xN hc;have HB0:=xN (Below.refl w.heap.size w);clear hlt0 hc;obtain⟨p0,p1,p2,p3⟩:=pc4 HB0.o HL.o HCC.o;have lb:b<w.heap.size:=zW HL.o HB0.o.size;have hb:=xK.1 hk;have h17:x.zD=1∨x.zD=2∨x.zD=3∨x.zD=4∨x.zD=5∨x.zD=6∨x.zD=7∨x.zD=8∨x.zD=9∨x.zD=10∨x.zD=11∨x.zD=12∨x.zD=13∨x.zD=14∨x.zD=15∨x.zD=16∨x.zD=17:=by omega
 clear hk hb
 rcases h17 with e|e|e|e|e|e|e|e|e|e|e|e|e|e|e|e|e
 ·have hK:uF x.zD=⟨0,0,3,true,false⟩:=by rw[e];rfl
  have b1:(x.zD == 1)=true:=xA e;have HK:=xN hK;have EK:=xN e;clear hK e
  go_enter Tryz.func163,Tryz.ntmps163
  go_wp2_with (go_at_call 67;refine(wJ _ _ _ _).mono ?_;rintro e w' ⟨rfl,rfl⟩)
  go_ret
  exact⟨yN (by
    by_cases h:inB x.fA 0 3=true
    ·rw[xI ⟨by unfold AOk;rw[HK.o];simpa using h,fun h=>by have:=EK.o;omega⟩];simpa using h
    ·rw[xH (fun hh=>h (by have h1:=hh.1;unfold AOk at h1;rw[HK.o] at h1;simpa using h1))];simpa using h),HB0.o⟩
 ·have hK:uF x.zD=⟨0,-2147483648,2147483647,false,false⟩:=by rw[e];rfl
  have b1:(x.zD == 1)=false:=yZ zM;have b6:(x.zD == 6)=false:=yZ zM;have b10:(x.zD == 10)=false:=yZ zM;have b11:(x.zD == 11)=false:=yZ zM;have b13:(x.zD == 13)=false:=yZ zM;have HK:=xN hK;have EK:=xN e;clear hK e
  go_enter Tryz.func163,Tryz.ntmps163
  have E0:decide (x.zD ∈ ([1,2,5,6,10,11,12,13,14,17]:List Int))=true:=by rw[EK.o];rfl
  go_wp2_with (first|(go_at_call 167;refine(uT _ _).mono ?_;rintro e w2 ⟨rfl,hb2⟩;rw[E0];have HB2:=xN (yO HB0.o HB0.o.size hb2);clear hb2;have p1:=(HB2.o.cell HL.o).trans (HCC.o 1 _ rfl);have lb2:b<w2.heap.size:=zW HL.o HB2.o.size)|(go_at_call 84;refine(wL _ _).mono ?_;rintro e w' ⟨rfl,rfl⟩))
  go_ret
  exact⟨yN (by
    by_cases h:Smp x.fA
    ·rw[xI ⟨by unfold AOk;rw[HK.o];simp[inB];unfold Smp at h;omega,fun h=>by have:=EK.o;omega⟩];exact decide_eq_true h
    ·rw[xH (fun hh=>h (by have h1:=hh.1;unfold AOk at h1;rw[HK.o] at h1;simp[inB] at h1;unfold Smp;omega))];exact decide_eq_false h),HB2.o⟩
 ·have hK:uF x.zD=⟨2,1,0,true,false⟩:=by rw[e];rfl
  have b1:(x.zD == 1)=false:=yZ zM;have b6:(x.zD == 6)=false:=yZ zM;have b10:(x.zD == 10)=false:=yZ zM;have b11:(x.zD == 11)=false:=yZ zM;have b13:(x.zD == 13)=false:=yZ zM;have HK:=xN hK;have EK:=xN e;clear hK e
  go_enter Tryz.func163,Tryz.ntmps163
  have E0:decide (x.zD ∈ ([1,2,5,6,10,11,12,13,14,17]:List Int))=false:=by rw[EK.o];rfl
  go_wp2_with (go_at_call 167;refine(uT _ _).mono ?_;rintro e w2 ⟨rfl,hb2⟩;rw[E0];have HB2:=xN (yO HB0.o HB0.o.size hb2);clear hb2;have p1:=(HB2.o.cell HL.o).trans (HCC.o 1 _ rfl);have lb2:b<w2.heap.size:=zW HL.o HB2.o.size)
  go_ret
  exact⟨yN (by
    by_cases h:x.fA=0
    ·rw[xI ⟨by unfold AOk;rw[HK.o];simpa using h,fun h=>by have:=EK.o;omega⟩];simpa using h
    ·rw[xH (fun hh=>h (by have h1:=hh.1;unfold AOk at h1;rw[HK.o] at h1;simpa using h1))];simpa using h),HB2.o⟩
 ·have hK:uF x.zD=⟨2,1,0,true,false⟩:=by rw[e];rfl
  have b1:(x.zD == 1)=false:=yZ zM;have b6:(x.zD == 6)=false:=yZ zM;have b10:(x.zD == 10)=false:=yZ zM;have b11:(x.zD == 11)=false:=yZ zM;have b13:(x.zD == 13)=false:=yZ zM;have HK:=xN hK;have EK:=xN e;clear hK e
  go_enter Tryz.func163,Tryz.ntmps163
  have E0:decide (x.zD ∈ ([1,2,5,6,10,11,12,13,14,17]:List Int))=false:=by rw[EK.o];rfl
  go_wp2_with (go_at_call 167;refine(uT _ _).mono ?_;rintro e w2 ⟨rfl,hb2⟩;rw[E0];have HB2:=xN (yO HB0.o HB0.o.size hb2);clear hb2;have p1:=(HB2.o.cell HL.o).trans (HCC.o 1 _ rfl);have lb2:b<w2.heap.size:=zW HL.o HB2.o.size)
  go_ret
  exact⟨yN (by
    by_cases h:x.fA=0
    ·rw[xI ⟨by unfold AOk;rw[HK.o];simpa using h,fun h=>by have:=EK.o;omega⟩];simpa using h
    ·rw[xH (fun hh=>h (by have h1:=hh.1;unfold AOk at h1;rw[HK.o] at h1;simpa using h1))];simpa using h),HB2.o⟩
 ·have hK:uF x.zD=⟨1,-2147483648,2147483647,true,false⟩:=by rw[e];rfl
  have b1:(x.zD == 1)=false:=yZ zM;have b6:(x.zD == 6)=false:=yZ zM;have b10:(x.zD == 10)=false:=yZ zM;have b11:(x.zD == 11)=false:=yZ zM;have b13:(x.zD == 13)=false:=yZ zM;have HK:=xN hK;have EK:=xN e;clear hK e
  go_enter Tryz.func163,Tryz.ntmps163
  have E0:decide (x.zD ∈ ([1,2,5,6,10,11,12,13,14,17]:List Int))=true:=by rw[EK.o];rfl
  go_wp2_with (first|(go_at_call 167;refine(uT _ _).mono ?_;rintro e w2 ⟨rfl,hb2⟩;rw[E0];have HB2:=xN (yO HB0.o HB0.o.size hb2);clear hb2;have p1:=(HB2.o.cell HL.o).trans (HCC.o 1 _ rfl);have lb2:b<w2.heap.size:=zW HL.o HB2.o.size)|(go_at_call 84;refine(wL _ _).mono ?_;rintro e w' ⟨rfl,rfl⟩))
  go_ret
  exact⟨yN (by
    by_cases h:Smp x.fA
    ·rw[xI ⟨by unfold AOk;rw[HK.o];simp[inB];unfold Smp at h;omega,fun h=>by have:=EK.o;omega⟩];exact decide_eq_true h
    ·rw[xH (fun hh=>h (by have h1:=hh.1;unfold AOk at h1;rw[HK.o] at h1;simp[inB] at h1;unfold Smp;omega))];exact decide_eq_false h),HB2.o⟩
 ·have hK:uF x.zD=⟨1,1,16,true,false⟩:=by rw[e];rfl
  have b1:(x.zD == 1)=false:=yZ zM;have b6:(x.zD == 6)=true:=xA e;have HK:=xN hK;have EK:=xN e;clear hK e
  go_enter Tryz.func163,Tryz.ntmps163
  go_wp2_with (go_at_call 67;refine(wJ _ _ _ _).mono ?_;rintro e w' ⟨rfl,rfl⟩)
  go_ret
  exact⟨yN (by
    by_cases h:inB x.fA 1 16=true
    ·rw[xI ⟨by unfold AOk;rw[HK.o];simpa using h,fun h=>by have:=EK.o;omega⟩];simpa using h
    ·rw[xH (fun hh=>h (by have h1:=hh.1;unfold AOk at h1;rw[HK.o] at h1;simpa using h1))];simpa using h),HB0.o⟩
 ·have hK:uF x.zD=⟨1,1,0,true,false⟩:=by rw[e];rfl
  have b1:(x.zD == 1)=false:=yZ zM;have b6:(x.zD == 6)=false:=yZ zM;have b10:(x.zD == 10)=false:=yZ zM;have b11:(x.zD == 11)=false:=yZ zM;have b13:(x.zD == 13)=false:=yZ zM;have HK:=xN hK;have EK:=xN e;clear hK e
  go_enter Tryz.func163,Tryz.ntmps163
  have E0:decide (x.zD ∈ ([1,2,5,6,10,11,12,13,14,17]:List Int))=false:=by rw[EK.o];rfl
  go_wp2_with (go_at_call 167;refine(uT _ _).mono ?_;rintro e w2 ⟨rfl,hb2⟩;rw[E0];have HB2:=xN (yO HB0.o HB0.o.size hb2);clear hb2;have p1:=(HB2.o.cell HL.o).trans (HCC.o 1 _ rfl);have lb2:b<w2.heap.size:=zW HL.o HB2.o.size)
  go_ret
  exact⟨yN (by
    by_cases h:x.fA=0
    ·rw[xI ⟨by unfold AOk;rw[HK.o];simpa using h,fun h=>by have:=EK.o;omega⟩];simpa using h
    ·rw[xH (fun hh=>h (by have h1:=hh.1;unfold AOk at h1;rw[HK.o] at h1;simpa using h1))];simpa using h),HB2.o⟩
 ·have hK:uF x.zD=⟨1,1,0,true,false⟩:=by rw[e];rfl
  have b1:(x.zD == 1)=false:=yZ zM;have b6:(x.zD == 6)=false:=yZ zM;have b10:(x.zD == 10)=false:=yZ zM;have b11:(x.zD == 11)=false:=yZ zM;have b13:(x.zD == 13)=false:=yZ zM;have HK:=xN hK;have EK:=xN e;clear hK e
  go_enter Tryz.func163,Tryz.ntmps163
  have E0:decide (x.zD ∈ ([1,2,5,6,10,11,12,13,14,17]:List Int))=false:=by rw[EK.o];rfl
  go_wp2_with (go_at_call 167;refine(uT _ _).mono ?_;rintro e w2 ⟨rfl,hb2⟩;rw[E0];have HB2:=xN (yO HB0.o HB0.o.size hb2);clear hb2;have p1:=(HB2.o.cell HL.o).trans (HCC.o 1 _ rfl);have lb2:b<w2.heap.size:=zW HL.o HB2.o.size)
  go_ret
  exact⟨yN (by
    by_cases h:x.fA=0
    ·rw[xI ⟨by unfold AOk;rw[HK.o];simpa using h,fun h=>by have:=EK.o;omega⟩];simpa using h
    ·rw[xH (fun hh=>h (by have h1:=hh.1;unfold AOk at h1;rw[HK.o] at h1;simpa using h1))];simpa using h),HB2.o⟩
 ·have hK:uF x.zD=⟨2,1,0,false,false⟩:=by rw[e];rfl
  have b1:(x.zD == 1)=false:=yZ zM;have b6:(x.zD == 6)=false:=yZ zM;have b10:(x.zD == 10)=false:=yZ zM;have b11:(x.zD == 11)=false:=yZ zM;have b13:(x.zD == 13)=false:=yZ zM;have HK:=xN hK;have EK:=xN e;clear hK e
  go_enter Tryz.func163,Tryz.ntmps163
  have E0:decide (x.zD ∈ ([1,2,5,6,10,11,12,13,14,17]:List Int))=false:=by rw[EK.o];rfl
  go_wp2_with (go_at_call 167;refine(uT _ _).mono ?_;rintro e w2 ⟨rfl,hb2⟩;rw[E0];have HB2:=xN (yO HB0.o HB0.o.size hb2);clear hb2;have p1:=(HB2.o.cell HL.o).trans (HCC.o 1 _ rfl);have lb2:b<w2.heap.size:=zW HL.o HB2.o.size)
  go_ret
  exact⟨yN (by
    by_cases h:x.fA=0
    ·rw[xI ⟨by unfold AOk;rw[HK.o];simpa using h,fun h=>by have:=EK.o;omega⟩];simpa using h
    ·rw[xH (fun hh=>h (by have h1:=hh.1;unfold AOk at h1;rw[HK.o] at h1;simpa using h1))];simpa using h),HB2.o⟩
 ·have hK:uF x.zD=⟨1,0,31,false,false⟩:=by rw[e];rfl
  have b1:(x.zD == 1)=false:=yZ zM;have b6:(x.zD == 6)=false:=yZ zM;have b10:(x.zD == 10)=true:=xA e;have HK:=xN hK;have EK:=xN e;clear hK e
  go_enter Tryz.func163,Tryz.ntmps163
  go_wp2_with (go_at_call 67;refine(wJ _ _ _ _).mono ?_;rintro e w' ⟨rfl,rfl⟩)
  go_ret
  exact⟨yN (by
    by_cases h:inB x.fA 0 31=true
    ·rw[xI ⟨by unfold AOk;rw[HK.o];simpa using h,fun h=>by have:=EK.o;omega⟩];simpa using h
    ·rw[xH (fun hh=>h (by have h1:=hh.1;unfold AOk at h1;rw[HK.o] at h1;simpa using h1))];simpa using h),HB0.o⟩
 ·have hK:uF x.zD=⟨1,0,2147483647,false,false⟩:=by rw[e];rfl
  have b1:(x.zD == 1)=false:=yZ zM;have b6:(x.zD == 6)=false:=yZ zM;have b10:(x.zD == 10)=false:=yZ zM;have b11:(x.zD == 11)=true:=xA e;have HK:=xN hK;have EK:=xN e;clear hK e
  go_enter Tryz.func163,Tryz.ntmps163
  go_wp2_with (go_at_call 67;refine(wJ _ _ _ _).mono ?_;rintro e w' ⟨rfl,rfl⟩)
  go_ret
  exact⟨yN (by
    by_cases h:inB x.fA 0 2147483647=true
    ·rw[xI ⟨by unfold AOk;rw[HK.o];simpa using h,fun h=>by have:=EK.o;omega⟩];simpa using h
    ·rw[xH (fun hh=>h (by have h1:=hh.1;unfold AOk at h1;rw[HK.o] at h1;simpa using h1))];simpa using h),HB0.o⟩
 ·have hK:uF x.zD=⟨1,-2147483648,2147483647,false,false⟩:=by rw[e];rfl
  have b1:(x.zD == 1)=false:=yZ zM;have b6:(x.zD == 6)=false:=yZ zM;have b10:(x.zD == 10)=false:=yZ zM;have b11:(x.zD == 11)=false:=yZ zM;have b13:(x.zD == 13)=false:=yZ zM;have HK:=xN hK;have EK:=xN e;clear hK e
  go_enter Tryz.func163,Tryz.ntmps163
  have E0:decide (x.zD ∈ ([1,2,5,6,10,11,12,13,14,17]:List Int))=true:=by rw[EK.o];rfl
  go_wp2_with (first|(go_at_call 167;refine(uT _ _).mono ?_;rintro e w2 ⟨rfl,hb2⟩;rw[E0];have HB2:=xN (yO HB0.o HB0.o.size hb2);clear hb2;have p1:=(HB2.o.cell HL.o).trans (HCC.o 1 _ rfl);have lb2:b<w2.heap.size:=zW HL.o HB2.o.size)|(go_at_call 84;refine(wL _ _).mono ?_;rintro e w' ⟨rfl,rfl⟩))
  go_ret
  exact⟨yN (by
    by_cases h:Smp x.fA
    ·rw[xI ⟨by unfold AOk;rw[HK.o];simp[inB];unfold Smp at h;omega,fun h=>by have:=EK.o;omega⟩];exact decide_eq_true h
    ·rw[xH (fun hh=>h (by have h1:=hh.1;unfold AOk at h1;rw[HK.o] at h1;simp[inB] at h1;unfold Smp;omega))];exact decide_eq_false h),HB2.o⟩
 ·have hK:uF x.zD=⟨1,0,3,false,false⟩:=by rw[e];rfl
  have b1:(x.zD == 1)=false:=yZ zM;have b6:(x.zD == 6)=false:=yZ zM;have b10:(x.zD == 10)=false:=yZ zM;have b11:(x.zD == 11)=false:=yZ zM;have b13:(x.zD == 13)=true:=xA e;have HK:=xN hK;have EK:=xN e;clear hK e
  go_enter Tryz.func163,Tryz.ntmps163
  have hm:IntKind.i64.wrap (min (max n 0) 4 - 1)=min (max n 0) 4 - 1:=IntWalk.i64_in _ zM;go_wp2;have g0:=yK p0;have g1:=yK p1;have g2:=yK p2;have g3:=yK p3;refine rB ?_
  repeat(first|go_big_quiet_skip|(go_big_quiet_want;go_big_quiet_op;first|go_big_quiet_on|(apply Exists.intro;refine⟨fun _=>?_,?_⟩;(· (first|(go_at_call 116;exact Calls.yP (c_qMax _ _ _))|(go_at_call 172;exact Calls.yP (c_qMin _ _ _))|(go_at_call 67;exact Calls.yP (wJ _ _ _ _))));go_big_quiet_on)))
  refine wpQuiet_nil ?_;rintro w9 ⟨uu,rfl⟩;have hb9:=yM w uu;generalize bel w uu=w9 at *;have HB9:=xN (yO HB0.o HB0.o.size hb9);clear g0 g1 g2 g3;go_wp2;go_ret
  exact⟨yN (by
    by_cases h:inB x.fA 0 3=true∧x.fA<n
    ·rw[xI ⟨by unfold AOk;rw[HK.o];simpa using h.1,fun _=>h.2⟩];have:=xK.1 h.1;exact xK.2 zM
    ·rw[xH (fun hh=>h ⟨by have h1:=hh.1;unfold AOk at h1;rw[HK.o] at h1;simpa using h1,hh.2 EK.o⟩)];exact zNy.2 (fun hh=>h ⟨xK.2 zM,by omega⟩)),HB9.o⟩
 ·have hK:uF x.zD=⟨0,-2147483648,2147483647,false,false⟩:=by rw[e];rfl
  have b1:(x.zD == 1)=false:=yZ zM;have b6:(x.zD == 6)=false:=yZ zM;have b10:(x.zD == 10)=false:=yZ zM;have b11:(x.zD == 11)=false:=yZ zM;have b13:(x.zD == 13)=false:=yZ zM;have HK:=xN hK;have EK:=xN e;clear hK e
  go_enter Tryz.func163,Tryz.ntmps163
  have E0:decide (x.zD ∈ ([1,2,5,6,10,11,12,13,14,17]:List Int))=true:=by rw[EK.o];rfl
  go_wp2_with (first|(go_at_call 167;refine(uT _ _).mono ?_;rintro e w2 ⟨rfl,hb2⟩;rw[E0];have HB2:=xN (yO HB0.o HB0.o.size hb2);clear hb2;have p1:=(HB2.o.cell HL.o).trans (HCC.o 1 _ rfl);have lb2:b<w2.heap.size:=zW HL.o HB2.o.size)|(go_at_call 84;refine(wL _ _).mono ?_;rintro e w' ⟨rfl,rfl⟩))
  go_ret
  exact⟨yN (by
    by_cases h:Smp x.fA
    ·rw[xI ⟨by unfold AOk;rw[HK.o];simp[inB];unfold Smp at h;omega,fun h=>by have:=EK.o;omega⟩];exact decide_eq_true h
    ·rw[xH (fun hh=>h (by have h1:=hh.1;unfold AOk at h1;rw[HK.o] at h1;simp[inB] at h1;unfold Smp;omega))];exact decide_eq_false h),HB2.o⟩
 ·have hK:uF x.zD=⟨3,1,0,false,false⟩:=by rw[e];rfl
  have b1:(x.zD == 1)=false:=yZ zM;have b6:(x.zD == 6)=false:=yZ zM;have b10:(x.zD == 10)=false:=yZ zM;have b11:(x.zD == 11)=false:=yZ zM;have b13:(x.zD == 13)=false:=yZ zM;have HK:=xN hK;have EK:=xN e;clear hK e
  go_enter Tryz.func163,Tryz.ntmps163
  have E0:decide (x.zD ∈ ([1,2,5,6,10,11,12,13,14,17]:List Int))=false:=by rw[EK.o];rfl
  go_wp2_with (go_at_call 167;refine(uT _ _).mono ?_;rintro e w2 ⟨rfl,hb2⟩;rw[E0];have HB2:=xN (yO HB0.o HB0.o.size hb2);clear hb2;have p1:=(HB2.o.cell HL.o).trans (HCC.o 1 _ rfl);have lb2:b<w2.heap.size:=zW HL.o HB2.o.size)
  go_ret
  exact⟨yN (by
    by_cases h:x.fA=0
    ·rw[xI ⟨by unfold AOk;rw[HK.o];simpa using h,fun h=>by have:=EK.o;omega⟩];simpa using h
    ·rw[xH (fun hh=>h (by have h1:=hh.1;unfold AOk at h1;rw[HK.o] at h1;simpa using h1))];simpa using h),HB2.o⟩
 ·have hK:uF x.zD=⟨2,1,0,false,false⟩:=by rw[e];rfl
  have b1:(x.zD == 1)=false:=yZ zM;have b6:(x.zD == 6)=false:=yZ zM;have b10:(x.zD == 10)=false:=yZ zM;have b11:(x.zD == 11)=false:=yZ zM;have b13:(x.zD == 13)=false:=yZ zM;have HK:=xN hK;have EK:=xN e;clear hK e
  go_enter Tryz.func163,Tryz.ntmps163
  have E0:decide (x.zD ∈ ([1,2,5,6,10,11,12,13,14,17]:List Int))=false:=by rw[EK.o];rfl
  go_wp2_with (go_at_call 167;refine(uT _ _).mono ?_;rintro e w2 ⟨rfl,hb2⟩;rw[E0];have HB2:=xN (yO HB0.o HB0.o.size hb2);clear hb2;have p1:=(HB2.o.cell HL.o).trans (HCC.o 1 _ rfl);have lb2:b<w2.heap.size:=zW HL.o HB2.o.size)
  go_ret
  exact⟨yN (by
    by_cases h:x.fA=0
    ·rw[xI ⟨by unfold AOk;rw[HK.o];simpa using h,fun h=>by have:=EK.o;omega⟩];simpa using h
    ·rw[xH (fun hh=>h (by have h1:=hh.1;unfold AOk at h1;rw[HK.o] at h1;simpa using h1))];simpa using h),HB2.o⟩
 ·have hK:uF x.zD=⟨1,-2147483648,2147483647,true,true⟩:=by rw[e];rfl
  have b1:(x.zD == 1)=false:=yZ zM;have b6:(x.zD == 6)=false:=yZ zM;have b10:(x.zD == 10)=false:=yZ zM;have b11:(x.zD == 11)=false:=yZ zM;have b13:(x.zD == 13)=false:=yZ zM;have HK:=xN hK;have EK:=xN e;clear hK e
  go_enter Tryz.func163,Tryz.ntmps163
  have E0:decide (x.zD ∈ ([1,2,5,6,10,11,12,13,14,17]:List Int))=true:=by rw[EK.o];rfl
  go_wp2_with (first|(go_at_call 167;refine(uT _ _).mono ?_;rintro e w2 ⟨rfl,hb2⟩;rw[E0];have HB2:=xN (yO HB0.o HB0.o.size hb2);clear hb2;have p1:=(HB2.o.cell HL.o).trans (HCC.o 1 _ rfl);have lb2:b<w2.heap.size:=zW HL.o HB2.o.size)|(go_at_call 84;refine(wL _ _).mono ?_;rintro e w' ⟨rfl,rfl⟩))
  go_ret
  exact⟨yN (by
    by_cases h:Smp x.fA
    ·rw[xI ⟨by unfold AOk;rw[HK.o];simp[inB];unfold Smp at h;omega,fun h=>by have:=EK.o;omega⟩];exact decide_eq_true h
    ·rw[xH (fun hh=>h (by have h1:=hh.1;unfold AOk at h1;rw[HK.o] at h1;simp[inB] at h1;unfold Smp;omega))];exact decide_eq_false h),HB2.o⟩
end
section
open Go.RowKit
theorem kndF_hasB {n:Int} (h:inB n 1 17=true):(uF n).hasB=decide (n=17):=by
 have hb:=xK.1 h;have:n=1∨n=2∨n=3∨n=4∨n=5∨n=6∨n=7∨n=8∨n=9∨n=10∨n=11∨n=12∨n=13∨n=14∨n=15∨n=16∨n=17:=by omega
 rcases this with rfl|rfl|rfl|rfl|rfl|rfl|rfl|rfl|rfl|rfl|rfl|rfl|rfl|rfl|rfl|rfl|rfl
 all_goals rfl
theorem c_l06Ok (x:xR) (b o:Nat) (n:Int) (w:World) (n0:0≤n) (n1:n≤1048576) (h:T.at w x.fs b o):Calls Tryz.prog 136 #[.pointer (some ⟨b,o,none⟩),.int .i64 n] w fun e w'=>e= .returned (.bool (tf (yCz x n)))∧Below w.heap.size w w':=by
 have HAT:=xN h;obtain⟨hlt0,cs,hr,hc⟩:=h;obtain⟨v3,rfl,h3⟩:=xR.yT hr;clear hr;obtain⟨va3,vc3,rfl,vl3,vm3,R3,HX3⟩:=oI h3;clear h3;have HL:=xN hlt0;have HCC:=xN hc;have HB0:=xN (Below.refl w.heap.size w);clear hlt0 hc;obtain⟨p0,p1,p2,p3⟩:=pc4 HB0.o HL.o HCC.o;have lb:b<w.heap.size:=zW HL.o HB0.o.size
 go_enter Tryz.func136,Tryz.ntmps136
 go_wp2;by_cases q1:inB x.zD 1 17=true
 rotate_left
 ·have q1':inB x.zD 1 17=false:=(by simpa using q1)
  have g0:=yK p0;have g1:=yK p3;refine rB ?_
  repeat(first|go_big_quiet_skip|(go_big_quiet_want;go_big_quiet_op;first|go_big_quiet_on|(apply Exists.intro;refine⟨fun _=>?_,?_⟩;(· (first|(go_at_call 162;exact Calls.yP ((zTy _ _).mono (fun e w' h=>by(first|rw[q1'] at h|skip);exact h)))));go_big_quiet_on)))
  refine wpQuiet_nil ?_;rintro w9 ⟨uu,rfl⟩;have hb9:=yM w uu;generalize bel w uu=w9 at *;have HB9:=xN (yO HB0.o HB0.o.size hb9);clear g0 g1;go_wp2;go_ret
  exact⟨yN (xH fun h=>q1 h.kind).symm,HB9.o⟩
 have q1':=q1;by_cases q2:AOk x∧(x.zD=13→x.fA<n)
 rotate_left
 ·have a2:=xH q2;have Q2:=xN q2;clear q2
  have g0:=yK p0;have g1:=yK p3;refine rB ?_
  repeat(first|go_big_quiet_skip|(go_big_quiet_want;go_big_quiet_op;first|go_big_quiet_on|(apply Exists.intro;refine⟨fun _=>?_,?_⟩;(· (first|(go_at_call 162;exact Calls.yP ((zTy _ _).mono (fun e w' h=>by(first|rw[q1'] at h|skip);exact h)))|(go_at_call 163;exact Calls.yQ ((c_l06A x _ _ _ _ q1' n0 n1 (T.at_below HAT.o (yM w _))).mono (fun e w' h=>by(first|rw[a2] at h|skip);exact h)))));go_big_quiet_on)))
  refine wpQuiet_nil ?_;rintro w9 ⟨uu,rfl⟩;have hb9:=yM w uu;generalize bel w uu=w9 at *;have HB9:=xN (yO HB0.o HB0.o.size hb9);clear g0 g1;go_wp2;go_ret
  exact⟨yN (xH fun h=>Q2.o ⟨h.a,h.table⟩).symm,HB9.o⟩
 have a2:=xI q2;have Q2:=xN q2;clear q2;by_cases q3:(x.zO.length:Int)=(uF x.zD).inputs
 rotate_left
 ·have a3:((x.zO.length:Int) != (uF x.zD).inputs)=true:=ySz q3;have Q3:=xN q3;clear q3
  have g0:=yK p0;have g1:=yK p3;refine rB ?_
  repeat(first|go_big_quiet_skip|(go_big_quiet_want;go_big_quiet_op;first|go_big_quiet_on|(apply Exists.intro;refine⟨fun _=>?_,?_⟩;(· (first|(go_at_call 162;exact Calls.yP ((zTy _ _).mono (fun e w' h=>by(first|rw[q1'] at h|skip);exact h)))|(go_at_call 163;exact Calls.yQ ((c_l06A x _ _ _ _ q1' n0 n1 (T.at_below HAT.o (yM w _))).mono (fun e w' h=>by(first|rw[a2] at h|skip);exact h)))|(go_at_call 120;exact Calls.yQ (uFz _ q1' _))));go_big_quiet_on)))
  refine wpQuiet_nil ?_;rintro w9 ⟨uu,rfl⟩;have hb9:=yM w uu;generalize bel w uu=w9 at *;have HB9:=xN (yO HB0.o HB0.o.size hb9);clear g0 g1;go_wp2;go_ret
  exact⟨yN (xH fun h=>Q3.o h.arity).symm,HB9.o⟩
 have a3:((x.zO.length:Int) != (uF x.zD).inputs)=false:=yTz q3;have Q3:=xN q3;clear q3;have g0:=yK p0;have g1:=yK p3;refine rB ?_
 repeat(first|go_big_quiet_skip|(go_big_quiet_want;go_big_quiet_op;first|go_big_quiet_on|(apply Exists.intro;refine⟨fun _=>?_,?_⟩;(· (first|(go_at_call 162;exact Calls.yP ((zTy _ _).mono (fun e w' h=>by(first|rw[q1'] at h|skip);exact h)))|(go_at_call 163;exact Calls.yQ ((c_l06A x _ _ _ _ q1' n0 n1 (T.at_below HAT.o (yM w _))).mono (fun e w' h=>by(first|rw[a2] at h|skip);exact h)))|(go_at_call 120;exact Calls.yQ (uFz _ q1' _))));go_big_quiet_on)))
 refine wpQuiet_nil ?_;rintro w9 ⟨uu,rfl⟩;have hb9:=yM w uu;generalize bel w uu=w9 at *;have HB9:=xN (yO HB0.o HB0.o.size hb9);clear g0 g1;clear hb9 p0 p1 p2 p3 lb a2 a3;obtain⟨p0,p1,p2,p3⟩:=pc4 HB9.o HL.o HCC.o;have lb:b<w9.heap.size:=zW HL.o HB9.o.size;go_wp2;clear p0 p1 p2 p3 lb
 go_loopw [5] (fun i wr=> ∃ k:Nat,k≤x.zO.length∧i= .int .i64 k∧vU x.zO (fun _ f=>inB f 0 23=true) k∧Below w9.heap.size w9 wr) (fun i _=>x.zO.length - (intOf i).toNat)
 case atStart=>exact⟨0,Nat.zero_le _,rfl,vU.zero,zR⟩
 case round=>
  obtain⟨k,hk,rfl,hs,hbw⟩:=hrel;have HS:=xN hs;have HW:=xN hbw;have HB:=xN (yO HB9.o HB9.o.size hbw);clear hs hbw;obtain⟨p0,p1,p2,p3⟩:=pc4 HB.o HL.o HCC.o;have lb:b<wr.heap.size:=zW HL.o HB.o.size;by_cases hlt:k<x.zO.length
  rotate_left
  ·have hall:=xN (HS.o.all zM);clear HS
   by_cases e7:x.zD=17
   ·have b7:(x.zD == 17)=true:=xA e7;have E7:=xN e7;clear e7
    go_wp2_with (go_at_call 67;refine(wJ _ _ _ _).mono ?_;rintro e w' ⟨rfl,rfl⟩)
    go_ret
    exact⟨yN (by
     have hB:=kndF_hasB q1';by_cases h:inB x.fB 1 16=true
     ·rw[xI ⟨q1',Q2.o.1,by rw[hB];simp[E7.o];exact h,hall.o,Q3.o,Q2.o.2⟩];exact h
     ·rw[xH (fun hh=>h (by have h1:=hh.b;rw[hB] at h1;simp[E7.o] at h1;exact h1))];simpa using h),HB.o⟩
   ·have b7:(x.zD == 17)=false:=yZ e7;have E7:=xN e7;clear e7
    go_wp2_with (go_at_call 67;refine(wJ _ _ _ _).mono ?_;rintro e w' ⟨rfl,rfl⟩)
    go_ret
    exact⟨yN (by
     have hB:=kndF_hasB q1';by_cases h:x.fB=0
     ·rw[xI ⟨q1',Q2.o.1,by rw[hB];simp[E7.o];exact h,hall.o,Q3.o,Q2.o.2⟩];exact xA h
     ·rw[xH (fun hh=>h (by have h1:=hh.b;rw[hB] at h1;simp[E7.o] at h1;exact h1))];exact yZ h),HB.o⟩
  have hgk:=gE hlt;obtain⟨b1,off,hA,hb1,hcell⟩:=HX3.o k x.zO[k] hgk;subst hA;generalize x.zO[k]=y at *;have HG:=xN hgk;clear hgk;have cy:=(HB.o.cell hb1).trans hcell;have hq1:b1<wr.heap.size:=zW hb1 HB.o.size;by_cases s1:inB y 0 23=true
  rotate_left
  ·have s1':inB y 0 23=false:=(by simpa using s1)
   go_wp2_with (go_at_call 67;refine(wJ _ _ _ _).mono ?_;rintro e w' ⟨rfl,rfl⟩)
   go_ret
   exact⟨yN (xH fun h=>s1 (h.from_ k y HG.o)).symm,HB.o⟩
  go_wp2_with (go_at_call 67;refine(wJ _ _ _ _).mono ?_;rintro e w' ⟨rfl,rfl⟩)
  go_roundw
  case rel=>exact⟨k+1,by omega,by go_num,HS.o.step HG.o s1,HW.o⟩
  case measure=>simp[intOf];omega
theorem c_l06Tables (v:Value) (xs:List (List Int)) (w:World) (hr:T.rd w (T.sl 26 1 (xs.map (T.ints 2))) [v]):Calls Tryz.prog 135 #[v] w fun e w'=>e= .returned (.bool (tf (vAz xs)))∧Below w.heap.size w w':=by
 obtain⟨A,cap,rfl,hl,hc,hx⟩:=T.yS hr;have HX:=xN hx;clear hx hr
 go_enter Tryz.func135,Tryz.ntmps135
 go_wp2
 go_loopw [3] (fun i wr=> ∃ k:Nat,k≤xs.length∧i= .int .i64 k∧vU xs (fun _ t=>(t.length=2∨t.length=4∨t.length=8∨t.length=16)∧smpB t=true) k∧Below w.heap.size w wr) (fun i _=>xs.length - (intOf i).toNat)
 case atStart=>exact⟨0,Nat.zero_le _,rfl,vU.zero,zR⟩
 case round=>
  obtain⟨k,hk,rfl,hs,hbw⟩:=hrel;have HS:=xN hs;have HB:=xN hbw;clear hs hbw;by_cases hlt:k<xs.length
  rotate_left
  ·have hall:=xN (HS.o.all zM);clear HS
   by_cases h4:xs.length≤4
   ·go_wp2
    go_ret
    exact⟨yN (by rw[xI ⟨hall.o,h4⟩];simp;omega),HB.o⟩
   ·go_wp2
    go_ret
    exact⟨yN (by rw[xH fun h=>h4 h.few];simp;omega),HB.o⟩
  have hgk:=gE hlt;obtain⟨b,off,cs,rfl,hb,hcs,hcell⟩:=HX.o k xs[k] hgk;generalize xs[k]=l at *;have HG:=xN hgk;clear hgk;obtain⟨v3,rfl⟩:=T.rd_one hcs;have d0:=(HB.o.cell hb).trans (hcell 0 v3 rfl);rw[Nat.mul_one,Nat.add_zero] at d0;have R:=xN (show RdI wr v3 l from Rd.below (T.xB.1 hcs) HB.o);clear hcs hcell;obtain⟨A3,c3,rfl,l3,m3,x3⟩:=R.o.open_;clear x3;have hq1:b<wr.heap.size:=zW hb HB.o.size;have n1:((k:Int)<(xs.length:Int)):=by omega
  have HR:=xN (rdI_bk (xs:= [2,4,8,16]) (Bk.born wr 2 #[.int .i64 2,.int .i64 4,.int .i64 8,.int .i64 16]) rfl (by decide));have HW:=xN (show Below wr.heap.size wr (wr.alloc (.cells #[.int .i64 2,.int .i64 4,.int .i64 8,.int .i64 16] 2)) from zR.alloc zJ _);have HB2:=xN (yO HB.o HB.o.size HW.o);by_cases q1:(l.length:Int) ∈ ([2,4,8,16]:List Int)
  rotate_left
  ·have a1:decide ((l.length:Int) ∈ ([2,4,8,16]:List Int))=false:=decide_eq_false q1
   have Q1:=xN q1;clear q1;go_wp2_with (go_at_call 137;refine(wHz _ [2,4,8,16] _ _ HR.o).mono ?_;rintro e w' ⟨rfl,rfl⟩;rw[a1])
   go_ret
   exact⟨yN (xH fun h=>Q1.o (by have:=(h.each k l HG.o).1;simp;omega)).symm,HB2.o⟩
  have a1:decide ((l.length:Int) ∈ ([2,4,8,16]:List Int))=true:=decide_eq_true q1;have hn:l.length=2∨l.length=4∨l.length=8∨l.length=16:=by simp at q1;omega
  have HN:=xN hn;clear q1 hn;have R2:=xN (RdI.below R.o HW.o);by_cases q2:smpB l=true
  ·have a2:sigB l=true:=by unfold sigB;rw[q2];simp;have:=HN.o;omega
   go_wp2_with (first|(go_at_call 137;refine(wHz _ [2,4,8,16] _ _ HR.o).mono ?_;rintro e w' ⟨rfl,rfl⟩;rw[a1])|(go_at_call 69;refine(c_l03Ok _ l _ R2.o).mono ?_;rintro e w' ⟨rfl,rfl⟩;rw[a2]))
   go_roundw
   case rel=>exact⟨k+1,by omega,by go_num,HS.o.step HG.o ⟨HN.o,q2⟩,HB2.o⟩
   case measure=>simp[intOf];omega
  ·have a2:sigB l=false:=by unfold sigB;simp[q2]
   go_wp2_with (first|(go_at_call 137;refine(wHz _ [2,4,8,16] _ _ HR.o).mono ?_;rintro e w' ⟨rfl,rfl⟩;rw[a1])|(go_at_call 69;refine(c_l03Ok _ l _ R2.o).mono ?_;rintro e w' ⟨rfl,rfl⟩;rw[a2]))
   go_ret
   exact⟨yN (xH fun h=>q2 (h.each k l HG.o).2).symm,HB2.o⟩
theorem c_l07Formed (x:xQ) (b o:Nat) (w:World) (ht:x.zY.length≤1048576) (h:T.at w x.fs b o):Calls Tryz.prog 106 #[.pointer (some ⟨b,o,none⟩)] w fun e w'=>e= .returned (.bool (tf (wDz x)))∧Below w.heap.size w w':=by
 have HAT:=xN h;obtain⟨hlt0,cs,hr,hc⟩:=h;obtain⟨v1,v2,v3,rfl,h1,h2,h3⟩:=xQ.yT hr;clear hr;obtain⟨va1,vc1,rfl,vl1,vm1,R1,HX1⟩:=oG h1;clear h1;obtain⟨va2,vc2,rfl,vl2,vm2,R2,HX2⟩:=oG h2;clear h2;obtain⟨va3,vc3,rfl,vl3,vm3,R3,HX3⟩:=oI h3;clear h3;have HL:=xN hlt0;have HCC:=xN hc;have HB0:=xN (Below.refl w.heap.size w);clear hlt0 hc;obtain⟨p0,p1,p2,p3⟩:=pc4 HB0.o HL.o HCC.o;have lb:b<w.heap.size:=zW HL.o HB0.o.size
 go_enter Tryz.func106,Tryz.ntmps106
 by_cases q1:inB x.zU 0 4=true
 rotate_left
 ·have q1':inB x.zU 0 4=false:=(by simpa using q1)
  go_wp2_with (go_at_call 67;refine(wJ _ _ _ _).mono ?_;rintro e w' ⟨rfl,rfl⟩)
  go_ret
  exact⟨yN (xH fun h=>q1 h.inputs).symm,HB0.o⟩
 go_wp2_with (go_at_call 67;refine(wJ _ _ _ _).mono ?_;rintro e w' ⟨rfl,rfl⟩)
 refine(c_l06Tables _ x.zY _ (T.yJ R1.o HB0.o)).mono ?_;rintro e w1 ⟨rfl,hb1⟩;have HB1:=xN (yO HB0.o HB0.o.size hb1);clear hb1 p0 p1 p2 p3 lb;obtain⟨p0,p1,p2,p3⟩:=pc4 HB1.o HL.o HCC.o;have lb:b<w1.heap.size:=zW HL.o HB1.o.size;by_cases q2:vAz x.zY
 rotate_left
 ·rw[xH q2];have Q2:=xN q2;clear q2
  go_wp2;go_ret
  exact⟨yN (xH fun h=>Q2.o h.tables).symm,HB1.o⟩
 rw[xI q2];have Q2:=xN q2;clear q2;by_cases q3:x.zF.length≤24
 rotate_left
 ·have Q3:=xN q3
  go_wp2;go_ret
  exact⟨yN (xH fun h=>q3 h.few).symm,HB1.o⟩
 by_cases q4:x.zX.length≤4
 rotate_left
 ·have Q4:=xN q4
  go_wp2;go_ret
  exact⟨yN (xH fun h=>q4 h.outs).symm,HB1.o⟩
 have Q3:=xN q3;have Q4:=xN q4;go_wp2;clear p0 p1 p2 p3 lb
 go_loopw [4] (fun i wr=> ∃ k:Nat,k≤x.zF.length∧i= .int .i64 k∧vU x.zF (fun _ x_1=>yCz x_1 (x.zY.length:Int)∧Idx x_1.zO (x.zF.length:Int)∧(x_1.zD=1→x_1.fA<x.zU)) k∧Below w1.heap.size w1 wr) (fun i _=>x.zF.length - (intOf i).toNat)
 case atStart=>exact⟨0,Nat.zero_le _,rfl,vU.zero,zR⟩
 case round=>
  obtain⟨k,hk,rfl,hs,hbw⟩:=hrel;have HS:=xN hs;have HW:=xN hbw;have HB:=xN (yO HB1.o HB1.o.size hbw);clear hs hbw;obtain⟨p0,p1,p2,p3⟩:=pc4 HB.o HL.o HCC.o;have lb:b<wr.heap.size:=zW HL.o HB.o.size;by_cases hlt:k<x.zF.length
  rotate_left
  ·have hall:=xN (HS.o.all zM);clear HS
   generalize wr=w2 at *;go_wp2;clear p0 p1 p2 p3 lb;have HB2:=HB;clear HB
   go_loopw [7] (fun i wr=> ∃ k:Nat,k≤x.zX.length∧i= .int .i64 k∧vU x.zX (fun _ f=>0≤f∧f≤(x.zF.length:Int) - 1) k∧Below w2.heap.size w2 wr) (fun i _=>x.zX.length - (intOf i).toNat)
   case atStart=>exact⟨0,Nat.zero_le _,rfl,vU.zero,zR⟩
   case round=>
    obtain⟨k,hk,rfl,hs,hbw⟩:=hrel;have HS:=xN hs;have HW:=xN hbw;have HB:=xN (yO HB2.o HB2.o.size hbw);clear hs hbw;obtain⟨p0,p1,p2,p3⟩:=pc4 HB.o HL.o HCC.o;have lb:b<wr.heap.size:=zW HL.o HB.o.size;by_cases hlt:k<x.zX.length
    rotate_left
    ·have hall2:=xN (HS.o.all zM);clear HS
     go_wp2;go_ret
     exact⟨yN (xI ⟨q1,Q2.o,Q3.o,Q4.o,hall2.o,hall.o⟩).symm,HB.o⟩
    have hgk:=gE hlt;obtain⟨b1,off,hA,hb1,hcell⟩:=HX3.o k x.zX[k] hgk;subst hA;generalize x.zX[k]=y at *;have HG:=xN hgk;clear hgk;have cy:=(HB.o.cell hb1).trans hcell;have hq1:b1<wr.heap.size:=zW hb1 HB.o.size;by_cases s1:inB y 0 ((x.zF.length:Int) - 1)=true
    rotate_left
    ·have s1':inB y 0 ((x.zF.length:Int) - 1)=false:=(by simpa using s1)
     go_wp2_with (go_at_call 67;refine(wJ _ _ _ _).mono ?_;rintro e w' ⟨rfl,rfl⟩)
     go_ret
     exact⟨yN (xH fun h=>s1 (xK.2 (h.outputs k y HG.o))).symm,HB.o⟩
    go_wp2_with (go_at_call 67;refine(wJ _ _ _ _).mono ?_;rintro e w' ⟨rfl,rfl⟩)
    go_roundw
    case rel=>exact⟨k+1,by omega,by go_num,HS.o.step HG.o (xK.1 s1),HW.o⟩
    case measure=>simp[intOf];omega
  have hgk:=gE hlt;obtain⟨b1,off,csy,hA,hb1,hcs,hcell⟩:=HX2.o k x.zF[k] hgk;subst hA;generalize x.zF[k]=y at *;have HG:=xN hgk;clear hgk;have HAy:=xN (T.at_elem (o:=off+k * 4) hb1 (show T.rds w y.fs csy by simpa only[xR.t,T.rd] using hcs) hcell zM);clear hcs hcell;have n1:((k:Int)<(x.zF.length:Int)):=by omega
  obtain⟨lty,csy',hry,hcy⟩:=HAy.o;obtain⟨u3,rfl,hu3⟩:=xR.yT hry;have Ru3:=xN (T.xB.1 hu3);obtain⟨ua3,uc3,rfl,ul3,um3,ux3⟩:=Ru3.o.open_;have HXu3:=xN ux3;clear ux3 hu3;have HCy:=xN hcy;clear hry hcy;obtain⟨cy0,cy1,cy2,cy3⟩:=pc4 HB.o lty HCy.o;have hq1:b1<wr.heap.size:=zW hb1 HB.o.size;by_cases q5:yCz y (x.zY.length:Int)
  rotate_left
  ·have a5:=xH q5;have Q5:=xN q5;clear q5
   go_wp2;have g0:=yK p0;have g1:=yK p1;have g2:=yK cy0;have g3:=yK cy1;refine rB ?_
   repeat(first|go_big_quiet_skip|(go_big_quiet_want;go_big_quiet_op;first|go_big_quiet_on|(apply Exists.intro;refine⟨fun _=>?_,?_⟩;(· (go_at_call 136;exact Calls.yQ ((c_l06Ok y _ _ _ _ zM zM (T.at_below HAy.o (yO HB.o HB.o.size (yM wr _)))).mono (fun e w' h=>by(first|rw[a5] at h|skip);exact h))));go_big_quiet_on)))
   refine wpQuiet_nil ?_;rintro w9 ⟨uu,rfl⟩;have hb9:=yM wr uu;generalize bel wr uu=w9 at *;have HB9:=xN (yO HB.o HB.o.size hb9);clear g0 g1 g2 g3;go_wp2;go_ret
   exact⟨yN (xH fun h=>Q5.o (h.nodes k y HG.o).1).symm,HB9.o⟩
  have a5:=xI q5;have Q5:=xN q5;clear q5;by_cases q6:y.zD=1
  rotate_left
  ·have a6:(y.zD == 1)=false:=yZ q6;have Q6:=xN q6;clear q6
   go_wp2;have g0:=yK p0;have g1:=yK p1;have g2:=yK cy0;have g3:=yK cy1;refine rB ?_
   repeat(first|go_big_quiet_skip|(go_big_quiet_want;go_big_quiet_op;first|go_big_quiet_on|(apply Exists.intro;refine⟨fun _=>?_,?_⟩;(· (go_at_call 136;exact Calls.yQ ((c_l06Ok y _ _ _ _ zM zM (T.at_below HAy.o (yO HB.o HB.o.size (yM wr _)))).mono (fun e w' h=>by(first|rw[a5] at h|skip);exact h))));go_big_quiet_on)))
   refine wpQuiet_nil ?_;rintro w9 ⟨uu,rfl⟩;have hb9:=yM wr uu;generalize bel wr uu=w9 at *;have HB9:=xN (yO HB.o HB.o.size hb9);clear g0 g1 g2 g3;have HW9:=xN (yO HW.o HW.o.size hb9);clear hb9;clear p0 p1 p2 p3 lb cy0 cy1 cy2 cy3 a5;obtain⟨p0,p1,p2,p3⟩:=pc4 HB9.o HL.o HCC.o;have lb:b<w9.heap.size:=zW HL.o HB9.o.size;obtain⟨cy0,cy1,cy2,cy3⟩:=pc4 HB9.o lty HCy.o;go_wp2;clear p0 p1 p2 p3 lb cy0 cy1 cy2 cy3
   go_loopw [6] (fun i ws=> ∃ m:Nat,m≤y.zO.length∧i= .int .i64 m∧vU y.zO (fun _ f=>f≤(x.zF.length:Int) - 1) m∧Below w9.heap.size w9 ws) (fun i _=>y.zO.length - (intOf i).toNat)
   case atStart=>exact⟨0,Nat.zero_le _,rfl,vU.zero,zR⟩
   case round=>
    obtain⟨m,hm,rfl,hs2,hbs⟩:=hrel;have HS2:=xN hs2;have HB4:=xN (yO HB9.o HB9.o.size hbs);have HW4:=xN (yO HW9.o HW9.o.size hbs);have HS4:=xN hbs;clear hs2 hbs;obtain⟨cy0,cy1,cy2,cy3⟩:=pc4 HB4.o lty HCy.o;obtain⟨p0,p1,p2,p3⟩:=pc4 HB4.o HL.o HCC.o;have lb:b<wr.heap.size:=zW HL.o HB4.o.size;by_cases hltm:m<y.zO.length
    rotate_left
    ·have hall:=xN (HS2.o.all zM);clear HS2
     go_wp2
     go_roundw
     case rel=>exact⟨k+1,by omega,by go_num,HS.o.step HG.o ⟨Q5.o,fun i f hf=>⟨(xK.1 (Q5.o.from_ i f hf)).1,hall.o i f hf⟩,fun h=>absurd h Q6.o⟩,HW4.o⟩
     case measure=>simp[intOf];omega
    have hgm:=gE hltm;obtain⟨b3,off3,hA,hb3,hcf⟩:=HXu3.o m y.zO[m] hgm;subst hA;generalize y.zO[m]=f at *;have HF:=xN hgm;clear hgm;have cf:=(HB4.o.cell hb3).trans hcf;have hq3:b3<wr.heap.size:=zW hb3 HB4.o.size;by_cases s1:(x.zF.length:Int)≤f
    ·have s1':decide ((x.zF.length:Int)≤f)=true:=decide_eq_true s1;have S1:=xN s1
     go_wp2;go_ret
     exact⟨yN (xH fun h=>by have:=(h.nodes k y HG.o).2.1 m f HF.o;have:=S1.o;omega).symm,HB4.o⟩
    have s1':decide ((x.zF.length:Int)≤f)=false:=decide_eq_false s1;go_wp2
    go_roundw
    case rel=>exact⟨m+1,by omega,by go_num,HS2.o.step HF.o zM,HS4.o⟩
    case measure=>simp[intOf];omega
  have a6:(y.zD == 1)=true:=xA q6;have Q6:=xN q6;clear q6;by_cases q7:x.zU≤y.fA
  ·have a7:decide (x.zU≤y.fA)=true:=decide_eq_true q7;have Q7:=xN q7
   go_wp2;have g0:=yK p0;have g1:=yK p1;have g2:=yK cy0;have g3:=yK cy1;refine rB ?_
   repeat(first|go_big_quiet_skip|(go_big_quiet_want;go_big_quiet_op;first|go_big_quiet_on|(apply Exists.intro;refine⟨fun _=>?_,?_⟩;(· (go_at_call 136;exact Calls.yQ ((c_l06Ok y _ _ _ _ zM zM (T.at_below HAy.o (yO HB.o HB.o.size (yM wr _)))).mono (fun e w' h=>by(first|rw[a5] at h|skip);exact h))));go_big_quiet_on)))
   refine wpQuiet_nil ?_;rintro w9 ⟨uu,rfl⟩;have hb9:=yM wr uu;generalize bel wr uu=w9 at *;have HB9:=xN (yO HB.o HB.o.size hb9);clear g0 g1 g2 g3;go_wp2;go_ret
   exact⟨yN (xH fun h=>by have:=(h.nodes k y HG.o).2.2 Q6.o;have:=Q7.o;omega).symm,HB9.o⟩
  have a7:decide (x.zU≤y.fA)=false:=decide_eq_false q7;have Q7:=xN q7;go_wp2;have g0:=yK p0;have g1:=yK p1;have g2:=yK cy0;have g3:=yK cy1;refine rB ?_
  repeat(first|go_big_quiet_skip|(go_big_quiet_want;go_big_quiet_op;first|go_big_quiet_on|(apply Exists.intro;refine⟨fun _=>?_,?_⟩;(· (go_at_call 136;exact Calls.yQ ((c_l06Ok y _ _ _ _ zM zM (T.at_below HAy.o (yO HB.o HB.o.size (yM wr _)))).mono (fun e w' h=>by(first|rw[a5] at h|skip);exact h))));go_big_quiet_on)))
  refine wpQuiet_nil ?_;rintro w9 ⟨uu,rfl⟩;have hb9:=yM wr uu;generalize bel wr uu=w9 at *;have HB9:=xN (yO HB.o HB.o.size hb9);clear g0 g1 g2 g3;have HW9:=xN (yO HW.o HW.o.size hb9);clear hb9;clear p0 p1 p2 p3 lb cy0 cy1 cy2 cy3 a5;obtain⟨p0,p1,p2,p3⟩:=pc4 HB9.o HL.o HCC.o;have lb:b<w9.heap.size:=zW HL.o HB9.o.size;obtain⟨cy0,cy1,cy2,cy3⟩:=pc4 HB9.o lty HCy.o;go_wp2;clear p0 p1 p2 p3 lb cy0 cy1 cy2 cy3
  go_loopw [6] (fun i ws=> ∃ m:Nat,m≤y.zO.length∧i= .int .i64 m∧vU y.zO (fun _ f=>f≤(x.zF.length:Int) - 1) m∧Below w9.heap.size w9 ws) (fun i _=>y.zO.length - (intOf i).toNat)
  case atStart=>exact⟨0,Nat.zero_le _,rfl,vU.zero,zR⟩
  case round=>
   obtain⟨m,hm,rfl,hs2,hbs⟩:=hrel;have HS2:=xN hs2;have HB4:=xN (yO HB9.o HB9.o.size hbs);have HW4:=xN (yO HW9.o HW9.o.size hbs);have HS4:=xN hbs;clear hs2 hbs;obtain⟨cy0,cy1,cy2,cy3⟩:=pc4 HB4.o lty HCy.o;obtain⟨p0,p1,p2,p3⟩:=pc4 HB4.o HL.o HCC.o;have lb:b<wr.heap.size:=zW HL.o HB4.o.size;by_cases hltm:m<y.zO.length
   rotate_left
   ·have hall:=xN (HS2.o.all zM);clear HS2
    go_wp2
    go_roundw
    case rel=>exact⟨k+1,by omega,by go_num,HS.o.step HG.o ⟨Q5.o,fun i f hf=>⟨(xK.1 (Q5.o.from_ i f hf)).1,hall.o i f hf⟩,fun _=>by have:=Q7.o;omega⟩,HW4.o⟩
    case measure=>simp[intOf];omega
   have hgm:=gE hltm;obtain⟨b3,off3,hA,hb3,hcf⟩:=HXu3.o m y.zO[m] hgm;subst hA;generalize y.zO[m]=f at *;have HF:=xN hgm;clear hgm;have cf:=(HB4.o.cell hb3).trans hcf;have hq3:b3<wr.heap.size:=zW hb3 HB4.o.size;by_cases s1:(x.zF.length:Int)≤f
   ·have s1':decide ((x.zF.length:Int)≤f)=true:=decide_eq_true s1;have S1:=xN s1
    go_wp2;go_ret
    exact⟨yN (xH fun h=>by have:=(h.nodes k y HG.o).2.1 m f HF.o;have:=S1.o;omega).symm,HB4.o⟩
   have s1':decide ((x.zF.length:Int)≤f)=false:=decide_eq_false s1;go_wp2
   go_roundw
   case rel=>exact⟨m+1,by omega,by go_num,HS2.o.step HF.o zM,HS4.o⟩
   case measure=>simp[intOf];omega
end
end Go.Proofs.YtdcofkabaigjpaaGreat
