/- The range of an edit, in plain words. Contracts: states and what rings, by the program. Contracts: the fields of an edit, program. Contract: l31Fields. Contracts: states, by the reference. Contracts: sums and delays of signals, both sides. Contracts: delays of signals; what a node gets in a frame, both sides. Contract: what a node gets in a frame, by the program's player. Regions that draw their order and end in one store over a cell that they have loaded. No program is named here. -/
import Derived.Test.YtoibekfhepnedaaGreatQArExactMix
import Derived.Test.YtoibekfhepnedaaGreatQAlExactMix
import Derived.Test.YtoibekfhepnedaaGreatQAcExactMix
import Derived.Test.YtoibekfhepnedaaGreatQAjExactMix
import Derived.Test.YtoibekfhepnedaaGreatQAfExactMix
import Derived.Test.YtoibekfhepnedaaGreatQAnExactMix
import Derived.Test.YtoibekfhepnedaaGreatQAqExactMix
import Derived.Test.YtoibekfhepnedaaGreatQApExactMix
import Derived.Deep.RegionHeldLaw
import Derived.StillTail
set_option linter.unusedVariables false
set_option linter.unusedSimpArgs false
set_option maxHeartbeats 2000000
set_option maxRecDepth 100000
namespace Go.Proofs.YtoibekfhepnedaaGreat
section
open Go.RowKit
def vV (x:xR):List Int:=
 if x.zG=6 then List.replicate x.fA.toNat 0
 else if x.zG=17 then List.replicate x.fB.toNat 0
 else if x.zG=7∨x.zG=8∨x.zG=16 then [0]
 else if x.zG=12∨x.zG=14 then [x.fA]
 else []
end
section
open Go.RowKit
theorem uCz (E:TypeId) (w:World) (n:Int):OwI E (w.alloc (.cells #[.int .i64 n] E)) w.heap.size (.slice (some ⟨w.heap.size,0,none⟩) 1 1) [n]:=
 ⟨rfl,.inr ⟨w.heap.size,1,#[.int .i64 n],rfl,zJ,heap_alloc_new w _,zJ,by decide,rfl,by simp⟩⟩
theorem vLz (n:Nat) (w:World) (hn:n≤1048576):Calls Tryz.prog 193 #[.int .i64 (n:Int)] w fun e w'=>e= .returned (.slice (some ⟨w.heap.size,0,none⟩) n n)∧OwI 2 w' w.heap.size (.slice (some ⟨w.heap.size,0,none⟩) n n) (List.replicate n 0)∧Below w.heap.size w w':=by
 obtain⟨i0,hi,hz0,hz1,hz2⟩:=info_parts xWz
 go_enter Tryz.func193,Tryz.ntmps193
 go_wp2_with (at_make;refine wpList_make_full _ rfl _ _ _ rfl w.heap.size 2 i0 _ 1 Tryz.underlying26 hi hz0 hz1 .i64 .i64 _ _ n rfl rfl rfl rfl (by rw[hz2];omega) (by unfold maxLen;omega) zJ ?_;intro w1 hown1 hg1)
 have ho1:OwI 2 w1 w.heap.size _ _:=OwI.made _ w1 (n:=n) hg1.size (by unfold maxLen;omega) 0 hown1;have hb1:Below w.heap.size w w1:=zR.grown hg1 zJ (by simp);clear hown1 hg1;have HO:=xN ho1;have HB:=xN hb1;clear ho1 hb1;go_wp2;go_ret
 exact⟨rfl,HO.out,HB.out⟩
theorem c_start (x:xR) (cs:List Value) (w:World) (h6:x.zG=6→0≤x.fA∧x.fA≤16) (h17:x.zG=17→0≤x.fB∧x.fB≤16) (h:T.rds w x.fs cs):Calls Tryz.prog 228 #[.agg cs.toArray] w fun e w'=> ∃ v,e= .returned v∧OwI 2 w' w.heap.size v (vV x)∧Below w.heap.size w w':=by
 obtain⟨v3,rfl,h3⟩:=xR.yV h;clear h;obtain⟨va3,vc3,rfl,vl3,vm3,R3,HX3⟩:=oI h3;clear h3;have HB0:=xN (show Below w.heap.size w (w.alloc (.cells #[.int .i64 x.zG,.int .i64 x.fA,.int .i64 x.fB,(.slice va3 x.zK.length vc3)] 167)) from zR.alloc zJ _);have HK0:=xN (Bk.born w 167 #[.int .i64 x.zG,.int .i64 x.fA,.int .i64 x.fB,(.slice va3 x.zK.length vc3)]);have H6:=xN h6;have H17:=xN h17;clear h6 h17;have ZE:=xN (fun(a:Int) (n:Nat) (h:a=(n:Int)) (hn:n≤1048576) (W:World)=>(h ▸ vLz n W hn:Calls Tryz.prog 193 #[.int .i64 a] W fun e w'=>e= .returned (.slice (some ⟨W.heap.size,0,none⟩) n n)∧OwI 2 w' W.heap.size (.slice (some ⟨W.heap.size,0,none⟩) n n) (List.replicate n 0)∧Below W.heap.size W w'))
 go_enter Tryz.func228,Tryz.ntmps228
 by_cases k6:x.zG=6
 ·
  have q6:(x.zG == 6)=true:=xA k6;obtain⟨m,hm⟩: ∃ m:Nat,x.fA=(m:Int):=⟨x.fA.toNat,by have:=H6.out k6;omega⟩;have h16:=H6.out k6;have HM:=xN hm;clear hm;have hm16:m≤16:=by have:=HM.out;omega
  have HS:Sec (vV x=List.replicate m 0):=xN (by unfold vV;rw[if_pos k6,HM.out,Int.toNat_natCast]);clear k6 h16;go_wp2_with fail
  refine(ZE.out _ _ HM.out zM _).mono ?_;rintro e w1 ⟨rfl,ho,hb⟩;have HO:=xN (OwI.more ho HB0.out.size);have HB:=xN (yQ HB0.out HB0.out.size hb);clear ho hb;go_wp2;go_ret
  exact⟨.slice (some ⟨w.heap.size+1,0,none⟩) m m,rfl,by rw[HS.out];simpa using HO.out,HB.out⟩
 have q6:(x.zG == 6)=false:=yZ k6;by_cases k17:x.zG=17
 ·
  have q17:(x.zG == 17)=true:=xA k17;obtain⟨m,hm⟩: ∃ m:Nat,x.fB=(m:Int):=⟨x.fB.toNat,by have:=H17.out k17;omega⟩;have h16:=H17.out k17;have HM:=xN hm;clear hm;have hm16:m≤16:=by have:=HM.out;omega
  have HS:Sec (vV x=List.replicate m 0):=xN (by unfold vV;rw[if_neg k6,if_pos k17,HM.out,Int.toNat_natCast]);clear k6 k17 h16;go_wp2_with fail
  refine(ZE.out _ _ HM.out zM _).mono ?_;rintro e w1 ⟨rfl,ho,hb⟩;have HO:=xN (OwI.more ho HB0.out.size);have HB:=xN (yQ HB0.out HB0.out.size hb);clear ho hb;go_wp2;go_ret
  exact⟨.slice (some ⟨w.heap.size+1,0,none⟩) m m,rfl,by rw[HS.out];simpa using HO.out,HB.out⟩
 have q17:(x.zG == 17)=false:=yZ k17;by_cases k7:x.zG=7
 ·
  have q7:(x.zG == 7)=true:=xA k7;have HS:Sec (vV x=List.replicate 1 0):=xN (by unfold vV;rw[if_neg k6,if_neg k17,if_pos zM];rfl);clear k6 k17 k7;go_wp2_with fail
  refine(ZE.out _ _ (show (1:Int)=((1:Nat):Int) from rfl) zM _).mono ?_;rintro e w1 ⟨rfl,ho,hb⟩;have HO:=xN (OwI.more ho HB0.out.size);have HB:=xN (yQ HB0.out HB0.out.size hb);clear ho hb;go_wp2;go_ret
  exact⟨.slice (some ⟨w.heap.size+1,0,none⟩) 1 1,rfl,by rw[HS.out];simpa using HO.out,HB.out⟩
 have q7:(x.zG == 7)=false:=yZ k7;by_cases k8:x.zG=8
 ·
  have q8:(x.zG == 8)=true:=xA k8;have HS:Sec (vV x=List.replicate 1 0):=xN (by unfold vV;rw[if_neg k6,if_neg k17,if_pos zM];rfl);clear k6 k17 k8 k7;go_wp2_with fail
  refine(ZE.out _ _ (show (1:Int)=((1:Nat):Int) from rfl) zM _).mono ?_;rintro e w1 ⟨rfl,ho,hb⟩;have HO:=xN (OwI.more ho HB0.out.size);have HB:=xN (yQ HB0.out HB0.out.size hb);clear ho hb;go_wp2;go_ret
  exact⟨.slice (some ⟨w.heap.size+1,0,none⟩) 1 1,rfl,by rw[HS.out];simpa using HO.out,HB.out⟩
 have q8:(x.zG == 8)=false:=yZ k8;by_cases k16:x.zG=16
 ·
  have q16:(x.zG == 16)=true:=xA k16;have HS:Sec (vV x=List.replicate 1 0):=xN (by unfold vV;rw[if_neg k6,if_neg k17,if_pos zM];rfl);clear k6 k17 k16 k7 k8;go_wp2_with fail
  refine(ZE.out _ _ (show (1:Int)=((1:Nat):Int) from rfl) zM _).mono ?_;rintro e w1 ⟨rfl,ho,hb⟩;have HO:=xN (OwI.more ho HB0.out.size);have HB:=xN (yQ HB0.out HB0.out.size hb);clear ho hb;go_wp2;go_ret
  exact⟨.slice (some ⟨w.heap.size+1,0,none⟩) 1 1,rfl,by rw[HS.out];simpa using HO.out,HB.out⟩
 have q16:(x.zG == 16)=false:=yZ k16;by_cases k12:x.zG=12
 ·
  have q12:(x.zG == 12)=true:=xA k12;have HS:Sec (vV x= [x.fA]):=xN (by unfold vV;rw[if_neg k6,if_neg k17,if_neg zM,if_pos zM]);clear k6 k17 k7 k8 k16 k12;have HB:=xN (HB0.out.alloc HB0.out.size (.cells #[.int .i64 x.fA] 2));have HO:Sec (OwI 2 ((w.alloc (.cells #[.int .i64 x.zG,.int .i64 x.fA,.int .i64 x.fB,(.slice va3 x.zK.length vc3)] 167)).alloc (.cells #[.int .i64 x.fA] 2)) w.heap.size (.slice (some ⟨(w.alloc (.cells #[.int .i64 x.zG,.int .i64 x.fA,.int .i64 x.fB,(.slice va3 x.zK.length vc3)] 167)).heap.size,0,none⟩) 1 1) [x.fA]):=xN (OwI.more (uCz _ _ _) HB0.out.size);go_wp2;go_ret
  exact⟨.slice (some ⟨w.heap.size+1,0,none⟩) 1 1,rfl,by rw[HS.out];simpa using HO.out,HB.out⟩
 have q12:(x.zG == 12)=false:=yZ k12;by_cases k14:x.zG=14
 ·
  have q14:(x.zG == 14)=true:=xA k14;have HS:Sec (vV x= [x.fA]):=xN (by unfold vV;rw[if_neg k6,if_neg k17,if_neg zM,if_pos zM]);clear k6 k17 k7 k8 k16 k14 k12;have HB:=xN (HB0.out.alloc HB0.out.size (.cells #[.int .i64 x.fA] 2));have HO:Sec (OwI 2 ((w.alloc (.cells #[.int .i64 x.zG,.int .i64 x.fA,.int .i64 x.fB,(.slice va3 x.zK.length vc3)] 167)).alloc (.cells #[.int .i64 x.fA] 2)) w.heap.size (.slice (some ⟨(w.alloc (.cells #[.int .i64 x.zG,.int .i64 x.fA,.int .i64 x.fB,(.slice va3 x.zK.length vc3)] 167)).heap.size,0,none⟩) 1 1) [x.fA]):=xN (OwI.more (uCz _ _ _) HB0.out.size);go_wp2;go_ret
  exact⟨.slice (some ⟨w.heap.size+1,0,none⟩) 1 1,rfl,by rw[HS.out];simpa using HO.out,HB.out⟩
 have q14:(x.zG == 14)=false:=yZ k14;have HS:Sec (vV x=List.replicate 0 0):=xN (by unfold vV;rw[if_neg k6,if_neg k17,if_neg zM,if_neg zM];rfl);clear k6 k17 k7 k8 k16 k12 k14;go_wp2_with fail
 refine(ZE.out _ _ (show (0:Int)=((0:Nat):Int) from rfl) zM _).mono ?_;rintro e w1 ⟨rfl,ho,hb⟩;have HO:=xN (OwI.more ho HB0.out.size);have HB:=xN (yQ HB0.out HB0.out.size hb);clear ho hb;go_wp2;go_ret
 exact⟨.slice (some ⟨w.heap.size+1,0,none⟩) 0 0,rfl,by rw[HS.out];simpa using HO.out,HB.out⟩
end
section
open Go.RowKit
end
section
open Go.RowKit
end
section
open Go.RowKit
theorem wWz (n:Nat) (w:World) (hn:n≤1048576):Calls Tryz.prog 184 #[.int .i64 (n:Int)] w fun e w'=> ∃ v',e= .returned v'∧OwI 2 w' w.heap.size v' (List.replicate n 0)∧Below w.heap.size w w':=by
 go_enter Tryz.func184,Tryz.ntmps184
 go_wp2
 go_loopw [0,3] (fun m o wr=> ∃ k:Nat,k≤n∧m= .int .i64 (k:Int)∧OwI 2 wr w.heap.size o (List.replicate (n - k) 0)∧Below w.heap.size w wr) (fun m _ _=>(intOf m).toNat)
 case atStart=>exact⟨n,zJ,rfl,by rw[Nat.sub_self];exact vL w,zR.alloc zJ _⟩
 case round=>
  obtain⟨k,hk,rfl,ho,hb⟩:=hrel;have HO:=xN ho;have HB:=xN hb;have hsz:=hb.size;clear ho hb;by_cases h0:0<k
  ·have HR:=xN (show List.replicate (n - k) (0:Int)++ [0]=List.replicate (n - (k - 1)) 0 by
    rw[show n - (k - 1)=(n - k)+1 by omega,←List.replicate_succ'])
   have hl:(List.replicate (n - k) (0:Int)).length+1≤17592186044416:=by rw[List.length_replicate];omega
   go_wp2_with (at_builtin;refine zDz rfl _ _ rfl rfl HO.out rfl hl hsz ?_;intro v5 w5 ho5 hg5 hv5;have hb5:=vH HB.out HO.out hg5 zJ hsz;have HO5:=xN ho5;have HB5:=xN hb5;clear ho5 hb5 hg5 hv5)
   go_roundw
   case rel=>exact⟨k - 1,by omega,by go_num,by rw[←HR.out];exact HO5.out,HB5.out⟩
   case measure=>first|(simp[intOf];done)|(simp[intOf];omega)
  ·obtain rfl:k=0:=by omega
   go_wp2;go_ret
   exact⟨_,rfl,by have:=HO.out;rw[Nat.sub_zero] at this;exact this,HB.out⟩
theorem c_l06Start (x:xR) (b o:Nat) (w:World) (h6:x.zG=6→0≤x.fA∧x.fA≤16) (h17:x.zG=17→0≤x.fB∧x.fB≤16) (h:T.at w x.fs b o):Calls Tryz.prog 270 #[.pointer (some ⟨b,o,none⟩)] w fun e w'=> ∃ v,e= .returned v∧OwI 2 w' w.heap.size v (vV x)∧Below w.heap.size w w':=by
 have HAT:=xN h;obtain⟨hlt0,cs,hr,hc⟩:=h;obtain⟨v3,rfl,h3⟩:=xR.yV hr;clear hr;obtain⟨va3,vc3,rfl,vl3,vm3,R3,HX3⟩:=oI h3;clear h3;have HL:=xN hlt0;have HCC:=xN hc;have HB0:=xN (Below.refl w.heap.size w);clear hlt0 hc;have H6:=xN h6;have H17:=xN h17;clear h6 h17;have ZE:=xN (fun(a:Int) (n:Nat) (h:a=(n:Int)) (hn:n≤1048576) (W:World)=>(h ▸ wWz n W hn:Calls Tryz.prog 184 #[.int .i64 a] W fun e w'=> ∃ v',e= .returned v'∧OwI 2 w' W.heap.size v' (List.replicate n 0)∧Below W.heap.size W w'));have p0:w.cell? ⟨b,o,none⟩=some (.int .i64 x.zG):=(HB0.out.cell HL.out).trans (HCC.out 0 _ rfl);have p1:w.cell? ⟨b,o+1,none⟩=some (.int .i64 x.fA):=(HB0.out.cell HL.out).trans (HCC.out 1 _ rfl);have p2:w.cell? ⟨b,o+2,none⟩=some (.int .i64 x.fB):=(HB0.out.cell HL.out).trans (HCC.out 2 _ rfl);have p3:w.cell? ⟨b,o+3,none⟩=some (.slice va3 x.zK.length vc3):=(HB0.out.cell HL.out).trans (HCC.out 3 _ rfl);have lb:b<w.heap.size:=zW HL.out HB0.out.size
 go_enter Tryz.func270,Tryz.ntmps270
 by_cases k6:x.zG=6
 ·
  have q6:(x.zG == 6)=true:=xA k6;obtain⟨m,hm⟩: ∃ m:Nat,x.fA=(m:Int):=⟨x.fA.toNat,by have:=H6.out k6;omega⟩;have h16:=H6.out k6;have HM:=xN hm;clear hm;have hm16:m≤16:=by have:=HM.out;omega
  have HS:Sec (vV x=List.replicate m 0):=xN (by unfold vV;rw[if_pos k6,HM.out,Int.toNat_natCast]);clear k6 h16;go_wp2_with fail
  refine(ZE.out _ _ HM.out zM _).mono ?_;rintro e w1 ⟨v,rfl,ho,hb⟩;have HO:=xN ho;have HB:=xN hb;clear ho hb;go_wp2;go_ret
  exact⟨_,rfl,by rw[HS.out];exact HO.out,HB.out⟩
 have q6:(x.zG == 6)=false:=yZ k6;by_cases k17:x.zG=17
 ·
  have q17:(x.zG == 17)=true:=xA k17;obtain⟨m,hm⟩: ∃ m:Nat,x.fB=(m:Int):=⟨x.fB.toNat,by have:=H17.out k17;omega⟩;have h16:=H17.out k17;have HM:=xN hm;clear hm;have hm16:m≤16:=by have:=HM.out;omega
  have HS:Sec (vV x=List.replicate m 0):=xN (by unfold vV;rw[if_neg k6,if_pos k17,HM.out,Int.toNat_natCast]);clear k6 k17 h16;go_wp2_with fail
  refine(ZE.out _ _ HM.out zM _).mono ?_;rintro e w1 ⟨v,rfl,ho,hb⟩;have HO:=xN ho;have HB:=xN hb;clear ho hb;go_wp2;go_ret
  exact⟨_,rfl,by rw[HS.out];exact HO.out,HB.out⟩
 have q17:(x.zG == 17)=false:=yZ k17;by_cases k7:x.zG=7
 ·
  have q7:(x.zG == 7)=true:=xA k7;have HS:Sec (vV x= [0]):=xN (by unfold vV;rw[if_neg k6,if_neg k17,if_pos zM]);clear k6 k17 k7;go_wp2;go_ret
  exact⟨_,rfl,by rw[HS.out];exact uCz _ _ _,zR.alloc zJ _⟩
 have q7:(x.zG == 7)=false:=yZ k7;by_cases k8:x.zG=8
 ·
  have q8:(x.zG == 8)=true:=xA k8;have HS:Sec (vV x= [0]):=xN (by unfold vV;rw[if_neg k6,if_neg k17,if_pos zM]);clear k6 k17 k8 k7;go_wp2;go_ret
  exact⟨_,rfl,by rw[HS.out];exact uCz _ _ _,zR.alloc zJ _⟩
 have q8:(x.zG == 8)=false:=yZ k8;by_cases k16:x.zG=16
 ·
  have q16:(x.zG == 16)=true:=xA k16;have HS:Sec (vV x= [0]):=xN (by unfold vV;rw[if_neg k6,if_neg k17,if_pos zM]);clear k6 k17 k16 k7 k8;go_wp2;go_ret
  exact⟨_,rfl,by rw[HS.out];exact uCz _ _ _,zR.alloc zJ _⟩
 have q16:(x.zG == 16)=false:=yZ k16;by_cases k12:x.zG=12
 ·
  have q12:(x.zG == 12)=true:=xA k12;have HS:Sec (vV x= [x.fA]):=xN (by unfold vV;rw[if_neg k6,if_neg k17,if_neg zM,if_pos zM]);clear k6 k17 k12 k7 k8 k16;go_wp2;go_ret
  exact⟨_,rfl,by rw[HS.out];exact uCz _ _ _,zR.alloc zJ _⟩
 have q12:(x.zG == 12)=false:=yZ k12;by_cases k14:x.zG=14
 ·
  have q14:(x.zG == 14)=true:=xA k14;have HS:Sec (vV x= [x.fA]):=xN (by unfold vV;rw[if_neg k6,if_neg k17,if_neg zM,if_pos zM]);clear k6 k17 k14 k7 k8 k16 k12;go_wp2;go_ret
  exact⟨_,rfl,by rw[HS.out];exact uCz _ _ _,zR.alloc zJ _⟩
 have q14:(x.zG == 14)=false:=yZ k14;have HS:Sec (vV x= []):=xN (by unfold vV;rw[if_neg k6,if_neg k17,if_neg zM,if_neg zM]);clear k6 k17 k7 k8 k16 k12 k14;go_wp2;go_ret
 exact⟨_,rfl,by rw[HS.out];exact vL _,zR.alloc zJ _⟩
end
section
open Go.RowKit
def addN (a b:List Int) (g:Int) (k:Nat):List Int:=(List.range k).map fun(i:Nat)=>wrp (vF a (i:Int)+g * vF b (i:Int))
theorem addN_snoc (a b:List Int) (g:Int) (k:Nat):addN a b g (k+1)=addN a b g k++ [wrp (vF a (k:Int)+g * vF b (k:Int))]:=by
 unfold addN;rw[List.range_succ,List.map_append];rfl
theorem wXz (a b:List Int) (g:Int) (k:Nat):(addN a b g k).length=k:=by simp[addN]
def addZ (a b:List Int) (g:Int) (n k:Nat):List Int:=addN a b g k++List.replicate (n - k) 0
theorem length_addZ {a b:List Int} {g:Int} {n k:Nat} (h:k≤n):(addZ a b g n k).length=n:=by simp[addZ,wXz];omega
theorem addZ_none (a b:List Int) (g:Int) (n:Nat):addZ a b g n 0=List.replicate n 0:=by simp[addZ,addN]
theorem addZ_full (a b:List Int) (g:Int) (n:Nat):addZ a b g n n=addN a b g n:=by simp[addZ]
theorem addZ_set {a b:List Int} {g:Int} {n k:Nat} (h:k<n):(addZ a b g n k).set k (wrp (vF a (k:Int)+g * vF b (k:Int)))=addZ a b g n (k+1):=by
 unfold addZ;rw[addN_snoc,List.set_append_right _ _ (by rw[wXz];exact zJ),wXz,Nat.sub_self];have:n - k=(n - (k+1))+1:=by omega
 rw[this,List.replicate_succ,List.set_cons_zero];simp
theorem wrp_inner (x y:Int):wrp (x+wrp y)=wrp (x+y):=wrp_mod (by unfold wrp;omega)
theorem add_in {a b:List Int} {g:Int} (ha: ∀ x ∈ a,Smp x) (hb: ∀ x ∈ b,Smp x) (hg:Smp g) (k:Int):IntKind.i64.wrap (g * vF b k)=g * vF b k∧IntKind.i64.wrap (vF a k+g * vF b k)=vF a k+g * vF b k∧Smp (vF a k)∧Smp (vF b k):=by
 have h1:=wJz ha k;have h2:=wJz hb k;have h3:=zKy hg h2;refine⟨IntWalk.i64_in _ zM,IntWalk.i64_in _ (by unfold Smp at h1;omega),h1,h2⟩
theorem c_l03Add (v u:Value) (a b:List Int) (g:Int) (w:World) (ha:RdI w v a) (hb:RdI w u b) (sa: ∀ x ∈ a,Smp x) (sb: ∀ x ∈ b,Smp x) (sg:Smp g) (na:a.length≤1048576) (nb:b.length≤1048576):Calls Tryz.prog 186 #[v,u,.int .i64 g] w fun e w'=> ∃ v',e= .returned v'∧OwI 2 w' w.heap.size v' (addS a b g)∧Below w.heap.size w w':=by
 have HA:=xN ha;have HBB:=xN hb;obtain⟨A,cap,rfl,hl,hc,_⟩:=ha.open_;obtain⟨A2,cap2,rfl,hl2,hc2,_⟩:=hb.open_;clear ha hb;obtain⟨n,hn⟩: ∃ n:Nat,max a.length b.length=n:=⟨_,rfl⟩;have hm:max (a.length:Int) (b.length:Int)=(n:Int):=by omega
 have hn2:n≤1048576:=by omega
 have HALL:=xN (show addN a b g n=addS a b g by rw[←hn];rfl);have HS:=xN (add_in sa sb sg);have HM:=xN hm;clear hm hn sa sb
 go_enter Tryz.func186,Tryz.ntmps186
 go_wp2_with (go_at_call 213;refine(c_qMax _ _ _).mono ?_;rintro e w' ⟨rfl,rfl⟩;rw[HM.out])
 have HO0:=xN (vL w);have HB0:=xN (show Below w.heap.size w (w.alloc (.cells #[] 2)) from zR.alloc zJ _)
 go_loopw [7,9] (fun r i wr=> ∃ k:Nat,k≤n∧i= .int .i64 (k:Int)∧OwI 2 wr w.heap.size r (addN a b g k)∧Below w.heap.size w wr) (fun _ i _=>n - (intOf i).toNat)
 case atStart=>exact⟨0,Nat.zero_le _,rfl,HO0.out,HB0.out⟩
 case round=>
  obtain⟨k,hk,rfl,ho,hbw⟩:=hrel;have HO:=xN ho;have HB:=xN hbw;have hsz:=hbw.size;clear ho hbw;by_cases hlt:k<n
  ·have hll:(addN a b g k).length+1≤17592186044416:=by rw[wXz];omega
   obtain⟨q1,q2,q3,q4⟩:=HS.out (k:Int);have HQ3:=xN q3;have HQ4:=xN q4;clear q1 q2 q3 q4;have HEQ:=xN (show wrp (vF a (k:Int)+wrp (vF b (k:Int) * g))=wrp (vF a (k:Int)+g * vF b (k:Int)) by rw[wrp_inner,Int.mul_comm (vF b (k:Int)) g]);go_wp2_with fail
   refine(c_l03At _ a _ _ (Rd.below HA.out HB.out)).mono ?_;rintro e w' ⟨rfl,rfl⟩;go_wp2_with fail
   refine(c_l03At _ b _ _ (Rd.below HBB.out HB.out)).mono ?_;rintro e w' ⟨rfl,rfl⟩;go_wp2_with (first|(go_at_call 239;refine(uQz _ _ _ HQ4.out sg).mono ?_;rintro e w' ⟨rfl,rfl⟩)|(go_at_call 238;refine(c_mAdd _ _ _ HQ3.out (zCz _)).mono ?_;rintro e w' ⟨rfl,rfl⟩;rw[HEQ.out])|(at_builtin;refine zDz (n:=wrp (vF a (k:Int)+g * vF b (k:Int))) rfl _ _ rfl rfl HO.out rfl hll hsz ?_;intro v8 w8 ho8 hg8 hv8;have HO8:=xN ho8;have HB8:=xN (HB.out.grown hg8 hsz (fun j hj=>(HO.out.lt j hj).1));clear ho8 hg8 hv8))
   go_roundw
   case rel=>exact⟨k+1,by omega,by go_num,by rw[addN_snoc];exact HO8.out,HB8.out⟩
   case measure=>simp[intOf];omega
  ·obtain rfl:k=n:=by omega
   go_wp2;go_ret
   exact⟨_,rfl,by rw[←HALL.out];exact HO.out,HB.out⟩
theorem c_addTimes (v u:Value) (a b:List Int) (g:Int) (w:World) (ha:RdI w v a) (hb:RdI w u b) (sa: ∀ x ∈ a,Smp x) (sb: ∀ x ∈ b,Smp x) (sg:Smp g) (na:a.length≤1048576) (nb:b.length≤1048576):Calls Tryz.prog 195 #[v,.int .i64 g,u] w fun e w'=> ∃ v',e= .returned v'∧OwI 2 w' w.heap.size v' (addS a b g)∧Below w.heap.size w w':=by
 have HA:=xN ha;have HBB:=xN hb;obtain⟨A,cap,rfl,hl,hc,_⟩:=ha.open_;obtain⟨A2,cap2,rfl,hl2,hc2,_⟩:=hb.open_;clear ha hb;obtain⟨n,hn⟩: ∃ n:Nat,max a.length b.length=n:=⟨_,rfl⟩;have hn2:n≤1048576:=by omega
 have HALL:=xN (show addN a b g n=addS a b g by rw[←hn];rfl);have HS:=xN (add_in sa sb sg);clear sa sb
 rcases Nat.lt_or_ge a.length b.length with hcmp|hcmp
 ·obtain rfl:n=b.length:=by omega
  have q0:(a.length:Int)<(b.length:Int)∨(b.length:Int)≤(a.length:Int):=by omega
  have q1:(a.length:Int)<(b.length:Int):=by omega
  have HZ:=xN (fun W=>uR b.length W hn2);clear hn q0
  go_enter Tryz.func195,Tryz.ntmps195
  go_wp2_with fail
  refine(vZ _ a _ HA.out).mono ?_;rintro e w' ⟨rfl,rfl⟩;go_wp2_with fail
  refine(vZ _ b _ HBB.out).mono ?_;rintro e w' ⟨rfl,rfl⟩;go_wp2_with fail
  refine(HZ.out _).mono ?_;rintro e w1 ⟨rfl,ho1,hb1⟩;generalize hnn:b.length=n at *;have HO1:=xN (show OwI 2 w1 w.heap.size (.slice (some ⟨w.heap.size,0,none⟩) n n) (addZ a b g n 0) by rw[addZ_none];exact ho1);have HB1:=xN hb1;clear ho1 hb1;go_wp2
  go_loopw [17] (fun i wr=> ∃ k:Nat,k≤n∧i= .int .i64 k∧OwI 2 wr w.heap.size (.slice (some ⟨w.heap.size,0,none⟩) n n) (addZ a b g n k)∧Below w.heap.size w wr) (fun i _=>n - (intOf i).toNat)
  case atStart=>exact⟨0,Nat.zero_le _,rfl,HO1.out,HB1.out⟩
  case round=>
   obtain⟨k,hk,rfl,ho,hbw⟩:=hrel;have HO:=xN ho;have HB:=xN hbw;have hsz:=hbw.size;clear ho hbw;by_cases hlt:k<n
   ·obtain⟨e1,e2,_,_⟩:=HS.out (k:Int)
    have fr:=HO.out.freeN k;have n1:((k:Int)<(n:Int)):=by omega
    have hlk:k<(addZ a b g n k).length:=by rw[length_addZ hk];exact hlt
    have hck:=xN (HO.out.yJz (gE hlk));have ck:=hck.out;generalize (addZ a b g n k)[k]=z0 at *;go_wp2_with fail
    refine(c_at _ a _ _ zM (Rd.below HA.out HB.out)).mono ?_;rintro e w' ⟨rfl,rfl⟩;go_wp2_with fail
    refine(c_at _ b _ _ zM (Rd.below HBB.out HB.out)).mono ?_;rintro e w' ⟨rfl,rfl⟩;go_wp2_with ((go_at_call 242;refine(yTz _ _).mono ?_;rintro e w' ⟨rfl,rfl⟩))
    have HO2:=xN (HO.out.setN k (wrp (vF a (k:Int)+g * vF b (k:Int))));have HG2:=xN (HO.out.grownN k (.int .i64 (wrp (vF a (k:Int)+g * vF b (k:Int)))))
    go_roundw
    case rel=>exact⟨k+1,by omega,by go_num,by rw[←addZ_set hlt];exact HO2.out,HB.out.grown HG2.out hsz (fun j hj=>by injection hj with hj;omega)⟩
    case measure=>simp[intOf];omega
   ·obtain rfl:k=n:=by omega
    go_wp2;go_ret
    exact⟨_,rfl,by rw[←HALL.out,←addZ_full];exact HO.out,HB.out⟩
 ·obtain rfl:n=a.length:=by omega
  have q0:(a.length:Int)<(b.length:Int)∨(b.length:Int)≤(a.length:Int):=by omega
  have q1:(b.length:Int)≤(a.length:Int):=by omega
  have HZ:=xN (fun W=>uR a.length W hn2);clear hn q0
  go_enter Tryz.func195,Tryz.ntmps195
  go_wp2_with fail
  refine(vZ _ a _ HA.out).mono ?_;rintro e w' ⟨rfl,rfl⟩;go_wp2_with fail
  refine(vZ _ b _ HBB.out).mono ?_;rintro e w' ⟨rfl,rfl⟩;go_wp2_with fail
  refine(HZ.out _).mono ?_;rintro e w1 ⟨rfl,ho1,hb1⟩;generalize hnn:a.length=n at *;have HO1:=xN (show OwI 2 w1 w.heap.size (.slice (some ⟨w.heap.size,0,none⟩) n n) (addZ a b g n 0) by rw[addZ_none];exact ho1);have HB1:=xN hb1;clear ho1 hb1;go_wp2
  go_loopw [17] (fun i wr=> ∃ k:Nat,k≤n∧i= .int .i64 k∧OwI 2 wr w.heap.size (.slice (some ⟨w.heap.size,0,none⟩) n n) (addZ a b g n k)∧Below w.heap.size w wr) (fun i _=>n - (intOf i).toNat)
  case atStart=>exact⟨0,Nat.zero_le _,rfl,HO1.out,HB1.out⟩
  case round=>
   obtain⟨k,hk,rfl,ho,hbw⟩:=hrel;have HO:=xN ho;have HB:=xN hbw;have hsz:=hbw.size;clear ho hbw;by_cases hlt:k<n
   ·obtain⟨e1,e2,_,_⟩:=HS.out (k:Int)
    have fr:=HO.out.freeN k;have n1:((k:Int)<(n:Int)):=by omega
    have hlk:k<(addZ a b g n k).length:=by rw[length_addZ hk];exact hlt
    have hck:=xN (HO.out.yJz (gE hlk));have ck:=hck.out;generalize (addZ a b g n k)[k]=z0 at *;go_wp2_with fail
    refine(c_at _ a _ _ zM (Rd.below HA.out HB.out)).mono ?_;rintro e w' ⟨rfl,rfl⟩;go_wp2_with fail
    refine(c_at _ b _ _ zM (Rd.below HBB.out HB.out)).mono ?_;rintro e w' ⟨rfl,rfl⟩;go_wp2_with ((go_at_call 242;refine(yTz _ _).mono ?_;rintro e w' ⟨rfl,rfl⟩))
    have HO2:=xN (HO.out.setN k (wrp (vF a (k:Int)+g * vF b (k:Int))));have HG2:=xN (HO.out.grownN k (.int .i64 (wrp (vF a (k:Int)+g * vF b (k:Int)))))
    go_roundw
    case rel=>exact⟨k+1,by omega,by go_num,by rw[←addZ_set hlt];exact HO2.out,HB.out.grown HG2.out hsz (fun j hj=>by injection hj with hj;omega)⟩
    case measure=>simp[intOf];omega
   ·obtain rfl:k=n:=by omega
    go_wp2;go_ret
    exact⟨_,rfl,by rw[←HALL.out,←addZ_full];exact HO.out,HB.out⟩
end
section
open Go.RowKit
theorem own_cut {E:TypeId} {w:World} {B g n cap m:Nat} {xs:List Int} (h:OwI E w B (.slice (some ⟨g,0,none⟩) n cap) xs) (hm:m≤xs.length):OwI E w B (.slice (some ⟨g,0,none⟩) m cap) (xs.take m):=by
 unfold OwI at *;have hl:(xs.take m).length=m:=by simp;omega
 refine⟨by simp,?_⟩
 rcases h.2 with ⟨h',_⟩|⟨g',cap',cur,h',hb,hg,hn,hmx,hsz,ht⟩
 ·cases h'
 ·injection h' with h1 h2 h3
  injection h1 with h1;injection h1 with h1;subst h1 h3;rw[hl];refine .inr ⟨g,cap,cur,rfl,hb,hg,by omega,hmx,hsz,?_⟩;rw[List.map_take,←ht,List.take_take]
  congr 1
  omega
theorem own_front {E:TypeId} {w:World} {B l c m:Nat} {t:Option Addr} {xs:List Int} (h:OwI E w B (.slice t l c) xs) (hm:m≤xs.length):OwI E w B (.slice t m c) (xs.take m):=by
 have h2:=h;unfold OwI at h2
 rcases h2.2 with ⟨h',h0⟩|⟨g',cap',cur,h',_⟩
 ·injection h' with h1 h3 h4
  subst h1 h4;obtain rfl:m=0:=by omega
  have:xs= []:=List.eq_nil_of_length_eq_zero h0;subst this;exact World.ownsRow_nil w B E 1
 ·injection h' with h1 h3 h4
  subst h1;exact own_cut h hm
theorem c_l27Late (v:Value) (a:List Int) (b n:Nat) (w:World) (ha:RdI w v a) (na:a.length≤1048576) (hb:b≤1048576) (hn:n≤1048576):Calls Tryz.prog 187 #[v,.int .i64 (b:Int),.int .i64 (n:Int)] w fun e w'=> ∃ v',e= .returned v'∧OwI 2 w' w.heap.size v' (zNz a b n)∧Below w.heap.size w w':=by
 have HA:=xN ha;clear ha
 go_enter Tryz.func187,Tryz.ntmps187
 go_wp2_with fail
 refine(wWz b _ hb).mono ?_;rintro e w1 ⟨v1,rfl,ho,hb1⟩;have HO1:=xN ho;have HB1:=xN hb1;have hs1:=hb1.size;clear ho hb1;go_wp2_with (at_builtin;refine yMy rfl _ _ rfl rfl HO1.out rfl (Rd.below HA.out HB1.out) (by rw[List.length_replicate];omega) hs1 ?_;intro v2 w2 ho2 hg2 hv2;have HB2:=xN (HB1.out.grown hg2 hs1 (fun j hj=>(HO1.out.lt j hj).1));have HO2:=xN ho2;clear ho2 hg2 hv2)
 refine(c_l03Slice _ (List.replicate b 0++a) 0 n _ (by decide) (by decide) hn HO2.out.rd).mono ?_;rintro e w3 ⟨v3,rfl,ho,hb⟩;have HO3:=xN (wU ho HB2.out.size);have HB3:=xN (yQ HB2.out HB2.out.size hb);clear ho hb;go_wp2;go_ret
 exact⟨_,rfl,HO3.out,HB3.out⟩
theorem c_delayed (v:Value) (a:List Int) (b:Nat) (w:World) (ha:RdI w v a) (na:a.length≤1048576) (hb:b≤1048576):Calls Tryz.prog 196 #[v,.int .i64 (b:Int)] w fun e w'=> ∃ v',e= .returned v'∧OwI 2 w' w.heap.size v' (zNz a b a.length)∧Below w.heap.size w w':=by
 have HA:=xN ha;obtain⟨A,cap,rfl,hl,hc,_⟩:=ha.open_;clear ha;have HT:=xN (lateF_take (a:=a) (b:=b))
 go_enter Tryz.func196,Tryz.ntmps196
 go_wp2_with fail
 refine(uR b _ hb).mono ?_;rintro e w1 ⟨rfl,ho,hb1⟩;have HO1:=xN ho;have HB1:=xN hb1;have hs1:=hb1.size;clear ho hb1;go_wp2_with (at_builtin;refine yMy rfl _ _ rfl rfl HO1.out rfl (Rd.below HA.out HB1.out) (by rw[List.length_replicate];omega) hs1 ?_;intro v2 w2 ho2 hg2 hv2;have HB2:=xN (HB1.out.grown hg2 hs1 (fun j hj=>(HO1.out.lt j hj).1));obtain⟨t2,l2,c2,rfl,hlc⟩: ∃ t l c,v2= .slice t l c∧(a.length:Int)≤(c:Int):=(by obtain⟨_,A2,cp,h,hle,_⟩:=OwI.rd ho2;refine⟨_,_,_,h,?_⟩;rw[List.length_append] at hle;omega);have HO2:=xN ho2;clear ho2 hg2 hv2)
 go_ret
 exact⟨_,rfl,by rw[←HT.out];exact own_front HO2.out (by rw[List.length_append];omega),HB2.out⟩
theorem c_l08In (x:xR) (b o:Nat) (frame vals:List Int) (fv vv:Value) (w:World) (h1:x.zG=1→0≤x.fA∧x.fA<(frame.length:Int)) (h2:Idx x.zK (vals.length:Int)) (hn:x.zK.length≤1048576) (hf:RdI w fv frame) (hv:RdI w vv vals) (h:T.at w x.fs b o):Calls Tryz.prog 284 #[.pointer (some ⟨b,o,none⟩),fv,vv] w fun e w'=> ∃ v,e= .returned v∧OwI 2 w' w.heap.size v (inF x frame vals)∧Below w.heap.size w w':=by
 have HAT:=xN h;obtain⟨hlt0,cs,hr,hc⟩:=h;obtain⟨v3,rfl,h3⟩:=xR.yV hr;clear hr;obtain⟨va3,vc3,rfl,vl3,vm3,R3,HX3⟩:=oI h3;clear h3;have HL:=xN hlt0;have HCC:=xN hc;have HB0:=xN (Below.refl w.heap.size w);clear hlt0 hc;have HF:=xN hf;have HV:=xN hv;have p0:w.cell? ⟨b,o,none⟩=some (.int .i64 x.zG):=(HB0.out.cell HL.out).trans (HCC.out 0 _ rfl);have p1:w.cell? ⟨b,o+1,none⟩=some (.int .i64 x.fA):=(HB0.out.cell HL.out).trans (HCC.out 1 _ rfl);have p2:w.cell? ⟨b,o+2,none⟩=some (.int .i64 x.fB):=(HB0.out.cell HL.out).trans (HCC.out 2 _ rfl);have p3:w.cell? ⟨b,o+3,none⟩=some (.slice va3 x.zK.length vc3):=(HB0.out.cell HL.out).trans (HCC.out 3 _ rfl);have lb:b<w.heap.size:=zW HL.out HB0.out.size;by_cases hk:x.zG=1
 ·
  obtain⟨n0,n1⟩:=h1 hk;have hj:x.fA.toNat<frame.length:=by omega
  obtain⟨bf,of,cf,rfl,lf,mf,lbf,hcf⟩:=xY hf zM;have hg:=gE hj;have c0:=hcf _ _ hg;have HE:=xN (show inF x frame vals= [frame[x.fA.toNat]] by unfold inF;rw[if_pos hk,List.getD_eq_getElem?_getD,hg];rfl);generalize frame[x.fA.toNat]=y at *;generalize inF x frame vals=IN at *;have q0:(x.zG == 1)=true:=xA hk;have HK_:=xN hk;clear hk hcf hg hf hv h1 h2
  go_enter Tryz.func284,Tryz.ntmps284
  go_wp2;go_ret
  exact⟨_,rfl,by rw[HE.out];exact lit1 w _,zR.alloc zJ _⟩
 ·
  have HE:=xN (show inF x frame vals=x.zK.map (fun i=>vals.getD i.toNat 0) by unfold inF;rw[if_neg hk]);generalize inF x frame vals=IN at *;have q0:(x.zG == 1)=false:=yZ hk;have H2:=xN h2;clear hk h1 h2 hf hv
  go_enter Tryz.func284,Tryz.ntmps284
  go_wp2_with (go_at_call 291;refine(c_l07Map _ _ x.zK vals _ R3.out HV.out H2.out hn).mono ?_;rintro e w1 ⟨v1,rfl,ho,hb⟩;have HO:=xN ho;have HB1:=xN hb;clear ho hb)
  go_ret
  exact⟨_,rfl,by rw[HE.out];exact HO.out,HB1.out⟩
end
section
open Go.RowKit
theorem c_inputs (x:xR) (cs:List Value) (b:Nat) (frame vals:List Int) (fv vv:Value) (w:World) (h1:x.zG=1→0≤x.fA∧x.fA<(frame.length:Int)) (h2:Idx x.zK (vals.length:Int)) (hn:x.zK.length≤1048576) (hc:w.cell? ⟨b,5,none⟩=some vv) (hf:RdI w fv frame) (hv:RdI w vv vals) (h:T.rds w x.fs cs):Calls Tryz.prog 287 #[.pointer (some ⟨b,0,none⟩),.agg cs.toArray,fv] w fun e w'=> ∃ v,e= .returned v∧OwI 2 w' w.heap.size v (inF x frame vals)∧Below w.heap.size w w':=by
 obtain⟨v3,rfl,h3⟩:=xR.yV h;clear h;obtain⟨va3,vc3,rfl,vl3,vm3,R3,HX3⟩:=oI h3;clear h3;have HB0:=xN (show Below w.heap.size w (w.alloc (.cells #[.int .i64 x.zG,.int .i64 x.fA,.int .i64 x.fB,(.slice va3 x.zK.length vc3)] 167)) from zR.alloc zJ _);have HK0:=xN (Bk.born w 167 #[.int .i64 x.zG,.int .i64 x.fA,.int .i64 x.fB,(.slice va3 x.zK.length vc3)]);have hlb:b<w.heap.size:=World.block_lt_of_cell? _ _ hc;have HF:=xN hf;have HV:=xN hv;have HC:=xN hc;obtain⟨AV,cV,rfl,hlV,hmV,_⟩:=hv.open_;by_cases hk:x.zG=1
 ·
  obtain⟨n0,n1⟩:=h1 hk;have hj:x.fA.toNat<frame.length:=by omega
  obtain⟨bf,of,cf,rfl,lf,mf,lbf,hcf⟩:=xY hf zM;have hg:=gE hj;have c0:=(HB0.out.cell lbf).trans (hcf _ _ hg);have HE:=xN (show inF x frame vals= [frame[x.fA.toNat]] by unfold inF;rw[if_pos hk,List.getD_eq_getElem?_getD,hg];rfl);generalize frame[x.fA.toNat]=y at *;generalize inF x frame vals=IN at *;have q0:(x.zG == 1)=true:=xA hk;have lbf2:bf<(w.alloc (.cells #[.int .i64 x.zG,.int .i64 x.fA,.int .i64 x.fB,(.slice va3 x.zK.length vc3)] 167)).heap.size:=zW lbf HB0.out.size;have HK_:=xN hk;clear hk hcf hg hf hv h1 h2 hc
  go_enter Tryz.func287,Tryz.ntmps287
  go_wp2;go_ret
  exact⟨_,rfl,by rw[HE.out];have h:=wU (lit1 (w.alloc (.cells #[.int .i64 x.zG,.int .i64 x.fA,.int .i64 x.fB,(.slice va3 x.zK.length vc3)] 167)) y) HB0.out.size;unfold OwI;simpa using h,HB0.out.alloc HB0.out.size _⟩
 ·
  have HE:=xN (show inF x frame vals=x.zK.map (fun i=>vals.getD i.toNat 0) by unfold inF;rw[if_neg hk]);generalize inF x frame vals=IN at *;have q0:(x.zG == 1)=false:=yZ hk;have H2:=xN h2;clear hk h1 h2 hf hv hc
  go_enter Tryz.func287,Tryz.ntmps287
  go_wp2;generalize (w.alloc (.cells #[.int .i64 x.zG,.int .i64 x.fA,.int .i64 x.fB,(.slice va3 x.zK.length vc3)] 167))=W at *;have HWd:=xN (show (∀ i,W.drew.cell? ⟨w.heap.size,i,none⟩= #[.int .i64 x.zG,.int .i64 x.fA,.int .i64 x.fB,(.slice va3 x.zK.length vc3)][i]?)∧W.drew.cell? ⟨b,5,none⟩=some (.slice AV vals.length cV) from⟨HK0.out.cell,(HB0.out.cell hlb).trans HC.out⟩);have HBd:=xN HB0.out.drew;have hsd:=HBd.out.size;have HKd:=xN (Bk.drew HK0.out);have HVd:=xN (RdI.below HV.out HBd.out);have HRd:=xN (Rd.below R3.out HBd.out);refine wH (fun w'=>(∀ i,w'.cell? ⟨w.heap.size,i,none⟩= #[.int .i64 x.zG,.int .i64 x.fA,.int .i64 x.fB,(.slice va3 x.zK.length vc3)][i]?)∧w'.cell? ⟨b,5,none⟩=some (.slice AV vals.length cV)) [] (by kernel_rfl) ?_ (fun hS0=>?_)
  ·exact HWd.out
  generalize W.drew=wd at *;refine zN 0 hS0 ?_;refine zN 1 hS0 ?_;refine zN 2 hS0 ?_;refine zN 3 hS0 ?_;refine zN 4 hS0 ?_;refine zN 5 hS0 ?_;refine pN 6 (fun K hK=>?_);go_simp;go_wp2_with (go_at_call 288;refine(c_mapped _ _ x.zK vals _ HRd.out HVd.out H2.out hn).mono ?_;rintro e w3 ⟨v3,rfl,ho,hb⟩)
  have HO3:=xN (wU ho hsd);have HB3:=xN (yQ HBd.out hsd hb);have HW3:=xN (show (∀ i,w3.cell? ⟨w.heap.size,i,none⟩= #[.int .i64 x.zG,.int .i64 x.fA,.int .i64 x.fB,(.slice va3 x.zK.length vc3)][i]?)∧w3.cell? ⟨b,5,none⟩=some (.slice AV vals.length cV) from⟨(HKd.out.below hb HKd.out.lt).cell,(hb.cell (World.block_lt_of_cell? _ _ HWd.out.2)).trans HWd.out.2⟩);clear ho hb;refine uN hK ?_ (fun hS1=>?_)
  ·exact HW3.out
  clear hK K hS0;refine pN 7 (fun K hK=>?_);go_simp;refine uN hK ?_ (fun hS2=>?_)
  ·exact HW3.out
  clear hK K hS1;refine qN ?_;clear hS2;go_wp2;go_ret
  exact⟨_,rfl,by rw[HE.out];exact HO3.out,HB3.out⟩
theorem c_outputs (b:Nat) (outs vals:List Int) (ov vv:Value) (w:World) (hi:Idx outs (vals.length:Int)) (hn:outs.length≤1048576) (hco:w.cell? ⟨b,3,none⟩=some ov) (hcv:w.cell? ⟨b,5,none⟩=some vv) (ho:RdI w ov outs) (hv:RdI w vv vals):Calls Tryz.prog 274 #[.pointer (some ⟨b,0,none⟩)] w fun e w'=> ∃ v,e= .returned v∧OwI 2 w' w.heap.size v (outs.map fun i=>vals.getD i.toNat 0)∧Below w.heap.size w w':=by
 have hlb:b<w.heap.size:=World.block_lt_of_cell? _ _ hco;have HV:=xN hv;have HO:=xN ho;have HI:=xN hi;obtain⟨AV,cV,rfl,hlV,hmV,_⟩:=hv.open_;obtain⟨AO,cO,rfl,hlO,hmO,_⟩:=ho.open_;clear hv ho hi
 go_enter Tryz.func274,Tryz.ntmps274
 go_wp2;have HWd:=xN (show w.drew.cell? ⟨b,3,none⟩=some (.slice AO outs.length cO)∧w.drew.cell? ⟨b,5,none⟩=some (.slice AV vals.length cV) from⟨hco,hcv⟩);have HBd:=xN (Below.refl w.heap.size w).drew;have hsd:=HBd.out.size;have HVd:=xN (RdI.below HV.out HBd.out);have HOd:=xN (RdI.below HO.out HBd.out);refine wH (fun w'=>w'.cell? ⟨b,3,none⟩=some (.slice AO outs.length cO)∧w'.cell? ⟨b,5,none⟩=some (.slice AV vals.length cV)) [] (by kernel_rfl) ?_ (fun hS0=>?_)
 ·exact HWd.out
 clear hco hcv;generalize w.drew=wd at *;refine zN 0 hS0 ?_;refine zN 1 hS0 ?_;refine zN 2 hS0 ?_;refine zN 3 hS0 ?_;refine zN 4 hS0 ?_;refine zN 5 hS0 ?_;refine zN 6 hS0 ?_;refine zN 7 hS0 ?_;refine zN 8 hS0 ?_;refine pN 9 (fun K hK=>?_);go_simp;go_wp2_with (go_at_call 288;refine(c_mapped _ _ outs vals _ HOd.out HVd.out HI.out hn).mono ?_;rintro e w3 ⟨v3,rfl,ho,hb⟩)
 have HO3:=xN (wU ho hsd);have HB3:=xN (yQ HBd.out hsd hb);have HW3:=xN (show w3.cell? ⟨b,3,none⟩=some (.slice AO outs.length cO)∧w3.cell? ⟨b,5,none⟩=some (.slice AV vals.length cV) from⟨(hb.cell (World.block_lt_of_cell? _ _ HWd.out.1)).trans HWd.out.1,(hb.cell (World.block_lt_of_cell? _ _ HWd.out.2)).trans HWd.out.2⟩);clear ho hb;refine uN hK ?_ (fun hS1=>?_)
 ·exact HW3.out
 clear hK K hS0;refine pN 10 (fun K hK=>?_);go_simp;refine uN hK ?_ (fun hS2=>?_)
 ·exact HW3.out
 clear hK K hS1;refine qN ?_;clear hS2;go_wp2;go_ret
 exact⟨_,rfl,HO3.out,HB3.out⟩
end
section
open Go.RowKit
section
variable {P:Program} {ops:Array Oper} {Q:Exit→Act→World→Prop} {md:Region.Mode} {S:World→Prop} {n:Nat}
def yVz (P:Program) (md:Region.Mode) (ops:Array Oper) (Q:Exit→Act→World→Prop) (S:World→Prop) (n:Nat):Nat→Array Bool→Act→World→Prop
 |0,listed,a,w=>Region.ready md ops listed= []∧Q .normal a w
 |fuel+1,listed,a,w=>
  (Region.ready md ops listed= []→Q .normal a w)∧
  ∀ i ∈ Region.ready md ops listed,wpOp P ops Q i (fun a' w'=>(i=n∨S w')∧yVz P md ops Q S n fuel (listed.setIfInBounds i true) a' w') a w
theorem wpAny_of_E: ∀ (fuel:Nat) (listed:Array Bool) (a:Act) (w:World),yVz P md ops Q S n fuel listed a w→wpAny P md ops Q fuel listed a w
 |0,_,_,_,h=>h
 |fuel+1,_,_,_,h=>⟨h.1,fun i hi=>wpOp_mono (fun a' w' h'=>wpAny_of_E fuel _ a' w' h'.2) (h.2 i hi)⟩
theorem wpAnyE_first {i:Nat} {oi:Oper} {v:Value} (hn:Region.waitsFor md ops n i=true) (hi:ops[i]?=some oi) (hsel: ∀ (j:Nat) (o:Oper) cs b,ops[j]?=some o→o.op≠ .select cs b)
  (hQ: ∀ c a w,Q (.panic c) (a.put oi.dst v) w→Q (.panic c) a w):
  ∀ (fuel:Nat) (listed:Array Bool) (a:Act) (w:World),
   (∀ j oj,ops[j]?=some oj→j≠i→listed.getD j true=false→(∀ e ∈ oj.after,Region.binds md e=true→e.on≠i)→oi.apart ops oj=true)→
   i ∈ Region.ready md ops listed→YieldsIf P ops S oi v a→S w→
   yVz P md ops Q S n fuel (listed.setIfInBounds i true) (a.put oi.dst v) w→yVz P md ops Q S n (fuel+1) listed a w:=by
 have late: ∀ {listed:Array Bool} {j:Nat},i ∈ Region.ready md ops listed→j ∈ Region.ready md ops listed→j≠n:=by
  intro listed j hr hj e;subst e;obtain⟨oj,hoj,e,he,hb,heq⟩:=Region.waitsFor_spec hn;obtain⟨_,oj',hoj',hall⟩:=mem_ready.1 hj;obtain rfl:oj=oj':=Option.some.inj (hoj.symm.trans hoj');have h1:=hall e he hb;have h0:=(mem_ready.1 hr).1;rw[heq,getD_both h0] at h1
  cases h1
 intro fuel
 induction fuel with
 |zero=>
  intro listed a w _ hr hy hS H;refine⟨fun h=>(by rw[h] at hr;cases hr),fun j hj=>?_⟩;by_cases hji:j=i
  ·subst hji;exact hy.wpOp hi hS ⟨.inr hS,H⟩
  ·have:=ready_mono hj hji
   rw[H.1] at this
   cases this
 |succ fuel ih=>
  intro listed a w hfree hr hy hS H;refine⟨fun h=>(by rw[h] at hr;cases hr),fun j hj=>?_⟩;by_cases hji:j=i
  ·subst hji;exact hy.wpOp hi hS ⟨.inr hS,H⟩
  ·have h1:=H.2 j (ready_mono hj hji)
   obtain⟨hjun,oj,hoj,hall⟩:=mem_ready.1 hj;have hun:=(mem_ready.1 hr).1
   have hnot: ∀ e ∈ oj.after,Region.binds md e=true→e.on≠i:=fun e he hb heq=>by
    have h1:=hall e he hb;rw[heq,getD_both hun] at h1
    cases h1
   have h2:=wpOp_putIf hoj (hfree j oj hoj hji hjun hnot) (fun cs b=>hsel i oi cs b hi) (fun cs b=>hsel j oj cs b hoj) hQ hy h1
   have hfree': ∀ k ok,ops[k]?=some ok→k≠i→(listed.setIfInBounds j true).getD k true=false→
     (∀ e ∈ ok.after,Region.binds md e=true→e.on≠i)→oi.apart ops ok=true:=fun k ok hk hki hun hno=>by
    refine hfree k ok hk hki ?_ hno;by_cases hjk:j=k
    ·subst hjk;exact hjun
    ·rw[getD_set_ne true hjk] at hun;exact hun
   have hjn:=late hr hj;refine wpOp_mono (fun a' w' h3=>?_) h2;have hS':S w':=h3.2.1.resolve_left hjn;refine⟨.inr hS',ih (listed.setIfInBounds j true) a' w' hfree' (ready_mono hr (Ne.symm hji)) h3.1 hS' ?_⟩;rw[Array.setIfInBounds_comm _ _ hji];exact h3.2.2
theorem xG {i:Nat} {oi:Oper} {v:Value} {fuel:Nat} {listed:Array Bool} {a:Act} {w:World} (hn:Region.waitsFor md ops n i=true) (hi:ops[i]?=some oi)
  (hs:Region.noSelect ops=true) (hf:Region.free md ops listed i=true) (hr:(Region.ready md ops listed).contains i=true)
  (hQ: ∀ c a w,Q (.panic c) (a.put oi.dst v) w→Q (.panic c) a w) (hS:S w) (hw:Region.wanted oi (yielded ops a.tmps)=true) (hy: ∀ w,S w→(execOp a.eval oi).run P w= .ok (.value v) w)
  (h:yVz P md ops Q S n fuel (listed.setIfInBounds i true) (a.put oi.dst v) w):yVz P md ops Q S n (fuel+1) listed a w:=
 wpAnyE_first hn hi (Region.noSelect_spec hs) hQ fuel listed a w (Region.free_spec hi hf) (by simpa using hr) (.inl ⟨hw,hy⟩) hS h
theorem wpAnyE_one {i:Nat} {o:Oper} {fuel:Nat} {listed:Array Bool} {a:Act} {w:World} (hr:Region.ready md ops listed= [i]) (ho:ops[i]?=some o)
  (h: ∀ K':Act→World→Prop,Shut (∀ a w,S w→(S w→yVz P md ops Q S n fuel (listed.setIfInBounds i true) a w)→K' a w)→if Region.wanted o (yielded ops a.tmps)=true then Oper.wp P o a w K' Q else K' (a.put o.dst undef) w):
  yVz P md ops Q S n (fuel+1) listed a w:=
 ⟨fun h0=>(by rw[hr] at h0;cases h0),fun j hj=>by
  rw[hr,List.mem_singleton] at hj;subst hj;exact wpOp_step ho (fun K' hK=>h K' (fun a w hS hW=>hK a w ⟨.inr hS,hW hS⟩))⟩
theorem wpAnyE_tail {o:Oper} {fuel:Nat} {listed:Array Bool} {a:Act} {w:World} (hr:Region.ready md ops listed= [n]) (ho:ops[n]?=some o) (hr2:Region.ready md ops (listed.setIfInBounds n true)= [])
  (h:wpList P ops Q [o] a w):yVz P md ops Q S n (fuel+1) listed a w:=
 ⟨fun h0=>(by rw[hr] at h0;cases h0),fun j hj=>by
  rw[hr,List.mem_singleton] at hj;subst hj;have hw:wpOp P ops Q j (wpList P ops Q []) a w:=by unfold wpOp;simp only[ho];exact h
  refine wpOp_mono (fun a' w' h'=>⟨.inl rfl,?_⟩) hw;have h':Q .normal a' w':=h'
  cases fuel with
  |zero=>exact⟨hr2,h'⟩
  |succ f=>exact⟨fun _=>h',by rw[hr2];simp⟩⟩
theorem vC {id:Nat} {a:Act} {w:World} (S:World→Prop) (n:Nat) (hm:P.follows .mixedOrders=true) (hS:S w.drew)
  (h:S w.drew→yVz P .any ops Q S n ops.size (Array.replicate ops.size false) a w.drew):(Code.region id ops true).wp P Q a w:=
 wp_region_any hm (wpAny_of_E _ _ _ _ (h hS))
end
theorem zE {P:Program} {md:Region.Mode} {ops:Array Oper} {Q:Exit→Act→World→Prop} {S:World→Prop} {n:Nat} (i:Nat) {oi:Oper} {v:Value} {fuel:Nat} {listed:Array Bool} {a b:Act} {w:World} (hS:S w)
  (h:yVz P md ops Q S n fuel (listed.setIfInBounds i true) b w)
  (hi:ops[i]?=some oi:=by rfl)
  (hc:(Region.waitsFor md ops n i && Region.noSelect ops && Region.free md ops listed i && (Region.ready md ops listed).contains i)=true:=by kernel_rfl)
  (hQ: ∀ c a w,Q (.panic c) (a.put oi.dst v) w→Q (.panic c) a w:=by exact fun _ _ _ h=>h)
  (hw:Region.wanted oi (yielded ops a.tmps)=true:=by rfl)
  (hy: ∀ w,S w→(execOp a.eval oi).run P w= .ok (.value v) w:=by(intro w hSw;(try dsimp only at hSw);first|(go_simp;done)|(go_simp;with_reducible rfl)))
  (hb:a.put oi.dst v=b:=by(simp only[Act.put,List.setIfInBounds_toArray,List.set_cons_zero,List.set_cons_succ];try with_reducible rfl)):yVz P md ops Q S n (fuel+1) listed a w:=by
 subst hb;simp only[Bool.and_eq_true] at hc;obtain⟨⟨⟨h1,h2⟩,h3⟩,h4⟩:=hc;exact xG h1 hi h2 h3 h4 hQ hS hw hy h
theorem qE {P:Program} {md:Region.Mode} {ops:Array Oper} {Q:Exit→Act→World→Prop} {S:World→Prop} {n:Nat} {o:Oper} {fuel:Nat} {listed:Array Bool} {a:Act} {w:World} (h:wpList P ops Q [o] a w)
  (hr:Region.ready md ops listed= [n]:=by kernel_rfl) (ho:ops[n]?=some o:=by rfl) (hr2:Region.ready md ops (listed.setIfInBounds n true)= []:=by kernel_rfl):yVz P md ops Q S n (fuel+1) listed a w:=wpAnyE_tail hr ho hr2 h
theorem pE {P:Program} {md:Region.Mode} {ops:Array Oper} {Q:Exit→Act→World→Prop} {S:World→Prop} {n:Nat} (i:Nat) {o:Oper} {fuel:Nat} {listed:Array Bool} {a:Act} {w:World}
  (h: ∀ K':Act→World→Prop,Shut (∀ a w,S w→(S w→yVz P md ops Q S n fuel (listed.setIfInBounds i true) a w)→K' a w)→if Region.wanted o (yielded ops a.tmps)=true then Oper.wp P o a w K' Q else K' (a.put o.dst undef) w)
  (hr:Region.ready md ops listed= [i]:=by kernel_rfl) (ho:ops[i]?=some o:=by rfl):yVz P md ops Q S n (fuel+1) listed a w:=wpAnyE_one hr ho h
theorem uE {S:World→Prop} {R K:Act→World→Prop} {a b:Act} {w:World} (hK:Shut (∀ a w,S w→(S w→R a w)→K a w)) (hS:S w) (h:S w→R b w)
  (hb:a=b:=by(try simp only[Act.put,List.setIfInBounds_toArray,List.set_cons_zero,List.set_cons_succ]);try with_reducible rfl):K a w:=by
 subst hb;exact hK.out a w hS h
end
end Go.Proofs.YtoibekfhepnedaaGreat
