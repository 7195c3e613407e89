/- Contracts: states and what rings, by the program. Contracts: the fields of an edit, program. Contract: l31Fields. Contracts: states, by the reference. Contracts: sums and delays of signals, both sides. Contracts: delays of signals; what a node gets in a frame, both sides. Contract: what a node gets in a frame, by the program's player. Regions that draw their order and end in one store over a cell that they have loaded. No program is named here. The player's memory; a frame, by the program. -/
import Derived.Test.YtdcofkabaigjpaaGreatQAlEdits
import Derived.Test.YtdcofkabaigjpaaGreatQAmEdits
set_option linter.unusedVariables false
set_option linter.unusedSimpArgs false
set_option maxHeartbeats 2000000
set_option maxRecDepth 100000
namespace Go.Proofs.YtdcofkabaigjpaaGreat
section
open Go.RowKit
theorem yVy {x:xR} {t:Int} (h:yCz x t):(x.zD=6→0≤x.fA∧x.fA≤16)∧(x.zD=17→0≤x.fB∧x.fB≤16):=by
 refine⟨fun k=>?_,fun k=>?_⟩
 ·have:=h.a
  rw[k] at this;have:=xK.1 (show inB x.fA 1 16=true from this)
  omega
 ·have:=h.b
  rw[k] at this;have:=xK.1 (show inB x.fB 1 16=true from this)
  omega
theorem effectOk_nodes {p:xQ} (h:wEz p): ∀ x ∈ p.zF,∃ t,yCz x t:=by
 intro x hx
 rcases h with h|h
 ·subst h;simp[uO] at hx
 ·obtain⟨i,hi⟩:=List.mem_iff_getElem?.1 hx
  exact⟨_,(h.1.formed.nodes i x hi).1⟩
theorem befS_ge {l:List xV} {p n:Int} (h:Each l fun i x=>inB x.yI (befS l p i+1) (n - 1)=true∧Smp x.yB): ∀ (i:Nat) (x:xV),l[i]?=some x→p<x.yI∧x.yI≤n - 1
 |0,x,hx=>by
  have:=xK.1 (h 0 x hx).1;rw[befS_zero] at this
  omega
 |i+1,x,hx=>by
  have hl:=(List.getElem?_eq_some_iff.1 hx).1;have hy:=gE (show i<l.length by omega);have h1:=befS_ge h i _ hy;have h2:=xK.1 (h (i+1) x hx).1;rw[zRy hy] at h2
  omega
theorem sends_to {s:xO} (hv:xW s) {j:Nat} {y:xP} (hj:s.zH.zC[j]?=some y): ∀ x ∈ y.zT,(j:Int)<x.yI∧x.yI≤(s.zH.zC.length:Int) - 1:=by
 intro x hx;obtain⟨i,hi⟩:=List.mem_iff_getElem?.1 hx;exact befS_ge (hv.mixer.each j y hj).1.sends.each i x hi
theorem uJz (E:TypeId) (w:World) (n:Int):OwI E (w.alloc (.cells #[.int .i64 n] E)) w.heap.size (.slice (some ⟨w.heap.size,0,none⟩) 1 1) [n]:=
 ⟨rfl,.inr ⟨w.heap.size,1,#[.int .i64 n],rfl,zJ,heap_alloc_new w _,zJ,by decide,rfl,by simp⟩⟩
theorem c_zeros0 (n:Nat) (w:World) (hn:n≤1048576):Calls Tryz.prog 159 #[.int .i64 (n:Int)] w fun e w'=>e= .returned (.slice (some ⟨w.heap.size,0,none⟩) n n)∧OwI 2 w' w.heap.size (.slice (some ⟨w.heap.size,0,none⟩) n n) (List.replicate n 0)∧Below w.heap.size w w':=by
 obtain⟨i0,hi,hz0,hz1,hz2⟩:=info_parts vPz
 go_enter Tryz.func159,Tryz.ntmps159
 go_wp2_with (at_make;refine wpList_make_full _ rfl _ _ _ rfl w.heap.size 2 i0 _ 1 Tryz.underlying26 hi hz0 hz1 .i64 .i64 _ _ n rfl rfl rfl rfl (by rw[hz2];omega) (by unfold maxLen;omega) zJ ?_;intro w1 hown1 hg1)
 have ho1:OwI 2 w1 w.heap.size _ _:=OwI.made _ w1 (n:=n) hg1.size (by unfold maxLen;omega) 0 hown1;have hb1:Below w.heap.size w w1:=zR.grown hg1 zJ (by simp);clear hown1 hg1;have HO:=xN ho1;have HB:=xN hb1;clear ho1 hb1;go_wp2;go_ret
 exact⟨rfl,HO.o,HB.o⟩
theorem c_start (x:xR) (cs:List Value) (w:World) (h6:x.zD=6→0≤x.fA∧x.fA≤16) (h17:x.zD=17→0≤x.fB∧x.fB≤16) (h:T.rds w x.fs cs):Calls Tryz.prog 131 #[.agg cs.toArray] w fun e w'=> ∃ v,e= .returned v∧OwI 2 w' w.heap.size v (vI x)∧Below w.heap.size w w':=by
 obtain⟨v3,rfl,h3⟩:=xR.yT h;clear h;obtain⟨va3,vc3,rfl,vl3,vm3,R3,HX3⟩:=oI h3;clear h3;obtain⟨HB0,HK0⟩:=aK w 120 #[.int .i64 x.zD,.int .i64 x.fA,.int .i64 x.fB,(.slice va3 x.zO.length vc3)];have H6:=xN h6;have H17:=xN h17;clear h6 h17;have ZE:=xN (fun(a:Int) (n:Nat) (h:a=(n:Int)) (hn:n≤1048576) (W:World)=>(h ▸ c_zeros0 n W hn:Calls Tryz.prog 159 #[.int .i64 a] W fun e w'=>e= .returned (.slice (some ⟨W.heap.size,0,none⟩) n n)∧OwI 2 w' W.heap.size (.slice (some ⟨W.heap.size,0,none⟩) n n) (List.replicate n 0)∧Below W.heap.size W w'))
 go_enter Tryz.func131,Tryz.ntmps131
 by_cases k6:x.zD=6
 ·
  have q6:(x.zD == 6)=true:=xA k6;obtain⟨m,hm⟩: ∃ m:Nat,x.fA=(m:Int):=⟨x.fA.toNat,by have:=H6.o k6;omega⟩;have h16:=H6.o k6;have HM:=xN hm;clear hm;have hm16:m≤16:=by have:=HM.o;omega
  have HS:Sec (vI x=List.replicate m 0):=xN (by unfold vI;rw[if_pos k6,HM.o,Int.toNat_natCast]);clear k6 h16;go_wp2_with fail
  refine(ZE.o _ _ HM.o zM _).mono ?_;rintro e w1 ⟨rfl,ho,hb⟩;have HO:=xN (OwI.more ho HB0.o.size);have HB:=xN (yO HB0.o HB0.o.size hb);clear ho hb;go_wp2;go_ret
  exact⟨.slice (some ⟨w.heap.size+1,0,none⟩) m m,rfl,by rw[HS.o];simpa using HO.o,HB.o⟩
 have q6:(x.zD == 6)=false:=yZ k6;by_cases k17:x.zD=17
 ·
  have q17:(x.zD == 17)=true:=xA k17;obtain⟨m,hm⟩: ∃ m:Nat,x.fB=(m:Int):=⟨x.fB.toNat,by have:=H17.o k17;omega⟩;have h16:=H17.o k17;have HM:=xN hm;clear hm;have hm16:m≤16:=by have:=HM.o;omega
  have HS:Sec (vI x=List.replicate m 0):=xN (by unfold vI;rw[if_neg k6,if_pos k17,HM.o,Int.toNat_natCast]);clear k6 k17 h16;go_wp2_with fail
  refine(ZE.o _ _ HM.o zM _).mono ?_;rintro e w1 ⟨rfl,ho,hb⟩;have HO:=xN (OwI.more ho HB0.o.size);have HB:=xN (yO HB0.o HB0.o.size hb);clear ho hb;go_wp2;go_ret
  exact⟨.slice (some ⟨w.heap.size+1,0,none⟩) m m,rfl,by rw[HS.o];simpa using HO.o,HB.o⟩
 have q17:(x.zD == 17)=false:=yZ k17;by_cases k7:x.zD=7
 ·
  have q7:(x.zD == 7)=true:=xA k7;have HS:Sec (vI x=List.replicate 1 0):=xN (by unfold vI;rw[if_neg k6,if_neg k17,if_pos zM];rfl);clear k6 k17 k7;go_wp2_with fail
  refine(ZE.o _ _ (show (1:Int)=((1:Nat):Int) from rfl) zM _).mono ?_;rintro e w1 ⟨rfl,ho,hb⟩;have HO:=xN (OwI.more ho HB0.o.size);have HB:=xN (yO HB0.o HB0.o.size hb);clear ho hb;go_wp2;go_ret
  exact⟨.slice (some ⟨w.heap.size+1,0,none⟩) 1 1,rfl,by rw[HS.o];simpa using HO.o,HB.o⟩
 have q7:(x.zD == 7)=false:=yZ k7;by_cases k8:x.zD=8
 ·
  have q8:(x.zD == 8)=true:=xA k8;have HS:Sec (vI x=List.replicate 1 0):=xN (by unfold vI;rw[if_neg k6,if_neg k17,if_pos zM];rfl);clear k6 k17 k8 k7;go_wp2_with fail
  refine(ZE.o _ _ (show (1:Int)=((1:Nat):Int) from rfl) zM _).mono ?_;rintro e w1 ⟨rfl,ho,hb⟩;have HO:=xN (OwI.more ho HB0.o.size);have HB:=xN (yO HB0.o HB0.o.size hb);clear ho hb;go_wp2;go_ret
  exact⟨.slice (some ⟨w.heap.size+1,0,none⟩) 1 1,rfl,by rw[HS.o];simpa using HO.o,HB.o⟩
 have q8:(x.zD == 8)=false:=yZ k8;by_cases k16:x.zD=16
 ·
  have q16:(x.zD == 16)=true:=xA k16;have HS:Sec (vI x=List.replicate 1 0):=xN (by unfold vI;rw[if_neg k6,if_neg k17,if_pos zM];rfl);clear k6 k17 k16 k7 k8;go_wp2_with fail
  refine(ZE.o _ _ (show (1:Int)=((1:Nat):Int) from rfl) zM _).mono ?_;rintro e w1 ⟨rfl,ho,hb⟩;have HO:=xN (OwI.more ho HB0.o.size);have HB:=xN (yO HB0.o HB0.o.size hb);clear ho hb;go_wp2;go_ret
  exact⟨.slice (some ⟨w.heap.size+1,0,none⟩) 1 1,rfl,by rw[HS.o];simpa using HO.o,HB.o⟩
 have q16:(x.zD == 16)=false:=yZ k16;by_cases k12:x.zD=12
 ·
  have q12:(x.zD == 12)=true:=xA k12;have HS:Sec (vI x= [x.fA]):=xN (by unfold vI;rw[if_neg k6,if_neg k17,if_neg zM,if_pos zM]);clear k6 k17 k7 k8 k16 k12;have HB:=xN (HB0.o.alloc HB0.o.size (.cells #[.int .i64 x.fA] 2));have HO:Sec (OwI 2 ((w.alloc (.cells #[.int .i64 x.zD,.int .i64 x.fA,.int .i64 x.fB,(.slice va3 x.zO.length vc3)] 120)).alloc (.cells #[.int .i64 x.fA] 2)) w.heap.size (.slice (some ⟨(w.alloc (.cells #[.int .i64 x.zD,.int .i64 x.fA,.int .i64 x.fB,(.slice va3 x.zO.length vc3)] 120)).heap.size,0,none⟩) 1 1) [x.fA]):=xN (OwI.more (uJz _ _ _) HB0.o.size);go_wp2;go_ret
  exact⟨.slice (some ⟨w.heap.size+1,0,none⟩) 1 1,rfl,by rw[HS.o];simpa using HO.o,HB.o⟩
 have q12:(x.zD == 12)=false:=yZ k12;by_cases k14:x.zD=14
 ·
  have q14:(x.zD == 14)=true:=xA k14;have HS:Sec (vI x= [x.fA]):=xN (by unfold vI;rw[if_neg k6,if_neg k17,if_neg zM,if_pos zM]);clear k6 k17 k7 k8 k16 k14 k12;have HB:=xN (HB0.o.alloc HB0.o.size (.cells #[.int .i64 x.fA] 2));have HO:Sec (OwI 2 ((w.alloc (.cells #[.int .i64 x.zD,.int .i64 x.fA,.int .i64 x.fB,(.slice va3 x.zO.length vc3)] 120)).alloc (.cells #[.int .i64 x.fA] 2)) w.heap.size (.slice (some ⟨(w.alloc (.cells #[.int .i64 x.zD,.int .i64 x.fA,.int .i64 x.fB,(.slice va3 x.zO.length vc3)] 120)).heap.size,0,none⟩) 1 1) [x.fA]):=xN (OwI.more (uJz _ _ _) HB0.o.size);go_wp2;go_ret
  exact⟨.slice (some ⟨w.heap.size+1,0,none⟩) 1 1,rfl,by rw[HS.o];simpa using HO.o,HB.o⟩
 have q14:(x.zD == 14)=false:=yZ k14;have HS:Sec (vI x=List.replicate 0 0):=xN (by unfold vI;rw[if_neg k6,if_neg k17,if_neg zM,if_neg zM];rfl);clear k6 k17 k7 k8 k16 k12 k14;go_wp2_with fail
 refine(ZE.o _ _ (show (0:Int)=((0:Nat):Int) from rfl) zM _).mono ?_;rintro e w1 ⟨rfl,ho,hb⟩;have HO:=xN (OwI.more ho HB0.o.size);have HB:=xN (yO HB0.o HB0.o.size hb);clear ho hb;go_wp2;go_ret
 exact⟨.slice (some ⟨w.heap.size+1,0,none⟩) 0 0,rfl,by rw[HS.o];simpa using HO.o,HB.o⟩
theorem c_hasState1 (x:xR) (cs:List Value) (w:World) (h6:x.zD=6→0≤x.fA∧x.fA≤16) (h17:x.zD=17→0≤x.fB∧x.fB≤16) (h:T.rds w x.fs cs):Calls Tryz.prog 130 #[.agg cs.toArray] w fun e w'=>e= .returned (.bool (decide (0<(vI x).length)))∧Below w.heap.size w w':=by
 obtain⟨v3,rfl,h3⟩:=xR.yT h;clear h;obtain⟨va3,vc3,rfl,vl3,vm3,R3,HX3⟩:=oI h3;clear h3;obtain⟨HB0,HK0⟩:=aK w 120 #[.int .i64 x.zD,.int .i64 x.fA,.int .i64 x.fB,(.slice va3 x.zO.length vc3)]
 go_enter Tryz.func130,Tryz.ntmps130
 go_wp2_with fail
 refine(c_start x _ _ h6 h17 (xR.rd_mk (T.xB.2 (Rd.below R3.o HB0.o)))).mono ?_;rintro e w1 ⟨v,rfl,ho,hb⟩;have HB:=xN (yO HB0.o HB0.o.size hb);clear hb;obtain⟨A,cap,rfl,hl1,hl2,-⟩:=ho.rd.open_;clear ho;have hlen: ∀ p:Bool,p=decide (0<(vI x).length)→p=decide (0<(vI x).length):=fun _ h=>h;clear hlen
 go_wp2;go_ret
 exact⟨yN (decide_eq_decide.2 zM),HB.o⟩
theorem c_idxState (v:Value) (xs:List xR) (P:xR→Prop) (w:World) (hf: ∀ y ∈ xs,∀ (ds:List Value) (W:World),Below w.heap.size w W→T.rds W y.fs ds→Calls Tryz.prog 130 #[.agg ds.toArray] W fun e w'=>e= .returned (.bool (tf (P y)))∧Below W.heap.size W w') (hr:T.rd w (T.sl 120 4 (xs.map xR.t)) [v]):Calls Tryz.prog 158 #[v,.func (.func 130) #[] #[]] w fun e w'=> ∃ r:Int,e= .returned (.int .i64 r)∧(0≤r↔ ∃ x ∈ xs,P x)∧Below w.heap.size w w':=by
 obtain⟨A,cap,rfl,hl,hc,hx⟩:=T.yS hr;have HX:=xN hx;have HF:=xN hf;clear hx hr hf
 go_enter Tryz.func158,Tryz.ntmps158
 go_wp2
 go_loopw [8] (fun i wr=> ∃ k:Nat,k≤xs.length∧i= .int .i64 k∧vU xs (fun _ x=> ¬ P x) k∧Below w.heap.size w wr) (fun i _=>xs.length - (intOf i).toNat)
 case atStart=>exact⟨0,Nat.zero_le _,rfl,vU.zero,zR⟩
 case round=>
  obtain⟨k,hk,rfl,hs,hbw⟩:=hrel;have HS:=xN hs;have HB:=xN hbw;clear hs hbw;by_cases hlt:k<xs.length
  ·have hgk:=gE hlt
   obtain⟨b1,off,cs,rfl,hb1,hcs,hcell⟩:=HX.o k xs[k] hgk;generalize xs[k]=x at *;have HG:=xN hgk;clear hgk;obtain⟨u3,rfl,hRY3⟩:=xR.yT (show T.rds _ _ _ by simpa only[xR.t,T.rd] using hcs);obtain⟨d0,d1,d2,d3⟩:=oc4 HB.o hb1 hcell;have RY3:=xN (T.yJ hRY3 HB.o);clear hRY3;clear hcs hcell;obtain⟨ua3,uc3,rfl,ul3,um3,-⟩:=(T.xB.1 RY3.o).open_;by_cases hq:P x
   ·have hd:=xI hq
    have HQ:=xN hq;clear hq;go_wp2_with (go_at_call 130;refine(HF.o x (List.mem_of_getElem? HG.o) _ _ HB.o (xR.rd_mk RY3.o)).mono ?_;rintro e w3 ⟨rfl,hb3⟩;rw[hd])
    have HB3:=xN (yO HB.o HB.o.size hb3);clear hb3;go_wp2;go_ret
    exact⟨_,rfl,⟨fun _=>⟨x,List.mem_of_getElem? HG.o,HQ.o⟩,fun _=>by omega⟩,HB3.o⟩
   ·have hd:=xH hq
    have HQ:=xN hq;clear hq;go_wp2_with (go_at_call 130;refine(HF.o x (List.mem_of_getElem? HG.o) _ _ HB.o (xR.rd_mk RY3.o)).mono ?_;rintro e w3 ⟨rfl,hb3⟩;rw[hd])
    have HB3:=xN (yO HB.o HB.o.size hb3);clear hb3;go_wp2
    go_roundw
    case rel=>exact⟨k+1,by omega,by go_num,HS.o.step HG.o HQ.o,HB3.o⟩
    case measure=>simp[intOf];omega
  ·have hall:=xN (HS.o.all zM);clear HS
   go_wp2;go_ret
   exact⟨-1,rfl,⟨fun h=>absurd h zM,fun⟨x,hx,hp⟩=>by
    obtain⟨i,hi,rfl⟩:=List.mem_iff_getElem.1 hx;exact absurd hp (hall.o i _ (gE hi))⟩,HB.o⟩
theorem c_anyState (v:Value) (xs:List xR) (P:xR→Prop) (w:World) (hf: ∀ y ∈ xs,∀ (ds:List Value) (W:World),Below w.heap.size w W→T.rds W y.fs ds→Calls Tryz.prog 130 #[.agg ds.toArray] W fun e w'=>e= .returned (.bool (tf (P y)))∧Below W.heap.size W w') (hr:T.rd w (T.sl 120 4 (xs.map xR.t)) [v]):Calls Tryz.prog 129 #[v,.func (.func 130) #[] #[]] w fun e w'=>e= .returned (.bool (tf (∃ x ∈ xs,P x)))∧Below w.heap.size w w':=by
 have HR:=xN hr;have HF:=xN hf;clear hf;obtain⟨A,cap,rfl,hl,hc,hx⟩:=T.yS hr;clear hx hr
 go_enter Tryz.func129,Tryz.ntmps129
 go_wp2_with (go_at_call 158;refine(c_idxState _ xs P _ HF.o HR.o).mono ?_;rintro e w3 ⟨r,rfl,hiff,hb3⟩;have HI:=xN hiff;have H3:=xN hb3;clear hiff hb3)
 go_ret
 exact⟨yN (by rw[←uZ];exact tf_iff HI.o),H3.o⟩
theorem c_hasState (x:xQ) (cs:List Value) (w:World) (hp: ∀ y ∈ x.zF,∃ t,yCz y t) (h:T.rds w x.fs cs):Calls Tryz.prog 101 #[.agg cs.toArray] w fun e w'=>e= .returned (.bool (uU x))∧Below w.heap.size w w':=by
 obtain⟨v1,v2,v3,rfl,h1,h2,h3⟩:=xQ.yT h;clear h;obtain⟨va1,vc1,rfl,vl1,vm1,R1,HX1⟩:=oG h1;clear h1;obtain⟨va2,vc2,rfl,vl2,vm2,R2,HX2⟩:=oG h2;clear h2;obtain⟨va3,vc3,rfl,vl3,vm3,R3,HX3⟩:=oI h3;clear h3;obtain⟨HB0,HK0⟩:=aK w 81 #[.int .i64 x.zU,(.slice va1 x.zY.length vc1),(.slice va2 x.zF.length vc2),(.slice va3 x.zX.length vc3)];have HP:=xN hp;clear hp;have hmf: ∀ (fn:Fn) (first cap:Array Value) (w:World),(Instr.makeFunc fn first cap).run Tryz.prog w= .ok (.func fn first cap) w:=fun _ _ _ _=>by simp[go_sem,Instr.makeFunc]
 go_enter Tryz.func101,Tryz.ntmps101
 go_wp2_with fail
 refine(c_anyState _ x.zF (fun y=>0<(vI y).length) _ (fun y hy ds W hb hr=>?_) (T.yJ R2.o HB0.o)).mono ?_
 ·obtain⟨t,ht⟩:=HP.o y hy
  refine(c_hasState1 y ds W (yVy ht).1 (yVy ht).2 hr).mono ?_;rintro e w1 ⟨rfl,hb1⟩;exact⟨yN uZ.symm,hb1⟩
 rintro e w3 ⟨rfl,hb⟩;have H3:=xN (yO HB0.o HB0.o.size hb);clear hb;go_wp2;go_ret
 exact⟨yN (by unfold uU;rw[Bool.eq_iff_iff,zPy,List.any_eq_true];simp),H3.o⟩
theorem c_idxRings (v:Value) (xs:List xV) (P:xV→Prop) (b:Nat) (w:World) (hf: ∀ y ∈ xs,∀ (ds:List Value) (W:World),Below w.heap.size w W→T.rds W y.fs ds→Calls Tryz.prog 103 #[.agg ds.toArray,.pointer (some ⟨b,0,none⟩)] W fun e w'=>e= .returned (.bool (tf (P y)))∧Below W.heap.size W w') (hr:T.rd w (T.sl 71 2 (xs.map xV.t)) [v]):Calls Tryz.prog 132 #[v,.func (.func 103) #[] #[.pointer (some ⟨b,0,none⟩)]] w fun e w'=> ∃ r:Int,e= .returned (.int .i64 r)∧(0≤r↔ ∃ x ∈ xs,P x)∧Below w.heap.size w w':=by
 obtain⟨A,cap,rfl,hl,hc,hx⟩:=T.yS hr;have HX:=xN hx;have HF:=xN hf;clear hx hr hf
 go_enter Tryz.func132,Tryz.ntmps132
 go_wp2
 go_loopw [8] (fun i wr=> ∃ k:Nat,k≤xs.length∧i= .int .i64 k∧vU xs (fun _ x=> ¬ P x) k∧Below w.heap.size w wr) (fun i _=>xs.length - (intOf i).toNat)
 case atStart=>exact⟨0,Nat.zero_le _,rfl,vU.zero,zR⟩
 case round=>
  obtain⟨k,hk,rfl,hs,hbw⟩:=hrel;have HS:=xN hs;have HB:=xN hbw;clear hs hbw;by_cases hlt:k<xs.length
  ·have hgk:=gE hlt
   obtain⟨b1,off,cs,rfl,hb1,hcs,hcell⟩:=HX.o k xs[k] hgk;generalize xs[k]=x at *;have HG:=xN hgk;clear hgk;obtain rfl:=xV.yT (show T.rds _ _ _ by simpa only[xV.t,T.rd] using hcs);obtain⟨d0,d1⟩:=oc2 HB.o hb1 hcell;clear hcs hcell;by_cases hq:P x
   ·have hd:=xI hq
    have HQ:=xN hq;clear hq;go_wp2_with (go_at_call 103;refine(HF.o x (List.mem_of_getElem? HG.o) _ _ HB.o (xV.rd_mk)).mono ?_;rintro e w3 ⟨rfl,hb3⟩;rw[hd])
    have HB3:=xN (yO HB.o HB.o.size hb3);clear hb3;go_wp2;go_ret
    exact⟨_,rfl,⟨fun _=>⟨x,List.mem_of_getElem? HG.o,HQ.o⟩,fun _=>by omega⟩,HB3.o⟩
   ·have hd:=xH hq
    have HQ:=xN hq;clear hq;go_wp2_with (go_at_call 103;refine(HF.o x (List.mem_of_getElem? HG.o) _ _ HB.o (xV.rd_mk)).mono ?_;rintro e w3 ⟨rfl,hb3⟩;rw[hd])
    have HB3:=xN (yO HB.o HB.o.size hb3);clear hb3;go_wp2
    go_roundw
    case rel=>exact⟨k+1,by omega,by go_num,HS.o.step HG.o HQ.o,HB3.o⟩
    case measure=>simp[intOf];omega
  ·have hall:=xN (HS.o.all zM);clear HS
   go_wp2;go_ret
   exact⟨-1,rfl,⟨fun h=>absurd h zM,fun⟨x,hx,hp⟩=>by
    obtain⟨i,hi,rfl⟩:=List.mem_iff_getElem.1 hx;exact absurd hp (hall.o i _ (gE hi))⟩,HB.o⟩
theorem c_anyRings (v:Value) (xs:List xV) (P:xV→Prop) (b:Nat) (w:World) (hf: ∀ y ∈ xs,∀ (ds:List Value) (W:World),Below w.heap.size w W→T.rds W y.fs ds→Calls Tryz.prog 103 #[.agg ds.toArray,.pointer (some ⟨b,0,none⟩)] W fun e w'=>e= .returned (.bool (tf (P y)))∧Below W.heap.size W w') (hr:T.rd w (T.sl 71 2 (xs.map xV.t)) [v]):Calls Tryz.prog 102 #[v,.func (.func 103) #[] #[.pointer (some ⟨b,0,none⟩)]] w fun e w'=>e= .returned (.bool (tf (∃ x ∈ xs,P x)))∧Below w.heap.size w w':=by
 have HR:=xN hr;have HF:=xN hf;clear hf;obtain⟨A,cap,rfl,hl,hc,hx⟩:=T.yS hr;clear hx hr
 go_enter Tryz.func102,Tryz.ntmps102
 go_wp2_with (go_at_call 132;refine(c_idxRings _ xs P b _ HF.o HR.o).mono ?_;rintro e w3 ⟨r,rfl,hiff,hb3⟩;have HI:=xN hiff;have H3:=xN hb3;clear hiff hb3)
 go_ret
 exact⟨yN (by rw[←uZ];exact tf_iff HI.o),H3.o⟩
theorem c_rings1 (y:xV) (b:Nat) (Vs:Array Value) (B:Bool) (ds:List Value) (w:World) (hb:Bk w b 32 Vs) (hV: ∃ n A1 L1 C1 A2 L2 C2 A3 L3 C3 A4 L4 C4 A5 L5 C5,Vs= #[.int .i64 n,.slice A1 L1 C1,.slice A2 L2 C2,.slice A3 L3 C3,.slice A4 L4 C4,.slice A5 L5 C5]) (hf: ∀ W:World,Below w.heap.size w W→Calls Tryz.prog 66 #[.agg Vs,.int .i64 y.yI] W fun e w'=>e= .returned (.bool B)∧Below W.heap.size W w') (hy:T.rds w y.fs ds):
  Calls Tryz.prog 103 #[.agg ds.toArray,.pointer (some ⟨b,0,none⟩)] w fun e w'=>e= .returned (.bool B)∧Below w.heap.size w w':=by
 obtain rfl:=xV.yT hy;obtain⟨n,A1,L1,C1,A2,L2,C2,A3,L3,C3,A4,L4,C4,A5,L5,C5,rfl⟩:=hV;have HF:=xN hf;clear hf hy;have HB:=xN (show Below w.heap.size w (w.alloc (.cells #[.int .i64 y.yI,.int .i64 y.yB] 71)) from zR.alloc zJ _);have HK:=xN (hb.alloc (.cells #[.int .i64 y.yI,.int .i64 y.yB] 71));have hlt:=hb.lt;clear hb;have kc:=HK.o.cell;have kl:=HK.o.lt
 go_enter Tryz.func103,Tryz.ntmps103
 go_wp2_with fail
 refine(HF.o _ HB.o).mono ?_;rintro e w1 ⟨rfl,hb⟩;have HB1:=xN (yO HB.o HB.o.size hb);clear hb;go_wp2;go_ret
 exact⟨rfl,HB1.o⟩
theorem c_rings0 (x:xO) (cs:List Value) (j:Nat) (w:World) (hv:xW x) (hj:j<x.zH.zC.length) (IH: ∀ j':Nat,j<j'→j'<x.zH.zC.length→ ∀ (W:World) (ds:List Value),T.rds W x.fs ds→Calls Tryz.prog 66 #[.agg ds.toArray,.int .i64 (j':Int)] W fun e w'=>e= .returned (.bool (tf (Ring x (j':Int))))∧Below W.heap.size W w') (h:T.rds w x.fs cs):Calls Tryz.prog 66 #[.agg cs.toArray,.int .i64 (j:Int)] w fun e w'=>e= .returned (.bool (tf (Ring x (j:Int))))∧Below w.heap.size w w':=by
 obtain⟨v1,v2,v3,v4,v5,rfl,h1,h2,h3,h4,h5⟩:=xO.yT h;clear h;obtain⟨va1,vc1,rfl,vl1,vm1,R1,HX1⟩:=oG h1;clear h1;obtain⟨va2,vc2,rfl,vl2,vm2,R2,HX2⟩:=oG h2;clear h2;obtain⟨va3,vc3,rfl,vl3,vm3,R3,HX3⟩:=oI h3;clear h3;obtain⟨va4,vc4,rfl,vl4,vm4,R4,HX4⟩:=oG h4;clear h4;obtain⟨va5,vc5,rfl,vl5,vm5,R5,HX5⟩:=oG h5;clear h5;obtain⟨HB0,HK0⟩:=aK w 32 #[.int .i64 x.zB,(.slice va1 x.zI.length vc1),(.slice va2 x.zG.length vc2),(.slice va3 x.zL.length vc3),(.slice va4 x.zK.length vc4),(.slice va5 x.zH.zC.length vc5)];have HV:=xN hv;have HIH:=xN IH;clear hv IH;have hje:j<x.zK.length:=by have:=HV.o.effect;omega
 have GX:=xN (show ∀ w',Below w.heap.size w w'→T.rds w' x.fs [.int .i64 x.zB,(.slice va1 x.zI.length vc1),(.slice va2 x.zG.length vc2),(.slice va3 x.zL.length vc3),(.slice va4 x.zK.length vc4),(.slice va5 x.zH.zC.length vc5)] from fun w' hb=>xO.rd_mk (T.yJ R1.o hb) (T.yJ R2.o hb) (T.xB.2 (Rd.below R3.o hb)) (T.yJ R4.o hb) (T.yJ R5.o hb));have hge:=gE hje;have hgs:=gE hj;obtain⟨b4,o4,cs4,hA4,hb4,hcs4,hcell4⟩:=HX4.o j x.zK[j] hge;obtain⟨b5,o5,cs5,hA5,hb5,hcs5,hcell5⟩:=HX5.o j x.zH.zC[j] hgs;subst hA4 hA5;generalize x.zK[j]=p at *;generalize x.zH.zC[j]=y at *;have HBr:=xN (Below.refl w.heap.size w);obtain⟨u1,u2,u3,rfl,hRP1,hRP2,hRP3⟩:=xQ.yT (show T.rds _ _ _ by simpa only[xQ.t,T.rd] using hcs4);obtain⟨d0,d1,d2,d3⟩:=oc4 HBr.o hb4 hcell4;have RP1:=xN (T.yJ hRP1 HBr.o);clear hRP1;have RP2:=xN (T.yJ hRP2 HBr.o);clear hRP2;have RP3:=xN (T.yJ hRP3 HBr.o);clear hRP3;clear hcs4 hcell4;obtain⟨t2,rfl,hRY2⟩:=xP.yT (show T.rds _ _ _ by simpa only[xP.t,T.rd] using hcs5);obtain⟨q0,q1,q2⟩:=oc3 HBr.o hb5 hcell5;have RY2:=xN (T.yJ hRY2 HBr.o);clear hRY2;clear hcs5 hcell5;obtain⟨ua1,uc1,rfl,ul1,um1,-⟩:=T.yS RP1.o;obtain⟨ua2,uc2,rfl,ul2,um2,-⟩:=T.yS RP2.o;obtain⟨ua3,uc3,rfl,ul3,um3,-⟩:=(T.xB.1 RP3.o).open_;obtain⟨ta2,tc2,rfl,tl2,tm2,-⟩:=T.yS RY2.o;have HPO:=xN (effectOk_nodes (HV.o.effects j p hge));have HTO:=xN (sends_to HV.o hgs);have HEF:=xN (show xQz x (j:Int)=p by unfold xQz;rw[Int.toNat_natCast,hge];rfl);have HSE:=xN (xZz hgs);clear hge hgs;have hmf: ∀ (fn:Fn) (first cap:Array Value) (w:World),(Instr.makeFunc fn first cap).run Tryz.prog w= .ok (.func fn first cap) w:=fun _ _ _ _=>by simp[go_sem,Instr.makeFunc]
 go_enter Tryz.func66,Tryz.ntmps66
 go_wp2_with fail
 refine(c_hasState p _ _ HPO.o (xQ.rd_mk (T.yJ RP1.o HB0.o) (T.yJ RP2.o HB0.o) (T.yJ RP3.o HB0.o))).mono ?_;rintro e w1 ⟨rfl,hb⟩;have HB1:=xN (yO HB0.o HB0.o.size hb);have HK1:=xN (HK0.o.below hb HK0.o.lt);clear hb;by_cases hS:uU p=true
 ·rw[hS]
  have HR:=xN (xI (Ring.own (s:=x) (j:=(j:Int)) (by rw[HEF.o];exact hS)));clear hS;go_wp2;go_ret
  exact⟨yN HR.o.symm,HB1.o⟩
 have hS:uU p=false:=by simpa using hS
 rw[hS];have HS:=xN hS;clear hS;have ka:=HK1.o.cell;have la:=HK1.o.lt;have a0:=(HB1.o.cell hb5).trans q0;have a1:=(HB1.o.cell hb5).trans q1;have a2:=(HB1.o.cell hb5).trans q2;have lb5:=zW hb5 HB1.o.size;go_wp2_with fail
 refine(c_anyRings _ y.zT (fun z=>Ring x z.yI) _ _ (fun z hz ds W hb hr=>?_) (T.yJ RY2.o HB1.o)).mono ?_
 ·have hto:=HTO.o z hz
  obtain⟨j',hj'⟩: ∃ j':Nat,z.yI=(j':Int):=⟨z.yI.toNat,by omega⟩;refine c_rings1 z _ _ _ ds W (HK1.o.below hb HK1.o.lt) ⟨_,_,_,_,_,_,_,_,_,_,_,_,_,_,_,_,rfl⟩ (fun W' hW'=>?_) hr;rw[hj'];exact HIH.o j' zM zM W' _ (GX.o W' (yO (yO HB1.o HB1.o.size hb) (Nat.le_trans HB1.o.size hb.size) hW'))
 rintro e w2 ⟨rfl,hb⟩;have HB2:=xN (yO HB1.o HB1.o.size hb);clear hb;go_wp2;go_ret
 exact⟨yN (tf_iff (by rw[ring_iff,HEF.o,HSE.o,HS.o];simp)),HB2.o⟩
theorem c_rings (x:xO) (hv:xW x): ∀ (m j:Nat),x.zH.zC.length≤j+m→j<x.zH.zC.length→ ∀ (w:World) (cs:List Value),T.rds w x.fs cs→Calls Tryz.prog 66 #[.agg cs.toArray,.int .i64 (j:Int)] w fun e w'=>e= .returned (.bool (tf (Ring x (j:Int))))∧Below w.heap.size w w'
 |0,j,h,hj=>absurd hj zM
 |m+1,j,h,hj=>fun w cs hr=>c_rings0 x cs j w hv hj (fun j' h1 h2 W ds hW=>c_rings x hv m j' zM h2 W ds hW) hr
end
section
open Go.RowKit
theorem c_isEdit (x:wV) (cs:List Value) (w:World) (h:T.rds w x.fs cs):Calls Tryz.prog 59 #[.agg cs.toArray] w fun e w'=>e= .returned (.bool (tf (wH x)))∧Below w.heap.size w w':=by
 obtain rfl:=wV.yT h;clear h;obtain⟨HB0,HK0⟩:=aK w 41 #[.int .i64 x.zD,.int .i64 x.yD,.int .i64 x.yG,.int .i64 x.yF,.int .i64 x.yC.zV,.int .i64 x.yC.zO,.int .i64 x.yC.zB,.int .i64 x.yC.yE,.int .i64 x.yC.yB];have heq: ∀ w,(Op.equalIn 10000 39 (.agg #[.int .i64 x.yC.zV,.int .i64 x.yC.zO,.int .i64 x.yC.zB,.int .i64 x.yC.yE,.int .i64 x.yC.yB]) (.agg #[.int .i64 0,.int .i64 0,.int .i64 0,.int .i64 0,.int .i64 0])).run Tryz.prog w= .ok (decide (x.yC=yXz)) w:=eq_Clip 9998 x.yC yXz;have hgd:=eqg_Clip;have BN:=xN (@fieldsB_new x);have BR:=xN (@fieldsB_rem x);have BF:=xN (@fieldsB_feed x);have BS:=xN (@fieldsB_send x);have B0:=xN (@fieldsB_none x);generalize hne:decide (x.yC=yXz)=ne at *;clear hne;generalize hco:tf (zLz x.yC)=co at *;have HCO:=xN hco;clear hco
 go_enter Tryz.func59,Tryz.ntmps59
 by_cases k1:x.zD=1
 ·have q1:(x.zD == 1)=true:=xA k1
  have HE:=xN (BN.o (.inl k1));clear k1;by_cases z:x.yF=0
  ·have hz:(x.yF == 0)=true:=xA z
   have HZ:=xN (decide_eq_true z);clear z;go_wp2_with (go_at_call 88;refine(vBz x.yC _ _ xU.rd_mk).mono ?_;rintro e w2 ⟨rfl,hb2⟩;rw[HCO.o];have HB2:=xN (yO HB0.o HB0.o.size hb2);clear hb2)
   go_ret
   exact⟨yN (by rw[HE.o,HZ.o];rfl),HB2.o⟩
  ·have hz:(x.yF == 0)=false:=yZ z
   have HZ:=xN (decide_eq_false z);clear z;go_wp2;go_ret
   exact⟨yN (by rw[HE.o,HZ.o];rfl),HB0.o⟩
 have q1:(x.zD == 1)=false:=yZ k1;by_cases k3:x.zD=3
 ·have q3:(x.zD == 3)=true:=xA k3
  have HE:=xN (BN.o (.inr k3));clear k3;by_cases z:x.yF=0
  ·have hz:(x.yF == 0)=true:=xA z
   have HZ:=xN (decide_eq_true z);clear z;go_wp2_with (go_at_call 88;refine(vBz x.yC _ _ xU.rd_mk).mono ?_;rintro e w2 ⟨rfl,hb2⟩;rw[HCO.o];have HB2:=xN (yO HB0.o HB0.o.size hb2);clear hb2)
   go_ret
   exact⟨yN (by rw[HE.o,HZ.o];rfl),HB2.o⟩
  ·have hz:(x.yF == 0)=false:=yZ z
   have HZ:=xN (decide_eq_false z);clear z;go_wp2;go_ret
   exact⟨yN (by rw[HE.o,HZ.o];rfl),HB0.o⟩
 have q3:(x.zD == 3)=false:=yZ k3;by_cases k2:x.zD=2
 ·have q2:(x.zD == 2)=true:=xA k2
  have HE:=xN (BR.o k2);clear k2;by_cases z:x.yF=0
  ·have hz:(x.yF == 0)=true:=xA z
   have HZ:=xN (decide_eq_true z);clear z;go_wp2;go_ret
   exact⟨yN (by rw[HE.o,HZ.o];rfl),HB0.o⟩
  ·have hz:(x.yF == 0)=false:=yZ z
   have HZ:=xN (decide_eq_false z);clear z;go_wp2;go_ret
   exact⟨yN (by rw[HE.o,HZ.o];rfl),HB0.o⟩
 have q2:(x.zD == 2)=false:=yZ k2;by_cases k4:x.zD=4
 ·have q4:(x.zD == 4)=true:=xA k4
  have HE:=xN (BF.o k4);clear k4;by_cases z:x.yG=0
  ·have hz:(x.yG == 0)=true:=xA z
   have HZ:=xN (decide_eq_true z);clear z;go_wp2;go_ret
   exact⟨yN (by rw[HE.o,HZ.o];rfl),HB0.o⟩
  ·have hz:(x.yG == 0)=false:=yZ z
   have HZ:=xN (decide_eq_false z);clear z;go_wp2;go_ret
   exact⟨yN (by rw[HE.o,HZ.o];rfl),HB0.o⟩
 have q4:(x.zD == 4)=false:=yZ k4;by_cases k5:x.zD=5
 ·have q5:(x.zD == 5)=true:=xA k5
  have HE:=xN (BS.o k5);clear k5;go_wp2;go_ret
  exact⟨yN HE.o.symm,HB0.o⟩
 have q5:(x.zD == 5)=false:=yZ k5;have HE:=xN (B0.o (fun h=>h.elim k1 k3) k2 k4 k5);clear k1 k2 k3 k4 k5;go_wp2;go_ret
 exact⟨yN HE.o.symm,HB0.o⟩
end
section
open Go.RowKit
end
section
open Go.RowKit
theorem vIz (n:Nat) (w:World) (hn:n≤1048576):Calls Tryz.prog 110 #[.int .i64 (n:Int)] w fun e w'=> ∃ v',e= .returned v'∧OwI 2 w' w.heap.size v' (List.replicate n 0)∧Below w.heap.size w w':=by
 go_enter Tryz.func110,Tryz.ntmps110
 go_wp2
 go_loopw [0,3] (fun m o wr=> ∃ k:Nat,k≤n∧m= .int .i64 (k:Int)∧OwI 2 wr w.heap.size o (List.replicate (n - k) 0)∧Below w.heap.size w wr) (fun m _ _=>(intOf m).toNat)
 case atStart=>exact⟨n,zJ,rfl,by rw[Nat.sub_self];exact vP w,zR.alloc zJ _⟩
 case round=>
  obtain⟨k,hk,rfl,ho,hb⟩:=hrel;have HO:=xN ho;have HB:=xN hb;have hsz:=hb.size;clear ho hb;by_cases h0:0<k
  ·have HR:=xN (show List.replicate (n - k) (0:Int)++ [0]=List.replicate (n - (k - 1)) 0 by
    rw[show n - (k - 1)=(n - k)+1 by omega,←List.replicate_succ'])
   have hl:(List.replicate (n - k) (0:Int)).length+1≤17592186044416:=by rw[List.length_replicate];omega
   go_wp2_with (at_builtin;refine yGz rfl _ _ rfl rfl HO.o rfl hl hsz ?_;intro v5 w5 ho5 hg5 hv5;have hb5:=zOz HB.o HO.o hg5 zJ hsz;have HO5:=xN ho5;have HB5:=xN hb5;clear ho5 hb5 hg5 hv5)
   go_roundw
   case rel=>exact⟨k - 1,by omega,by go_num,by rw[←HR.o];exact HO5.o,HB5.o⟩
   case measure=>first|(simp[intOf];done)|(simp[intOf];omega)
  ·obtain rfl:k=0:=by omega
   go_wp2;go_ret
   exact⟨_,rfl,by have:=HO.o;rw[Nat.sub_zero] at this;exact this,HB.o⟩
theorem c_l06Start (x:xR) (b o:Nat) (w:World) (h6:x.zD=6→0≤x.fA∧x.fA≤16) (h17:x.zD=17→0≤x.fB∧x.fB≤16) (h:T.at w x.fs b o):Calls Tryz.prog 164 #[.pointer (some ⟨b,o,none⟩)] w fun e w'=> ∃ v,e= .returned v∧OwI 2 w' w.heap.size v (vI x)∧Below w.heap.size w w':=by
 have HAT:=xN h;obtain⟨hlt0,cs,hr,hc⟩:=h;obtain⟨v3,rfl,h3⟩:=xR.yT hr;clear hr;obtain⟨va3,vc3,rfl,vl3,vm3,R3,HX3⟩:=oI h3;clear h3;have HL:=xN hlt0;have HCC:=xN hc;have HB0:=xN (Below.refl w.heap.size w);clear hlt0 hc;have H6:=xN h6;have H17:=xN h17;clear h6 h17;have ZE:=xN (fun(a:Int) (n:Nat) (h:a=(n:Int)) (hn:n≤1048576) (W:World)=>(h ▸ vIz n W hn:Calls Tryz.prog 110 #[.int .i64 a] W fun e w'=> ∃ v',e= .returned v'∧OwI 2 w' W.heap.size v' (List.replicate n 0)∧Below W.heap.size W w'));obtain⟨p0,p1,p2,p3⟩:=pc4 HB0.o HL.o HCC.o;have lb:b<w.heap.size:=zW HL.o HB0.o.size
 go_enter Tryz.func164,Tryz.ntmps164
 by_cases k6:x.zD=6
 ·
  have q6:(x.zD == 6)=true:=xA k6;obtain⟨m,hm⟩: ∃ m:Nat,x.fA=(m:Int):=⟨x.fA.toNat,by have:=H6.o k6;omega⟩;have h16:=H6.o k6;have HM:=xN hm;clear hm;have hm16:m≤16:=by have:=HM.o;omega
  have HS:Sec (vI x=List.replicate m 0):=xN (by unfold vI;rw[if_pos k6,HM.o,Int.toNat_natCast]);clear k6 h16;go_wp2_with fail
  refine(ZE.o _ _ HM.o zM _).mono ?_;rintro e w1 ⟨v,rfl,ho,hb⟩;have HO:=xN ho;have HB:=xN hb;clear ho hb;go_wp2;go_ret
  exact⟨_,rfl,by rw[HS.o];exact HO.o,HB.o⟩
 have q6:(x.zD == 6)=false:=yZ k6;by_cases k17:x.zD=17
 ·
  have q17:(x.zD == 17)=true:=xA k17;obtain⟨m,hm⟩: ∃ m:Nat,x.fB=(m:Int):=⟨x.fB.toNat,by have:=H17.o k17;omega⟩;have h16:=H17.o k17;have HM:=xN hm;clear hm;have hm16:m≤16:=by have:=HM.o;omega
  have HS:Sec (vI x=List.replicate m 0):=xN (by unfold vI;rw[if_neg k6,if_pos k17,HM.o,Int.toNat_natCast]);clear k6 k17 h16;go_wp2_with fail
  refine(ZE.o _ _ HM.o zM _).mono ?_;rintro e w1 ⟨v,rfl,ho,hb⟩;have HO:=xN ho;have HB:=xN hb;clear ho hb;go_wp2;go_ret
  exact⟨_,rfl,by rw[HS.o];exact HO.o,HB.o⟩
 have q17:(x.zD == 17)=false:=yZ k17;by_cases k7:x.zD=7
 ·
  have q7:(x.zD == 7)=true:=xA k7;have HS:Sec (vI x= [0]):=xN (by unfold vI;rw[if_neg k6,if_neg k17,if_pos zM]);clear k6 k17 k7;go_wp2;go_ret
  exact⟨_,rfl,by rw[HS.o];exact uJz _ _ _,zR.alloc zJ _⟩
 have q7:(x.zD == 7)=false:=yZ k7;by_cases k8:x.zD=8
 ·
  have q8:(x.zD == 8)=true:=xA k8;have HS:Sec (vI x= [0]):=xN (by unfold vI;rw[if_neg k6,if_neg k17,if_pos zM]);clear k6 k17 k8 k7;go_wp2;go_ret
  exact⟨_,rfl,by rw[HS.o];exact uJz _ _ _,zR.alloc zJ _⟩
 have q8:(x.zD == 8)=false:=yZ k8;by_cases k16:x.zD=16
 ·
  have q16:(x.zD == 16)=true:=xA k16;have HS:Sec (vI x= [0]):=xN (by unfold vI;rw[if_neg k6,if_neg k17,if_pos zM]);clear k6 k17 k16 k7 k8;go_wp2;go_ret
  exact⟨_,rfl,by rw[HS.o];exact uJz _ _ _,zR.alloc zJ _⟩
 have q16:(x.zD == 16)=false:=yZ k16;by_cases k12:x.zD=12
 ·
  have q12:(x.zD == 12)=true:=xA k12;have HS:Sec (vI x= [x.fA]):=xN (by unfold vI;rw[if_neg k6,if_neg k17,if_neg zM,if_pos zM]);clear k6 k17 k12 k7 k8 k16;go_wp2;go_ret
  exact⟨_,rfl,by rw[HS.o];exact uJz _ _ _,zR.alloc zJ _⟩
 have q12:(x.zD == 12)=false:=yZ k12;by_cases k14:x.zD=14
 ·
  have q14:(x.zD == 14)=true:=xA k14;have HS:Sec (vI x= [x.fA]):=xN (by unfold vI;rw[if_neg k6,if_neg k17,if_neg zM,if_pos zM]);clear k6 k17 k14 k7 k8 k16 k12;go_wp2;go_ret
  exact⟨_,rfl,by rw[HS.o];exact uJz _ _ _,zR.alloc zJ _⟩
 have q14:(x.zD == 14)=false:=yZ k14;have HS:Sec (vI x= []):=xN (by unfold vI;rw[if_neg k6,if_neg k17,if_neg zM,if_neg zM]);clear k6 k17 k7 k8 k16 k12 k14;go_wp2;go_ret
 exact⟨_,rfl,by rw[HS.o];exact vP _,zR.alloc zJ _⟩
end
section
open Go.RowKit
def addN (a b:List Int) (g:Int) (k:Nat):List Int:=(List.range k).map fun(i:Nat)=>wrp (wM a (i:Int)+g * wM b (i:Int))
theorem addN_snoc (a b:List Int) (g:Int) (k:Nat):addN a b g (k+1)=addN a b g k++ [wrp (wM a (k:Int)+g * wM b (k:Int))]:=by
 unfold addN;rw[List.range_succ,List.map_append];rfl
theorem length_addN (a b:List Int) (g:Int) (k:Nat):(addN a b g k).length=k:=by simp[addN]
theorem wrp_inner (x y:Int):wrp (x+wrp y)=wrp (x+y):=wrp_mod (by unfold wrp;omega)
theorem add_in {a b:List Int} {g:Int} (ha: ∀ x ∈ a,Smp x) (hb: ∀ x ∈ b,Smp x) (hg:Smp g) (k:Int):IntKind.i64.wrap (g * wM b k)=g * wM b k∧IntKind.i64.wrap (wM a k+g * wM b k)=wM a k+g * wM b k∧Smp (wM a k)∧Smp (wM b k):=by
 have h1:=wXz ha k;have h2:=wXz hb k;have h3:=smp_mul hg h2;refine⟨IntWalk.i64_in _ zM,IntWalk.i64_in _ (by unfold Smp at h1;omega),h1,h2⟩
theorem c_l03Add (v u:Value) (a b:List Int) (g:Int) (w:World) (ha:RdI w v a) (hb:RdI w u b) (sa: ∀ x ∈ a,Smp x) (sb: ∀ x ∈ b,Smp x) (sg:Smp g) (na:a.length≤1048576) (nb:b.length≤1048576):Calls Tryz.prog 112 #[v,u,.int .i64 g] w fun e w'=> ∃ v',e= .returned v'∧OwI 2 w' w.heap.size v' (addS a b g)∧Below w.heap.size w w':=by
 have HA:=xN ha;have HBB:=xN hb;obtain⟨A,cap,rfl,hl,hc,_⟩:=ha.open_;obtain⟨A2,cap2,rfl,hl2,hc2,_⟩:=hb.open_;clear ha hb;obtain⟨n,hn⟩: ∃ n:Nat,max a.length b.length=n:=⟨_,rfl⟩;have hm:max (a.length:Int) (b.length:Int)=(n:Int):=by omega
 have hn2:n≤1048576:=by omega
 have HALL:=xN (show addN a b g n=addS a b g by rw[←hn];rfl);have HS:=xN (add_in sa sb sg);have HM:=xN hm;clear hm hn sa sb
 go_enter Tryz.func112,Tryz.ntmps112
 go_wp2_with (go_at_call 116;refine(c_qMax _ _ _).mono ?_;rintro e w' ⟨rfl,rfl⟩;rw[HM.o])
 have HO0:=xN (vP w);have HB0:=xN (show Below w.heap.size w (w.alloc (.cells #[] 2)) from zR.alloc zJ _)
 go_loopw [7,9] (fun r i wr=> ∃ k:Nat,k≤n∧i= .int .i64 (k:Int)∧OwI 2 wr w.heap.size r (addN a b g k)∧Below w.heap.size w wr) (fun _ i _=>n - (intOf i).toNat)
 case atStart=>exact⟨0,Nat.zero_le _,rfl,HO0.o,HB0.o⟩
 case round=>
  obtain⟨k,hk,rfl,ho,hbw⟩:=hrel;have HO:=xN ho;have HB:=xN hbw;have hsz:=hbw.size;clear ho hbw;by_cases hlt:k<n
  ·have hll:(addN a b g k).length+1≤17592186044416:=by rw[length_addN];omega
   obtain⟨q1,q2,q3,q4⟩:=HS.o (k:Int);have HQ3:=xN q3;have HQ4:=xN q4;clear q1 q2 q3 q4;have HEQ:=xN (show wrp (wM a (k:Int)+wrp (wM b (k:Int) * g))=wrp (wM a (k:Int)+g * wM b (k:Int)) by rw[wrp_inner,Int.mul_comm (wM b (k:Int)) g]);go_wp2_with fail
   refine(c_l03At _ a _ _ (Rd.below HA.o HB.o)).mono ?_;rintro e w' ⟨rfl,rfl⟩;go_wp2_with fail
   refine(c_l03At _ b _ _ (Rd.below HBB.o HB.o)).mono ?_;rintro e w' ⟨rfl,rfl⟩;go_wp2_with (first|(go_at_call 143;refine(zBy _ _ _ HQ4.o sg).mono ?_;rintro e w' ⟨rfl,rfl⟩)|(go_at_call 142;refine(c_mAdd _ _ _ HQ3.o (zRz _)).mono ?_;rintro e w' ⟨rfl,rfl⟩;rw[HEQ.o])|(at_builtin;refine yGz (n:=wrp (wM a (k:Int)+g * wM b (k:Int))) rfl _ _ rfl rfl HO.o rfl hll hsz ?_;intro v8 w8 ho8 hg8 hv8;have HO8:=xN ho8;have HB8:=xN (HB.o.grown hg8 hsz (fun j hj=>(HO.o.lt j hj).1));clear ho8 hg8 hv8))
   go_roundw
   case rel=>exact⟨k+1,by omega,by go_num,by rw[addN_snoc];exact HO8.o,HB8.o⟩
   case measure=>simp[intOf];omega
  ·obtain rfl:k=n:=by omega
   go_wp2;go_ret
   exact⟨_,rfl,by rw[←HALL.o];exact HO.o,HB.o⟩
end
section
open Go.RowKit
theorem c_l27Late (v:Value) (a:List Int) (b n:Nat) (w:World) (ha:RdI w v a) (na:a.length≤1048576) (hb:b≤1048576) (hn:n≤1048576):Calls Tryz.prog 113 #[v,.int .i64 (b:Int),.int .i64 (n:Int)] w fun e w'=> ∃ v',e= .returned v'∧OwI 2 w' w.heap.size v' (xMz a b n)∧Below w.heap.size w w':=by
 have HA:=xN ha;clear ha
 go_enter Tryz.func113,Tryz.ntmps113
 go_wp2_with fail
 refine(vIz b _ hb).mono ?_;rintro e w1 ⟨v1,rfl,ho,hb1⟩;have HO1:=xN ho;have HB1:=xN hb1;have hs1:=hb1.size;clear ho hb1;go_wp2_with (at_builtin;refine appm_i64 rfl _ _ rfl rfl HO1.o rfl (Rd.below HA.o HB1.o) (by rw[List.length_replicate];omega) hs1 ?_;intro v2 w2 ho2 hg2 hv2;have HB2:=xN (HB1.o.grown hg2 hs1 (fun j hj=>(HO1.o.lt j hj).1));have HO2:=xN ho2;clear ho2 hg2 hv2)
 refine(c_l03Slice _ (List.replicate b 0++a) 0 n _ (by decide) (by decide) hn HO2.o.rd).mono ?_;rintro e w3 ⟨v3,rfl,ho,hb⟩;have HO3:=xN (zGz ho HB2.o.size);have HB3:=xN (yO HB2.o HB2.o.size hb);clear ho hb;go_wp2;go_ret
 exact⟨_,rfl,HO3.o,HB3.o⟩
theorem c_l08In (x:xR) (b o:Nat) (frame vals:List Int) (fv vv:Value) (w:World) (h1:x.zD=1→0≤x.fA∧x.fA<(frame.length:Int)) (h2:Idx x.zO (vals.length:Int)) (hn:x.zO.length≤1048576) (hf:RdI w fv frame) (hv:RdI w vv vals) (h:T.at w x.fs b o):Calls Tryz.prog 174 #[.pointer (some ⟨b,o,none⟩),fv,vv] w fun e w'=> ∃ v,e= .returned v∧OwI 2 w' w.heap.size v (inF x frame vals)∧Below w.heap.size w w':=by
 have HAT:=xN h;obtain⟨hlt0,cs,hr,hc⟩:=h;obtain⟨v3,rfl,h3⟩:=xR.yT hr;clear hr;obtain⟨va3,vc3,rfl,vl3,vm3,R3,HX3⟩:=oI h3;clear h3;have HL:=xN hlt0;have HCC:=xN hc;have HB0:=xN (Below.refl w.heap.size w);clear hlt0 hc;have HF:=xN hf;have HV:=xN hv;obtain⟨p0,p1,p2,p3⟩:=pc4 HB0.o HL.o HCC.o;have lb:b<w.heap.size:=zW HL.o HB0.o.size;by_cases hk:x.zD=1
 ·
  obtain⟨n0,n1⟩:=h1 hk;have hj:x.fA.toNat<frame.length:=by omega
  obtain⟨bf,of,cf,rfl,lf,mf,lbf,hcf⟩:=wP hf zM;have hg:=gE hj;have c0:=hcf _ _ hg;have HE:=xN (show inF x frame vals= [frame[x.fA.toNat]] by unfold inF;rw[if_pos hk,List.getD_eq_getElem?_getD,hg];rfl);generalize frame[x.fA.toNat]=y at *;generalize inF x frame vals=IN at *;have q0:(x.zD == 1)=true:=xA hk;have HK_:=xN hk;clear hk hcf hg hf hv h1 h2
  go_enter Tryz.func174,Tryz.ntmps174
  go_wp2;go_ret
  exact⟨_,rfl,by rw[HE.o];exact lit1 w _,zR.alloc zJ _⟩
 ·
  have HE:=xN (show inF x frame vals=x.zO.map (fun i=>vals.getD i.toNat 0) by unfold inF;rw[if_neg hk]);generalize inF x frame vals=IN at *;have q0:(x.zD == 1)=false:=yZ hk;have H2:=xN h2;clear hk h1 h2 hf hv
  go_enter Tryz.func174,Tryz.ntmps174
  go_wp2_with (go_at_call 178;refine(c_l07Map _ _ x.zO vals _ R3.o HV.o H2.o hn).mono ?_;rintro e w1 ⟨v1,rfl,ho,hb⟩;have HO:=xN ho;have HB1:=xN hb;clear ho hb)
  go_ret
  exact⟨_,rfl,by rw[HE.o];exact HO.o,HB1.o⟩
end
section
open Go.RowKit
end
section
open Go.RowKit
section
variable {P:Program} {ops:Array Oper} {Q:Exit→Act→World→Prop} {md:Region.Mode} {S:World→Prop} {n:Nat}
def xFz (P:Program) (md:Region.Mode) (ops:Array Oper) (Q:Exit→Act→World→Prop) (S:World→Prop) (n:Nat):Nat→Array Bool→Act→World→Prop
 |0,listed,a,w=>Region.ready md ops listed= []∧Q .normal a w
 |fuel+1,listed,a,w=>
  (Region.ready md ops listed= []→Q .normal a w)∧
  ∀ i ∈ Region.ready md ops listed,wpOp P ops Q i (fun a' w'=>(i=n∨S w')∧xFz P md ops Q S n fuel (listed.setIfInBounds i true) a' w') a w
theorem wpAny_of_E: ∀ (fuel:Nat) (listed:Array Bool) (a:Act) (w:World),xFz P md ops Q S n fuel listed a w→wpAny P md ops Q fuel listed a w
 |0,_,_,_,h=>h
 |fuel+1,_,_,_,h=>⟨h.1,fun i hi=>wpOp_mono (fun a' w' h'=>wpAny_of_E fuel _ a' w' h'.2) (h.2 i hi)⟩
theorem wpAnyE_first {i:Nat} {oi:Oper} {v:Value} (hn:Region.waitsFor md ops n i=true) (hi:ops[i]?=some oi) (hsel: ∀ (j:Nat) (o:Oper) cs b,ops[j]?=some o→o.op≠ .select cs b)
  (hQ: ∀ c a w,Q (.panic c) (a.put oi.dst v) w→Q (.panic c) a w):
  ∀ (fuel:Nat) (listed:Array Bool) (a:Act) (w:World),
   (∀ j oj,ops[j]?=some oj→j≠i→listed.getD j true=false→(∀ e ∈ oj.after,Region.binds md e=true→e.on≠i)→oi.apart ops oj=true)→
   i ∈ Region.ready md ops listed→YieldsIf P ops S oi v a→S w→
   xFz P md ops Q S n fuel (listed.setIfInBounds i true) (a.put oi.dst v) w→xFz P md ops Q S n (fuel+1) listed a w:=by
 have late: ∀ {listed:Array Bool} {j:Nat},i ∈ Region.ready md ops listed→j ∈ Region.ready md ops listed→j≠n:=by
  intro listed j hr hj e;subst e;obtain⟨oj,hoj,e,he,hb,heq⟩:=Region.waitsFor_spec hn;obtain⟨_,oj',hoj',hall⟩:=mem_ready.1 hj;obtain rfl:oj=oj':=Option.some.inj (hoj.symm.trans hoj');have h1:=hall e he hb;have h0:=(mem_ready.1 hr).1;rw[heq,getD_both h0] at h1
  cases h1
 intro fuel
 induction fuel with
 |zero=>
  intro listed a w _ hr hy hS H;refine⟨fun h=>(by rw[h] at hr;cases hr),fun j hj=>?_⟩;by_cases hji:j=i
  ·subst hji;exact hy.wpOp hi hS ⟨.inr hS,H⟩
  ·have:=ready_mono hj hji
   rw[H.1] at this
   cases this
 |succ fuel ih=>
  intro listed a w hfree hr hy hS H;refine⟨fun h=>(by rw[h] at hr;cases hr),fun j hj=>?_⟩;by_cases hji:j=i
  ·subst hji;exact hy.wpOp hi hS ⟨.inr hS,H⟩
  ·have h1:=H.2 j (ready_mono hj hji)
   obtain⟨hjun,oj,hoj,hall⟩:=mem_ready.1 hj;have hun:=(mem_ready.1 hr).1
   have hnot: ∀ e ∈ oj.after,Region.binds md e=true→e.on≠i:=fun e he hb heq=>by
    have h1:=hall e he hb;rw[heq,getD_both hun] at h1
    cases h1
   have h2:=wpOp_putIf hoj (hfree j oj hoj hji hjun hnot) (fun cs b=>hsel i oi cs b hi) (fun cs b=>hsel j oj cs b hoj) hQ hy h1
   have hfree': ∀ k ok,ops[k]?=some ok→k≠i→(listed.setIfInBounds j true).getD k true=false→
     (∀ e ∈ ok.after,Region.binds md e=true→e.on≠i)→oi.apart ops ok=true:=fun k ok hk hki hun hno=>by
    refine hfree k ok hk hki ?_ hno;by_cases hjk:j=k
    ·subst hjk;exact hjun
    ·rw[getD_set_ne true hjk] at hun;exact hun
   have hjn:=late hr hj;refine wpOp_mono (fun a' w' h3=>?_) h2;have hS':S w':=h3.2.1.resolve_left hjn;refine⟨.inr hS',ih (listed.setIfInBounds j true) a' w' hfree' (ready_mono hr (Ne.symm hji)) h3.1 hS' ?_⟩;rw[Array.setIfInBounds_comm _ _ hji];exact h3.2.2
theorem xG {i:Nat} {oi:Oper} {v:Value} {fuel:Nat} {listed:Array Bool} {a:Act} {w:World} (hn:Region.waitsFor md ops n i=true) (hi:ops[i]?=some oi)
  (hs:Region.noSelect ops=true) (hf:Region.free md ops listed i=true) (hr:(Region.ready md ops listed).contains i=true)
  (hQ: ∀ c a w,Q (.panic c) (a.put oi.dst v) w→Q (.panic c) a w) (hS:S w) (hw:Region.wanted oi (yielded ops a.tmps)=true) (hy: ∀ w,S w→(execOp a.eval oi).run P w= .ok (.value v) w)
  (h:xFz P md ops Q S n fuel (listed.setIfInBounds i true) (a.put oi.dst v) w):xFz P md ops Q S n (fuel+1) listed a w:=
 wpAnyE_first hn hi (Region.noSelect_spec hs) hQ fuel listed a w (Region.free_spec hi hf) (by simpa using hr) (.inl ⟨hw,hy⟩) hS h
theorem wpAnyE_one {i:Nat} {o:Oper} {fuel:Nat} {listed:Array Bool} {a:Act} {w:World} (hr:Region.ready md ops listed= [i]) (ho:ops[i]?=some o)
  (h: ∀ K':Act→World→Prop,Shut (∀ a w,S w→(S w→xFz P md ops Q S n fuel (listed.setIfInBounds i true) a w)→K' a w)→if Region.wanted o (yielded ops a.tmps)=true then Oper.wp P o a w K' Q else K' (a.put o.dst undef) w):
  xFz P md ops Q S n (fuel+1) listed a w:=
 ⟨fun h0=>(by rw[hr] at h0;cases h0),fun j hj=>by
  rw[hr,List.mem_singleton] at hj;subst hj;exact wpOp_step ho (fun K' hK=>h K' (fun a w hS hW=>hK a w ⟨.inr hS,hW hS⟩))⟩
theorem wpAnyE_tail {o:Oper} {fuel:Nat} {listed:Array Bool} {a:Act} {w:World} (hr:Region.ready md ops listed= [n]) (ho:ops[n]?=some o) (hr2:Region.ready md ops (listed.setIfInBounds n true)= [])
  (h:wpList P ops Q [o] a w):xFz P md ops Q S n (fuel+1) listed a w:=
 ⟨fun h0=>(by rw[hr] at h0;cases h0),fun j hj=>by
  rw[hr,List.mem_singleton] at hj;subst hj;have hw:wpOp P ops Q j (wpList P ops Q []) a w:=by unfold wpOp;simp only[ho];exact h
  refine wpOp_mono (fun a' w' h'=>⟨.inl rfl,?_⟩) hw;have h':Q .normal a' w':=h'
  cases fuel with
  |zero=>exact⟨hr2,h'⟩
  |succ f=>exact⟨fun _=>h',by rw[hr2];simp⟩⟩
theorem zEz {id:Nat} {a:Act} {w:World} (S:World→Prop) (n:Nat) (hm:P.follows .mixedOrders=true) (hS:S w.drew)
  (h:S w.drew→xFz P .any ops Q S n ops.size (Array.replicate ops.size false) a w.drew):(Code.region id ops true).wp P Q a w:=
 wp_region_any hm (wpAny_of_E _ _ _ _ (h hS))
end
theorem zE {P:Program} {md:Region.Mode} {ops:Array Oper} {Q:Exit→Act→World→Prop} {S:World→Prop} {n:Nat} (i:Nat) {oi:Oper} {v:Value} {fuel:Nat} {listed:Array Bool} {a b:Act} {w:World} (hS:S w)
  (h:xFz P md ops Q S n fuel (listed.setIfInBounds i true) b w)
  (hi:ops[i]?=some oi:=by rfl)
  (hc:(Region.waitsFor md ops n i && Region.noSelect ops && Region.free md ops listed i && (Region.ready md ops listed).contains i)=true:=by kernel_rfl)
  (hQ: ∀ c a w,Q (.panic c) (a.put oi.dst v) w→Q (.panic c) a w:=by exact fun _ _ _ h=>h)
  (hw:Region.wanted oi (yielded ops a.tmps)=true:=by rfl)
  (hy: ∀ w,S w→(execOp a.eval oi).run P w= .ok (.value v) w:=by(intro w hSw;(try dsimp only at hSw);first|(go_simp;done)|(go_simp;with_reducible rfl)))
  (hb:a.put oi.dst v=b:=by(simp only[Act.put,List.setIfInBounds_toArray,List.set_cons_zero,List.set_cons_succ];try with_reducible rfl)):xFz P md ops Q S n (fuel+1) listed a w:=by
 subst hb;simp only[Bool.and_eq_true] at hc;obtain⟨⟨⟨h1,h2⟩,h3⟩,h4⟩:=hc;exact xG h1 hi h2 h3 h4 hQ hS hw hy h
theorem qE {P:Program} {md:Region.Mode} {ops:Array Oper} {Q:Exit→Act→World→Prop} {S:World→Prop} {n:Nat} {o:Oper} {fuel:Nat} {listed:Array Bool} {a:Act} {w:World} (h:wpList P ops Q [o] a w)
  (hr:Region.ready md ops listed= [n]:=by kernel_rfl) (ho:ops[n]?=some o:=by rfl) (hr2:Region.ready md ops (listed.setIfInBounds n true)= []:=by kernel_rfl):xFz P md ops Q S n (fuel+1) listed a w:=wpAnyE_tail hr ho hr2 h
theorem pE {P:Program} {md:Region.Mode} {ops:Array Oper} {Q:Exit→Act→World→Prop} {S:World→Prop} {n:Nat} (i:Nat) {o:Oper} {fuel:Nat} {listed:Array Bool} {a:Act} {w:World}
  (h: ∀ K':Act→World→Prop,Shut (∀ a w,S w→(S w→xFz P md ops Q S n fuel (listed.setIfInBounds i true) a w)→K' a w)→if Region.wanted o (yielded ops a.tmps)=true then Oper.wp P o a w K' Q else K' (a.put o.dst undef) w)
  (hr:Region.ready md ops listed= [i]:=by kernel_rfl) (ho:ops[i]?=some o:=by rfl):xFz P md ops Q S n (fuel+1) listed a w:=wpAnyE_one hr ho h
theorem uE {S:World→Prop} {R K:Act→World→Prop} {a b:Act} {w:World} (hK:Shut (∀ a w,S w→(S w→R a w)→K a w)) (hS:S w) (h:S w→R b w)
  (hb:a=b:=by(try simp only[Act.put,List.setIfInBounds_toArray,List.set_cons_zero,List.set_cons_succ]);try with_reducible rfl):K a w:=by
 subst hb;exact hK.out a w hS h
end
section
open Go.RowKit
theorem knd_few (k:Int):(uF k).inputs≤3:=by
 unfold uF;rw[List.getD_eq_getElem?_getD]
 cases hg:kndL[(k - 1).toNat]? with
 |none=>decide
 |some y=>exact(by decide: ∀ y ∈ kndL,y.inputs≤3) y (List.mem_of_getElem? hg)
theorem arity_few {x:xR} {n:Int} (h:yCz x n):x.zO.length≤3:=by
 have h1:=h.arity;have h2:=knd_few x.zD
 omega
structure Cel (w:World) (bc:Nat) (A:List Nat) (t:TypeId) (cs:Array Value) (cells:List (List Int)):Prop where
 bk:Bk w bc t cs
 each: ∀ (i:Nat) (l:List Int),cells[i]?=some l→ ∃ v:Value,cs[i]?=some v∧RdI w v l∧(∀ q ∈ A,v.ownBlock≠some q)∧ ∀ k,v.ownBlock=some k→k<w.heap.size
section
variable {w w':World} {bc:Nat} {A:List Nat} {t:TypeId} {cs:Array Value} {cells:List (List Int)}
theorem Cel.below (h:Cel w bc A t cs cells) (hb:Below w.heap.size w w'):Cel w' bc A t cs cells:=
 ⟨h.bk.below hb h.bk.lt,fun i l hl=>by
  obtain⟨v,h1,h2,h3,h4⟩:=h.each i l hl;exact⟨v,h1,RdI.below h2 hb,h3,fun k hk=>zW (h4 k hk) hb.size⟩⟩
theorem Cel.grow (h:Cel w bc A t cs cells) {row:Option Nat} (hg:w.grownBy w' row) (hrow: ∀ g,row=some g→g ∈ A∧bc≠g) {G:List Nat} (hG: ∀ g ∈ G,g ∈ A∨w.heap.size≤g):Cel w' bc (G++A) t cs cells:=
 ⟨h.bk.grown hg (fun e=>(hrow bc e.symm).2 rfl),fun i l hl=>by
  obtain⟨v,h1,h2,h3,h4⟩:=h.each i l hl;refine⟨v,h1,RdI.grown h2 hg (fun b hb e=>h3 b (hrow b e.symm).1 hb),fun q hq e=>?_,fun k hk=>zW (h4 k hk) hg.size⟩
  rcases List.mem_append.1 hq with hq|hq
  ·rcases hG q hq with h5|h5
   ·exact h3 q h5 e
   ·have:=h4 q e;omega
  ·exact h3 q hq e⟩
theorem Cel.put (h:Cel w bc A t cs cells) {i:Nat} {l0 l:List Int} {v:Value} (hi:cells[i]?=some l0) (hv:RdI w v l) (hc:bc ∈ A) (hn: ∀ q ∈ A,v.ownBlock≠some q) (hl4: ∀ k,v.ownBlock=some k→k<w.heap.size):Cel (w.setCell ⟨bc,i,none⟩ v) bc A t (cs.setIfInBounds i v) (cells.set i l):=by
 have hg:=((Gr.refl bc w).set_ i v).1;have hsz:(w.setCell ⟨bc,i,none⟩ v).heap.size=w.heap.size:=by simp[World.setCell]
 refine⟨h.bk.set_ i v,fun j l' hl=>?_⟩;by_cases e:i=j
 ·subst e
  obtain⟨v0,h1,_⟩:=h.each i l0 hi;have hlt:i<cs.size:=(Array.getElem?_eq_some_iff.1 h1).1;rw[List.getElem?_set_self (List.getElem?_eq_some_iff.1 hi).1] at hl;injection hl with hl;subst hl;exact⟨v,by rw[Array.getElem?_setIfInBounds_self_of_lt hlt],RdI.grown hv hg (fun b hb e=>hn bc hc (hb.trans e)),hn,fun k hk=>by rw[hsz];exact hl4 k hk⟩
 ·rw[List.getElem?_set_ne e] at hl
  obtain⟨v',h1,h2,h3,h4⟩:=h.each j l' hl;exact⟨v',by rw[Array.getElem?_setIfInBounds_ne e];exact h1,RdI.grown h2 hg (fun b hb e=>h3 bc hc (hb.trans e)),h3,fun k hk=>by rw[hsz];exact h4 k hk⟩
end
end
end Go.Proofs.YtdcofkabaigjpaaGreat
