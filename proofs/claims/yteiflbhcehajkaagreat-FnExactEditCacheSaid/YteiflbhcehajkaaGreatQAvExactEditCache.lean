/- Contracts: states and what rings, by the program. -/
import Derived.Test.YteiflbhcehajkaaGreatQAcExactEditCache
import Derived.Test.YteiflbhcehajkaaGreatQAsExactEditCache
import Derived.Test.YteiflbhcehajkaaGreatQAeExactEditCache
set_option linter.unusedVariables false
set_option linter.unusedSimpArgs false
set_option maxHeartbeats 2000000
set_option maxRecDepth 20000
namespace Go.Proofs.YteiflbhcehajkaaGreat
open Go.RowKit
theorem nodeOk_start {x:GNode} {t:Int} (h:NodeOk x t):(x.zC=6→0≤x.fA∧x.fA≤16)∧(x.zC=17→0≤x.fB∧x.fB≤16):=by
 refine⟨fun k=>?_,fun k=>?_⟩
 ·have:=h.a
  rw[k] at this
  have:=yY.1 (show inB x.fA 1 16=true from this)
  omega
 ·have:=h.b
  rw[k] at this
  have:=yY.1 (show inB x.fB 1 16=true from this)
  omega
theorem effectOk_nodes {p:GPatch} (h:EffectOk p): ∀ x ∈ p.zH,∃ t,NodeOk x t:=by
 intro x hx
 rcases h with h|h
 ·subst h;simp[noPatch] at hx
 ·obtain⟨i,hi⟩:=List.mem_iff_getElem?.1 hx
  exact⟨_,(h.1.formed.nodes i x hi).1⟩
theorem befS_ge {l:List GSend} {p n:Int} (h:Each l fun i x=>inB x.yB (befS l p i+1) (n - 1)=true∧Smp x.zQ): ∀ (i:Nat) (x:GSend),l[i]?=some x→p<x.yB∧x.yB≤n - 1
 |0,x,hx=>by
  have:=yY.1 (h 0 x hx).1
  rw[befS_zero] at this
  omega
 |i+1,x,hx=>by
  have hl:=(List.getElem?_eq_some_iff.1 hx).1
  have hy:=List.getElem?_eq_getElem (show i<l.length by omega)
  have h1:=befS_ge h i _ hy
  have h2:=yY.1 (h (i+1) x hx).1
  rw[befS_succ hy] at h2
  omega
theorem sends_to {s:GSession} (hv:SessionOk s) {j:Nat} {y:GStrip} (hj:s.zF.zD[j]?=some y): ∀ x ∈ y.zS,(j:Int)<x.yB∧x.yB≤(s.zF.zD.length:Int) - 1:=by
 intro x hx
 obtain⟨i,hi⟩:=List.mem_iff_getElem?.1 hx
 exact befS_ge (hv.mixer.each j y hj).1.sends.each i x hi
theorem ow_lit1 (E:TypeId) (w:World) (n:Int):OwI E (w.alloc (.cells #[.int .i64 n] E)) w.heap.size (.slice (some ⟨w.heap.size,0,none⟩) 1 1) [n]:=
 ⟨rfl,.inr ⟨w.heap.size,1,#[.int .i64 n],rfl,Nat.le_refl _,heap_alloc_new w _,Nat.le_refl _,by decide,rfl,by simp⟩⟩
theorem c_zeros0 (n:Nat) (w:World) (hn:n≤1048576):Calls Tryz.prog 127 #[.int .i64 (n:Int)] w fun e w'=>e= .returned (.slice (some ⟨w.heap.size,0,none⟩) n n)∧OwI 2 w' w.heap.size (.slice (some ⟨w.heap.size,0,none⟩) n n) (List.replicate n 0)∧Below w.heap.size w w':=by
 obtain⟨i0,hi,hz0,hz1,hz2⟩:=info_parts info_i64
 go_enter Tryz.func127,Tryz.ntmps127
 go_wp2_with (at_make;refine wpList_make_full _ rfl _ _ _ rfl w.heap.size 2 i0 _ 1 Tryz.underlying24 hi hz0 hz1 .i64 .i64 _ _ n rfl rfl rfl rfl (by rw[hz2];omega) (by unfold maxLen;omega) (Nat.le_refl _) ?_;intro w1 hown1 hg1)
 have ho1:OwI 2 w1 w.heap.size _ _:=OwI.made _ w1 (n:=n) hg1.size (by unfold maxLen;omega) 0 hown1
 have hb1:Below w.heap.size w w1:=(Below.refl _ _).grown hg1 (Nat.le_refl _) (by simp)
 clear hown1 hg1
 have HO:=hide ho1;have HB:=hide hb1;clear ho1 hb1
 go_wp2
 go_ret
 exact⟨rfl,HO.out,HB.out⟩
theorem c_start (x:GNode) (cs:List Value) (w:World) (h6:x.zC=6→0≤x.fA∧x.fA≤16) (h17:x.zC=17→0≤x.fB∧x.fB≤16) (h:T.rds w x.fs cs):Calls Tryz.prog 212 #[.agg cs.toArray] w fun e w'=> ∃ v,e= .returned v∧OwI 2 w' w.heap.size v (startL x)∧Below w.heap.size w w':=by
 obtain⟨v3,rfl,h3⟩:=GNode.yL h
 clear h
 have h3i:=T.yQ.1 h3;obtain⟨va3,vc3,rfl,vl3,vm3,vx3⟩:=h3i.open_
 have R3:=hide h3i;have HX3:=hide vx3;clear vx3 h3 h3i
 have HB0:=hide (show Below w.heap.size w (w.alloc (.cells #[.int .i64 x.zC,.int .i64 x.fA,.int .i64 x.fB,(.slice va3 x.zI.length vc3)] 198)) from(Below.refl _ _).alloc (Nat.le_refl _) _)
 have HK0:=hide (Bk.born w 198 #[.int .i64 x.zC,.int .i64 x.fA,.int .i64 x.fB,(.slice va3 x.zI.length vc3)])
 have H6:=hide h6;have H17:=hide h17;clear h6 h17
 have ZE:=hide (fun(a:Int) (n:Nat) (h:a=(n:Int)) (hn:n≤1048576) (W:World)=>(h ▸ c_zeros0 n W hn:Calls Tryz.prog 127 #[.int .i64 a] W fun e w'=>e= .returned (.slice (some ⟨W.heap.size,0,none⟩) n n)∧OwI 2 w' W.heap.size (.slice (some ⟨W.heap.size,0,none⟩) n n) (List.replicate n 0)∧Below W.heap.size W w'))
 go_enter Tryz.func212,Tryz.ntmps212
 by_cases k6:x.zC=6
 ·
  have q6:(x.zC == 6)=true:=yP k6
  obtain⟨m,hm⟩: ∃ m:Nat,x.fA=(m:Int):=⟨x.fA.toNat,by have:=H6.out k6;omega⟩
  have h16:=H6.out k6;have HM:=hide hm;clear hm;have hm16:m≤16:=by have:=HM.out;omega
  have HS:Sec (startL x=List.replicate m 0):=hide (by unfold startL;rw[if_pos k6,HM.out,Int.toNat_natCast]);clear k6 h16
  go_wp2_with fail
  refine(ZE.out _ _ HM.out (by omega) _).mono ?_;rintro e w1 ⟨rfl,ho,hb⟩
  have HO:=hide (OwI.more ho HB0.out.size);have HB:=hide (yG HB0.out HB0.out.size hb);clear ho hb
  go_wp2
  go_ret
  exact⟨.slice (some ⟨w.heap.size+1,0,none⟩) m m,rfl,by rw[HS.out];simpa using HO.out,HB.out⟩
 have q6:(x.zC == 6)=false:=yO k6
 by_cases k17:x.zC=17
 ·
  have q17:(x.zC == 17)=true:=yP k17
  obtain⟨m,hm⟩: ∃ m:Nat,x.fB=(m:Int):=⟨x.fB.toNat,by have:=H17.out k17;omega⟩
  have h16:=H17.out k17;have HM:=hide hm;clear hm;have hm16:m≤16:=by have:=HM.out;omega
  have HS:Sec (startL x=List.replicate m 0):=hide (by unfold startL;rw[if_neg k6,if_pos k17,HM.out,Int.toNat_natCast]);clear k6 k17 h16
  go_wp2_with fail
  refine(ZE.out _ _ HM.out (by omega) _).mono ?_;rintro e w1 ⟨rfl,ho,hb⟩
  have HO:=hide (OwI.more ho HB0.out.size);have HB:=hide (yG HB0.out HB0.out.size hb);clear ho hb
  go_wp2
  go_ret
  exact⟨.slice (some ⟨w.heap.size+1,0,none⟩) m m,rfl,by rw[HS.out];simpa using HO.out,HB.out⟩
 have q17:(x.zC == 17)=false:=yO k17
 by_cases k7:x.zC=7
 ·
  have q7:(x.zC == 7)=true:=yP k7
  have HS:Sec (startL x=List.replicate 1 0):=hide (by unfold startL;rw[if_neg k6,if_neg k17,if_pos (by omega)];rfl)
  clear k6 k17 k7
  go_wp2_with fail
  refine(ZE.out _ _ (show (1:Int)=((1:Nat):Int) from rfl) (by omega) _).mono ?_;rintro e w1 ⟨rfl,ho,hb⟩
  have HO:=hide (OwI.more ho HB0.out.size);have HB:=hide (yG HB0.out HB0.out.size hb);clear ho hb
  go_wp2
  go_ret
  exact⟨.slice (some ⟨w.heap.size+1,0,none⟩) 1 1,rfl,by rw[HS.out];simpa using HO.out,HB.out⟩
 have q7:(x.zC == 7)=false:=yO k7
 by_cases k8:x.zC=8
 ·
  have q8:(x.zC == 8)=true:=yP k8
  have HS:Sec (startL x=List.replicate 1 0):=hide (by unfold startL;rw[if_neg k6,if_neg k17,if_pos (by omega)];rfl)
  clear k6 k17 k8 k7
  go_wp2_with fail
  refine(ZE.out _ _ (show (1:Int)=((1:Nat):Int) from rfl) (by omega) _).mono ?_;rintro e w1 ⟨rfl,ho,hb⟩
  have HO:=hide (OwI.more ho HB0.out.size);have HB:=hide (yG HB0.out HB0.out.size hb);clear ho hb
  go_wp2
  go_ret
  exact⟨.slice (some ⟨w.heap.size+1,0,none⟩) 1 1,rfl,by rw[HS.out];simpa using HO.out,HB.out⟩
 have q8:(x.zC == 8)=false:=yO k8
 by_cases k16:x.zC=16
 ·
  have q16:(x.zC == 16)=true:=yP k16
  have HS:Sec (startL x=List.replicate 1 0):=hide (by unfold startL;rw[if_neg k6,if_neg k17,if_pos (by omega)];rfl)
  clear k6 k17 k16 k7 k8
  go_wp2_with fail
  refine(ZE.out _ _ (show (1:Int)=((1:Nat):Int) from rfl) (by omega) _).mono ?_;rintro e w1 ⟨rfl,ho,hb⟩
  have HO:=hide (OwI.more ho HB0.out.size);have HB:=hide (yG HB0.out HB0.out.size hb);clear ho hb
  go_wp2
  go_ret
  exact⟨.slice (some ⟨w.heap.size+1,0,none⟩) 1 1,rfl,by rw[HS.out];simpa using HO.out,HB.out⟩
 have q16:(x.zC == 16)=false:=yO k16
 by_cases k12:x.zC=12
 ·
  have q12:(x.zC == 12)=true:=yP k12
  have HS:Sec (startL x= [x.fA]):=hide (by unfold startL;rw[if_neg k6,if_neg k17,if_neg (by omega),if_pos (by omega)])
  clear k6 k17 k7 k8 k16 k12
  have HB:=hide (HB0.out.alloc HB0.out.size (.cells #[.int .i64 x.fA] 2))
  have HO:Sec (OwI 2 ((w.alloc (.cells #[.int .i64 x.zC,.int .i64 x.fA,.int .i64 x.fB,(.slice va3 x.zI.length vc3)] 198)).alloc (.cells #[.int .i64 x.fA] 2)) w.heap.size (.slice (some ⟨(w.alloc (.cells #[.int .i64 x.zC,.int .i64 x.fA,.int .i64 x.fB,(.slice va3 x.zI.length vc3)] 198)).heap.size,0,none⟩) 1 1) [x.fA]):=hide (OwI.more (ow_lit1 _ _ _) HB0.out.size)
  go_wp2
  go_ret
  exact⟨.slice (some ⟨w.heap.size+1,0,none⟩) 1 1,rfl,by rw[HS.out];simpa using HO.out,HB.out⟩
 have q12:(x.zC == 12)=false:=yO k12
 by_cases k14:x.zC=14
 ·
  have q14:(x.zC == 14)=true:=yP k14
  have HS:Sec (startL x= [x.fA]):=hide (by unfold startL;rw[if_neg k6,if_neg k17,if_neg (by omega),if_pos (by omega)])
  clear k6 k17 k7 k8 k16 k14 k12
  have HB:=hide (HB0.out.alloc HB0.out.size (.cells #[.int .i64 x.fA] 2))
  have HO:Sec (OwI 2 ((w.alloc (.cells #[.int .i64 x.zC,.int .i64 x.fA,.int .i64 x.fB,(.slice va3 x.zI.length vc3)] 198)).alloc (.cells #[.int .i64 x.fA] 2)) w.heap.size (.slice (some ⟨(w.alloc (.cells #[.int .i64 x.zC,.int .i64 x.fA,.int .i64 x.fB,(.slice va3 x.zI.length vc3)] 198)).heap.size,0,none⟩) 1 1) [x.fA]):=hide (OwI.more (ow_lit1 _ _ _) HB0.out.size)
  go_wp2
  go_ret
  exact⟨.slice (some ⟨w.heap.size+1,0,none⟩) 1 1,rfl,by rw[HS.out];simpa using HO.out,HB.out⟩
 have q14:(x.zC == 14)=false:=yO k14
 have HS:Sec (startL x=List.replicate 0 0):=hide (by unfold startL;rw[if_neg k6,if_neg k17,if_neg (by omega),if_neg (by omega)];rfl)
 clear k6 k17 k7 k8 k16 k12 k14
 go_wp2_with fail
 refine(ZE.out _ _ (show (0:Int)=((0:Nat):Int) from rfl) (by omega) _).mono ?_;rintro e w1 ⟨rfl,ho,hb⟩
 have HO:=hide (OwI.more ho HB0.out.size);have HB:=hide (yG HB0.out HB0.out.size hb);clear ho hb
 go_wp2
 go_ret
 exact⟨.slice (some ⟨w.heap.size+1,0,none⟩) 0 0,rfl,by rw[HS.out];simpa using HO.out,HB.out⟩
theorem c_hasState1 (x:GNode) (cs:List Value) (w:World) (h6:x.zC=6→0≤x.fA∧x.fA≤16) (h17:x.zC=17→0≤x.fB∧x.fB≤16) (h:T.rds w x.fs cs):Calls Tryz.prog 211 #[.agg cs.toArray] w fun e w'=>e= .returned (.bool (decide (0<(startL x).length)))∧Below w.heap.size w w':=by
 obtain⟨v3,rfl,h3⟩:=GNode.yL h
 clear h
 have h3i:=T.yQ.1 h3;obtain⟨va3,vc3,rfl,vl3,vm3,vx3⟩:=h3i.open_
 have R3:=hide h3i;have HX3:=hide vx3;clear vx3 h3 h3i
 have HB0:=hide (show Below w.heap.size w (w.alloc (.cells #[.int .i64 x.zC,.int .i64 x.fA,.int .i64 x.fB,(.slice va3 x.zI.length vc3)] 198)) from(Below.refl _ _).alloc (Nat.le_refl _) _)
 have HK0:=hide (Bk.born w 198 #[.int .i64 x.zC,.int .i64 x.fA,.int .i64 x.fB,(.slice va3 x.zI.length vc3)])
 go_enter Tryz.func211,Tryz.ntmps211
 go_wp2_with fail
 refine(c_start x _ _ h6 h17 (GNode.rd_mk (T.yQ.2 (Rd.below R3.out HB0.out)))).mono ?_;rintro e w1 ⟨v,rfl,ho,hb⟩
 have HB:=hide (yG HB0.out HB0.out.size hb);clear hb
 obtain⟨A,cap,rfl,hl1,hl2,-⟩:=ho.rd.open_;clear ho
 have hlen: ∀ p:Bool,p=decide (0<(startL x).length)→p=decide (0<(startL x).length):=fun _ h=>h;clear hlen
 go_wp2
 go_ret
 exact⟨yF (decide_eq_decide.2 (by omega)),HB.out⟩
theorem c_idxState (v:Value) (xs:List GNode) (P:GNode→Prop) (w:World) (hf: ∀ y ∈ xs,∀ (ds:List Value) (W:World),Below w.heap.size w W→T.rds W y.fs ds→Calls Tryz.prog 211 #[.agg ds.toArray] W fun e w'=>e= .returned (.bool (tf (P y)))∧Below W.heap.size W w') (hr:T.rd w (T.sl 198 4 (xs.map GNode.t)) [v]):Calls Tryz.prog 235 #[v,.func (.func 211) #[] #[]] w fun e w'=> ∃ r:Int,e= .returned (.int .i64 r)∧(0≤r↔ ∃ x ∈ xs,P x)∧Below w.heap.size w w':=by
 obtain⟨A,cap,rfl,hl,hc,hx⟩:=T.yK hr
 have HX:=hide hx;have HF:=hide hf;clear hx hr hf
 go_enter Tryz.func235,Tryz.ntmps235
 go_wp2
 go_loopw [8] (fun i wr=> ∃ k:Nat,k≤xs.length∧i= .int .i64 k∧Upto xs (fun _ x=> ¬ P x) k∧Below w.heap.size w wr) (fun i _=>xs.length - (intOf i).toNat)
 case atStart=>exact⟨0,Nat.zero_le _,rfl,Upto.zero,Below.refl _ _⟩
 case round=>
  obtain⟨k,hk,rfl,hs,hbw⟩:=hrel
  have HS:=hide hs;have HB:=hide hbw;clear hs hbw
  by_cases hlt:k<xs.length
  ·have hgk:=List.getElem?_eq_getElem hlt
   obtain⟨b1,off,cs,rfl,hb1,hcs,hcell⟩:=HX.out k xs[k] hgk
   generalize xs[k]=x at *
   have HG:=hide hgk;clear hgk
   obtain⟨u3,rfl,hRY3⟩:=GNode.yL (show T.rds _ _ _ by simpa only[GNode.t,T.rd] using hcs)
   have d0:=(HB.out.cell hb1).trans (hcell 0 (.int .i64 x.zC) rfl)
   have d1:=(HB.out.cell hb1).trans (hcell 1 (.int .i64 x.fA) rfl)
   have d2:=(HB.out.cell hb1).trans (hcell 2 (.int .i64 x.fB) rfl)
   have d3:=(HB.out.cell hb1).trans (hcell 3 (u3) rfl)
   rw[show off+(k * 4+0)=off+k * 4 by omega] at d0
   rw[show off+(k * 4+1)=off+k * 4+1 by omega] at d1
   rw[show off+(k * 4+2)=off+k * 4+2 by omega] at d2
   rw[show off+(k * 4+3)=off+k * 4+3 by omega] at d3
   have RY3:=hide (T.yC hRY3 HB.out);clear hRY3
   clear hcs hcell
   obtain⟨ua3,uc3,rfl,ul3,um3,-⟩:=(T.yQ.1 RY3.out).open_
   by_cases hq:P x
   ·have hd:=yW hq
    have HQ:=hide hq;clear hq
    go_wp2_with (go_at_call 211;refine(HF.out x (List.mem_of_getElem? HG.out) _ _ HB.out (GNode.rd_mk RY3.out)).mono ?_;rintro e w3 ⟨rfl,hb3⟩;rw[hd])
    have HB3:=hide (yG HB.out HB.out.size hb3);clear hb3
    go_wp2
    go_ret
    exact⟨_,rfl,⟨fun _=>⟨x,List.mem_of_getElem? HG.out,HQ.out⟩,fun _=>by omega⟩,HB3.out⟩
   ·have hd:=yV hq
    have HQ:=hide hq;clear hq
    go_wp2_with (go_at_call 211;refine(HF.out x (List.mem_of_getElem? HG.out) _ _ HB.out (GNode.rd_mk RY3.out)).mono ?_;rintro e w3 ⟨rfl,hb3⟩;rw[hd])
    have HB3:=hide (yG HB.out HB.out.size hb3);clear hb3
    go_wp2
    go_roundw
    case rel=>exact⟨k+1,by omega,by go_num,HS.out.step HG.out HQ.out,HB3.out⟩
    case measure=>simp[intOf];omega
  ·have hall:=hide (HS.out.all (by omega));clear HS
   go_wp2
   go_ret
   exact⟨-1,rfl,⟨fun h=>absurd h (by omega),fun⟨x,hx,hp⟩=>by
    obtain⟨i,hi,rfl⟩:=List.mem_iff_getElem.1 hx
    exact absurd hp (hall.out i _ (List.getElem?_eq_getElem hi))⟩,HB.out⟩
theorem c_anyState (v:Value) (xs:List GNode) (P:GNode→Prop) (w:World) (hf: ∀ y ∈ xs,∀ (ds:List Value) (W:World),Below w.heap.size w W→T.rds W y.fs ds→Calls Tryz.prog 211 #[.agg ds.toArray] W fun e w'=>e= .returned (.bool (tf (P y)))∧Below W.heap.size W w') (hr:T.rd w (T.sl 198 4 (xs.map GNode.t)) [v]):Calls Tryz.prog 210 #[v,.func (.func 211) #[] #[]] w fun e w'=>e= .returned (.bool (tf (∃ x ∈ xs,P x)))∧Below w.heap.size w w':=by
 have HR:=hide hr;have HF:=hide hf;clear hf
 obtain⟨A,cap,rfl,hl,hc,hx⟩:=T.yK hr
 clear hx hr
 go_enter Tryz.func210,Tryz.ntmps210
 go_wp2_with (go_at_call 235;refine(c_idxState _ xs P _ HF.out HR.out).mono ?_;rintro e w3 ⟨r,rfl,hiff,hb3⟩;have HI:=hide hiff;have H3:=hide hb3;clear hiff hb3)
 go_ret
 exact⟨yF (by rw[←tf_dec];exact tf_iff HI.out),H3.out⟩
theorem c_hasState (x:GPatch) (cs:List Value) (w:World) (hp: ∀ y ∈ x.zH,∃ t,NodeOk y t) (h:T.rds w x.fs cs):Calls Tryz.prog 174 #[.agg cs.toArray] w fun e w'=>e= .returned (.bool (statefulB x))∧Below w.heap.size w w':=by
 obtain⟨v1,v2,v3,rfl,h1,h2,h3⟩:=GPatch.yL h
 clear h
 have R1:=hide h1;obtain⟨va1,vc1,rfl,vl1,vm1,vx1⟩:=T.yK h1
 have HX1:=hide vx1;clear vx1 h1
 have R2:=hide h2;obtain⟨va2,vc2,rfl,vl2,vm2,vx2⟩:=T.yK h2
 have HX2:=hide vx2;clear vx2 h2
 have h3i:=T.yQ.1 h3;obtain⟨va3,vc3,rfl,vl3,vm3,vx3⟩:=h3i.open_
 have R3:=hide h3i;have HX3:=hide vx3;clear vx3 h3 h3i
 have HB0:=hide (show Below w.heap.size w (w.alloc (.cells #[.int .i64 x.zM,(.slice va1 x.zR.length vc1),(.slice va2 x.zH.length vc2),(.slice va3 x.zN.length vc3)] 130)) from(Below.refl _ _).alloc (Nat.le_refl _) _)
 have HK0:=hide (Bk.born w 130 #[.int .i64 x.zM,(.slice va1 x.zR.length vc1),(.slice va2 x.zH.length vc2),(.slice va3 x.zN.length vc3)])
 have HP:=hide hp;clear hp
 have hmf: ∀ (fn:Fn) (first cap:Array Value) (w:World),(Instr.makeFunc fn first cap).run Tryz.prog w= .ok (.func fn first cap) w:=fun _ _ _ _=>by simp[go_sem,Instr.makeFunc]
 go_enter Tryz.func174,Tryz.ntmps174
 go_wp2_with fail
 refine(c_anyState _ x.zH (fun y=>0<(startL y).length) _ (fun y hy ds W hb hr=>?_) (T.yC R2.out HB0.out)).mono ?_
 ·obtain⟨t,ht⟩:=HP.out y hy
  refine(c_hasState1 y ds W (nodeOk_start ht).1 (nodeOk_start ht).2 hr).mono ?_
  rintro e w1 ⟨rfl,hb1⟩;exact⟨yF tf_dec.symm,hb1⟩
 rintro e w3 ⟨rfl,hb⟩
 have H3:=hide (yG HB0.out HB0.out.size hb);clear hb
 go_wp2
 go_ret
 exact⟨yF (by unfold statefulB;rw[Bool.eq_iff_iff,tf_true,List.any_eq_true];simp),H3.out⟩
theorem c_idxRings (v:Value) (xs:List GSend) (P:GSend→Prop) (b:Nat) (w:World) (hf: ∀ y ∈ xs,∀ (ds:List Value) (W:World),Below w.heap.size w W→T.rds W y.fs ds→Calls Tryz.prog 176 #[.agg ds.toArray,.pointer (some ⟨b,0,none⟩)] W fun e w'=>e= .returned (.bool (tf (P y)))∧Below W.heap.size W w') (hr:T.rd w (T.sl 159 2 (xs.map GSend.t)) [v]):Calls Tryz.prog 213 #[v,.func (.func 176) #[] #[.pointer (some ⟨b,0,none⟩)]] w fun e w'=> ∃ r:Int,e= .returned (.int .i64 r)∧(0≤r↔ ∃ x ∈ xs,P x)∧Below w.heap.size w w':=by
 obtain⟨A,cap,rfl,hl,hc,hx⟩:=T.yK hr
 have HX:=hide hx;have HF:=hide hf;clear hx hr hf
 go_enter Tryz.func213,Tryz.ntmps213
 go_wp2
 go_loopw [8] (fun i wr=> ∃ k:Nat,k≤xs.length∧i= .int .i64 k∧Upto xs (fun _ x=> ¬ P x) k∧Below w.heap.size w wr) (fun i _=>xs.length - (intOf i).toNat)
 case atStart=>exact⟨0,Nat.zero_le _,rfl,Upto.zero,Below.refl _ _⟩
 case round=>
  obtain⟨k,hk,rfl,hs,hbw⟩:=hrel
  have HS:=hide hs;have HB:=hide hbw;clear hs hbw
  by_cases hlt:k<xs.length
  ·have hgk:=List.getElem?_eq_getElem hlt
   obtain⟨b1,off,cs,rfl,hb1,hcs,hcell⟩:=HX.out k xs[k] hgk
   generalize xs[k]=x at *
   have HG:=hide hgk;clear hgk
   obtain rfl:=GSend.yL (show T.rds _ _ _ by simpa only[GSend.t,T.rd] using hcs)
   have d0:=(HB.out.cell hb1).trans (hcell 0 (.int .i64 x.yB) rfl)
   have d1:=(HB.out.cell hb1).trans (hcell 1 (.int .i64 x.zQ) rfl)
   rw[show off+(k * 2+0)=off+k * 2 by omega] at d0
   rw[show off+(k * 2+1)=off+k * 2+1 by omega] at d1
   clear hcs hcell
   by_cases hq:P x
   ·have hd:=yW hq
    have HQ:=hide hq;clear hq
    go_wp2_with (go_at_call 176;refine(HF.out x (List.mem_of_getElem? HG.out) _ _ HB.out (GSend.rd_mk)).mono ?_;rintro e w3 ⟨rfl,hb3⟩;rw[hd])
    have HB3:=hide (yG HB.out HB.out.size hb3);clear hb3
    go_wp2
    go_ret
    exact⟨_,rfl,⟨fun _=>⟨x,List.mem_of_getElem? HG.out,HQ.out⟩,fun _=>by omega⟩,HB3.out⟩
   ·have hd:=yV hq
    have HQ:=hide hq;clear hq
    go_wp2_with (go_at_call 176;refine(HF.out x (List.mem_of_getElem? HG.out) _ _ HB.out (GSend.rd_mk)).mono ?_;rintro e w3 ⟨rfl,hb3⟩;rw[hd])
    have HB3:=hide (yG HB.out HB.out.size hb3);clear hb3
    go_wp2
    go_roundw
    case rel=>exact⟨k+1,by omega,by go_num,HS.out.step HG.out HQ.out,HB3.out⟩
    case measure=>simp[intOf];omega
  ·have hall:=hide (HS.out.all (by omega));clear HS
   go_wp2
   go_ret
   exact⟨-1,rfl,⟨fun h=>absurd h (by omega),fun⟨x,hx,hp⟩=>by
    obtain⟨i,hi,rfl⟩:=List.mem_iff_getElem.1 hx
    exact absurd hp (hall.out i _ (List.getElem?_eq_getElem hi))⟩,HB.out⟩
theorem c_anyRings (v:Value) (xs:List GSend) (P:GSend→Prop) (b:Nat) (w:World) (hf: ∀ y ∈ xs,∀ (ds:List Value) (W:World),Below w.heap.size w W→T.rds W y.fs ds→Calls Tryz.prog 176 #[.agg ds.toArray,.pointer (some ⟨b,0,none⟩)] W fun e w'=>e= .returned (.bool (tf (P y)))∧Below W.heap.size W w') (hr:T.rd w (T.sl 159 2 (xs.map GSend.t)) [v]):Calls Tryz.prog 175 #[v,.func (.func 176) #[] #[.pointer (some ⟨b,0,none⟩)]] w fun e w'=>e= .returned (.bool (tf (∃ x ∈ xs,P x)))∧Below w.heap.size w w':=by
 have HR:=hide hr;have HF:=hide hf;clear hf
 obtain⟨A,cap,rfl,hl,hc,hx⟩:=T.yK hr
 clear hx hr
 go_enter Tryz.func175,Tryz.ntmps175
 go_wp2_with (go_at_call 213;refine(c_idxRings _ xs P b _ HF.out HR.out).mono ?_;rintro e w3 ⟨r,rfl,hiff,hb3⟩;have HI:=hide hiff;have H3:=hide hb3;clear hiff hb3)
 go_ret
 exact⟨yF (by rw[←tf_dec];exact tf_iff HI.out),H3.out⟩
theorem c_rings1 (y:GSend) (b:Nat) (Vs:Array Value) (B:Bool) (ds:List Value) (w:World) (hb:Bk w b 41 Vs) (hV: ∃ n A1 L1 C1 A2 L2 C2 A3 L3 C3 A4 L4 C4 A5 L5 C5,Vs= #[.int .i64 n,.slice A1 L1 C1,.slice A2 L2 C2,.slice A3 L3 C3,.slice A4 L4 C4,.slice A5 L5 C5]) (hf: ∀ W:World,Below w.heap.size w W→Calls Tryz.prog 113 #[.agg Vs,.int .i64 y.yB] W fun e w'=>e= .returned (.bool B)∧Below W.heap.size W w') (hy:T.rds w y.fs ds):
  Calls Tryz.prog 176 #[.agg ds.toArray,.pointer (some ⟨b,0,none⟩)] w fun e w'=>e= .returned (.bool B)∧Below w.heap.size w w':=by
 obtain rfl:=GSend.yL hy
 obtain⟨n,A1,L1,C1,A2,L2,C2,A3,L3,C3,A4,L4,C4,A5,L5,C5,rfl⟩:=hV
 have HF:=hide hf;clear hf hy
 have HB:=hide (show Below w.heap.size w (w.alloc (.cells #[.int .i64 y.yB,.int .i64 y.zQ] 159)) from(Below.refl _ _).alloc (Nat.le_refl _) _)
 have HK:=hide (hb.alloc (.cells #[.int .i64 y.yB,.int .i64 y.zQ] 159))
 have hlt:=hb.lt;clear hb
 have kc:=HK.out.cell;have kl:=HK.out.lt
 go_enter Tryz.func176,Tryz.ntmps176
 go_wp2_with fail
 refine(HF.out _ HB.out).mono ?_;rintro e w1 ⟨rfl,hb⟩
 have HB1:=hide (yG HB.out HB.out.size hb);clear hb
 go_wp2
 go_ret
 exact⟨rfl,HB1.out⟩
theorem c_rings0 (x:GSession) (cs:List Value) (j:Nat) (w:World) (hv:SessionOk x) (hj:j<x.zF.zD.length) (IH: ∀ j':Nat,j<j'→j'<x.zF.zD.length→ ∀ (W:World) (ds:List Value),T.rds W x.fs ds→Calls Tryz.prog 113 #[.agg ds.toArray,.int .i64 (j':Int)] W fun e w'=>e= .returned (.bool (tf (Ring x (j':Int))))∧Below W.heap.size W w') (h:T.rds w x.fs cs):Calls Tryz.prog 113 #[.agg cs.toArray,.int .i64 (j:Int)] w fun e w'=>e= .returned (.bool (tf (Ring x (j:Int))))∧Below w.heap.size w w':=by
 obtain⟨v1,v2,v3,v4,v5,rfl,h1,h2,h3,h4,h5⟩:=GSession.yL h
 clear h
 have R1:=hide h1;obtain⟨va1,vc1,rfl,vl1,vm1,vx1⟩:=T.yK h1
 have HX1:=hide vx1;clear vx1 h1
 have R2:=hide h2;obtain⟨va2,vc2,rfl,vl2,vm2,vx2⟩:=T.yK h2
 have HX2:=hide vx2;clear vx2 h2
 have h3i:=T.yQ.1 h3;obtain⟨va3,vc3,rfl,vl3,vm3,vx3⟩:=h3i.open_
 have R3:=hide h3i;have HX3:=hide vx3;clear vx3 h3 h3i
 have R4:=hide h4;obtain⟨va4,vc4,rfl,vl4,vm4,vx4⟩:=T.yK h4
 have HX4:=hide vx4;clear vx4 h4
 have R5:=hide h5;obtain⟨va5,vc5,rfl,vl5,vm5,vx5⟩:=T.yK h5
 have HX5:=hide vx5;clear vx5 h5
 have HB0:=hide (show Below w.heap.size w (w.alloc (.cells #[.int .i64 x.zA,(.slice va1 x.zG.length vc1),(.slice va2 x.zE.length vc2),(.slice va3 x.zK.length vc3),(.slice va4 x.zJ.length vc4),(.slice va5 x.zF.zD.length vc5)] 41)) from(Below.refl _ _).alloc (Nat.le_refl _) _)
 have HK0:=hide (Bk.born w 41 #[.int .i64 x.zA,(.slice va1 x.zG.length vc1),(.slice va2 x.zE.length vc2),(.slice va3 x.zK.length vc3),(.slice va4 x.zJ.length vc4),(.slice va5 x.zF.zD.length vc5)])
 have HV:=hide hv;have HIH:=hide IH;clear hv IH
 have hje:j<x.zJ.length:=by have:=HV.out.effect;omega
 have GX:=hide (show ∀ w',Below w.heap.size w w'→T.rds w' x.fs [.int .i64 x.zA,(.slice va1 x.zG.length vc1),(.slice va2 x.zE.length vc2),(.slice va3 x.zK.length vc3),(.slice va4 x.zJ.length vc4),(.slice va5 x.zF.zD.length vc5)] from fun w' hb=>GSession.rd_mk (T.yC R1.out hb) (T.yC R2.out hb) (T.yQ.2 (Rd.below R3.out hb)) (T.yC R4.out hb) (T.yC R5.out hb))
 have hge:=List.getElem?_eq_getElem hje;have hgs:=List.getElem?_eq_getElem hj
 obtain⟨b4,o4,cs4,hA4,hb4,hcs4,hcell4⟩:=HX4.out j x.zJ[j] hge
 obtain⟨b5,o5,cs5,hA5,hb5,hcs5,hcell5⟩:=HX5.out j x.zF.zD[j] hgs
 subst hA4 hA5
 generalize x.zJ[j]=p at *;generalize x.zF.zD[j]=y at *
 have HBr:=hide (Below.refl w.heap.size w)
 obtain⟨u1,u2,u3,rfl,hRP1,hRP2,hRP3⟩:=GPatch.yL (show T.rds _ _ _ by simpa only[GPatch.t,T.rd] using hcs4)
 have d0:=(HBr.out.cell hb4).trans (hcell4 0 (.int .i64 p.zM) rfl)
 have d1:=(HBr.out.cell hb4).trans (hcell4 1 (u1) rfl)
 have d2:=(HBr.out.cell hb4).trans (hcell4 2 (u2) rfl)
 have d3:=(HBr.out.cell hb4).trans (hcell4 3 (u3) rfl)
 rw[show o4+(j * 4+0)=o4+j * 4 by omega] at d0
 rw[show o4+(j * 4+1)=o4+j * 4+1 by omega] at d1
 rw[show o4+(j * 4+2)=o4+j * 4+2 by omega] at d2
 rw[show o4+(j * 4+3)=o4+j * 4+3 by omega] at d3
 have RP1:=hide (T.yC hRP1 HBr.out);clear hRP1
 have RP2:=hide (T.yC hRP2 HBr.out);clear hRP2
 have RP3:=hide (T.yC hRP3 HBr.out);clear hRP3
 clear hcs4 hcell4
 obtain⟨t2,rfl,hRY2⟩:=GStrip.yL (show T.rds _ _ _ by simpa only[GStrip.t,T.rd] using hcs5)
 have q0:=(HBr.out.cell hb5).trans (hcell5 0 (.string y.zX) rfl)
 have q1:=(HBr.out.cell hb5).trans (hcell5 1 (.int .i64 y.zT) rfl)
 have q2:=(HBr.out.cell hb5).trans (hcell5 2 (t2) rfl)
 rw[show o5+(j * 3+0)=o5+j * 3 by omega] at q0
 rw[show o5+(j * 3+1)=o5+j * 3+1 by omega] at q1
 rw[show o5+(j * 3+2)=o5+j * 3+2 by omega] at q2
 have RY2:=hide (T.yC hRY2 HBr.out);clear hRY2
 clear hcs5 hcell5
 obtain⟨ua1,uc1,rfl,ul1,um1,-⟩:=T.yK RP1.out;obtain⟨ua2,uc2,rfl,ul2,um2,-⟩:=T.yK RP2.out;obtain⟨ua3,uc3,rfl,ul3,um3,-⟩:=(T.yQ.1 RP3.out).open_
 obtain⟨ta2,tc2,rfl,tl2,tm2,-⟩:=T.yK RY2.out
 have HPO:=hide (effectOk_nodes (HV.out.effects j p hge));have HTO:=hide (sends_to HV.out hgs)
 have HEF:=hide (show effectAt x (j:Int)=p by unfold effectAt;rw[Int.toNat_natCast,hge];rfl);have HSE:=hide (sendsAt_of hgs);clear hge hgs
 have hmf: ∀ (fn:Fn) (first cap:Array Value) (w:World),(Instr.makeFunc fn first cap).run Tryz.prog w= .ok (.func fn first cap) w:=fun _ _ _ _=>by simp[go_sem,Instr.makeFunc]
 go_enter Tryz.func113,Tryz.ntmps113
 go_wp2_with fail
 refine(c_hasState p _ _ HPO.out (GPatch.rd_mk (T.yC RP1.out HB0.out) (T.yC RP2.out HB0.out) (T.yC RP3.out HB0.out))).mono ?_;rintro e w1 ⟨rfl,hb⟩
 have HB1:=hide (yG HB0.out HB0.out.size hb);have HK1:=hide (HK0.out.below hb HK0.out.lt);clear hb
 by_cases hS:statefulB p=true
 ·rw[hS]
  have HR:=hide (yW (Ring.own (s:=x) (j:=(j:Int)) (by rw[HEF.out];exact hS)));clear hS
  go_wp2
  go_ret
  exact⟨yF HR.out.symm,HB1.out⟩
 have hS:statefulB p=false:=by simpa using hS
 rw[hS];have HS:=hide hS;clear hS
 have ka:=HK1.out.cell;have la:=HK1.out.lt
 have a0:=(HB1.out.cell hb5).trans q0
 have a1:=(HB1.out.cell hb5).trans q1
 have a2:=(HB1.out.cell hb5).trans q2
 have lb5:=Nat.lt_of_lt_of_le hb5 HB1.out.size
 go_wp2_with fail
 refine(c_anyRings _ y.zS (fun z=>Ring x z.yB) _ _ (fun z hz ds W hb hr=>?_) (T.yC RY2.out HB1.out)).mono ?_
 ·have hto:=HTO.out z hz
  obtain⟨j',hj'⟩: ∃ j':Nat,z.yB=(j':Int):=⟨z.yB.toNat,by omega⟩
  refine c_rings1 z _ _ _ ds W (HK1.out.below hb HK1.out.lt) ⟨_,_,_,_,_,_,_,_,_,_,_,_,_,_,_,_,rfl⟩ (fun W' hW'=>?_) hr
  rw[hj']
  exact HIH.out j' (by omega) (by omega) W' _ (GX.out W' (yG (yG HB1.out HB1.out.size hb) (Nat.le_trans HB1.out.size hb.size) hW'))
 rintro e w2 ⟨rfl,hb⟩
 have HB2:=hide (yG HB1.out HB1.out.size hb);clear hb
 go_wp2
 go_ret
 exact⟨yF (tf_iff (by rw[ring_iff,HEF.out,HSE.out,HS.out];simp)),HB2.out⟩
theorem c_rings (x:GSession) (hv:SessionOk x): ∀ (m j:Nat),x.zF.zD.length≤j+m→j<x.zF.zD.length→ ∀ (w:World) (cs:List Value),T.rds w x.fs cs→Calls Tryz.prog 113 #[.agg cs.toArray,.int .i64 (j:Int)] w fun e w'=>e= .returned (.bool (tf (Ring x (j:Int))))∧Below w.heap.size w w'
 |0,j,h,hj=>absurd hj (by omega)
 |m+1,j,h,hj=>fun w cs hr=>c_rings0 x cs j w hv hj (fun j' h1 h2 W ds hW=>c_rings x hv m j' (by omega) h2 W ds hW) hr
end Go.Proofs.YteiflbhcehajkaaGreat
