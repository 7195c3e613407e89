/- Contracts: what is valid, by the program: tracks, mixers. Contracts: what is valid, by the program: mixers. Contracts: what is valid, by the program: kinds, nodes. -/
import Derived.Test.YtbgedljbgkcpiaaGreatDoorQAmExactDiffSessions
import Derived.Test.YtbgedljbgkcpiaaGreatDoorQAhExactDiffSessions
import Derived.Maps.OwnOps
import Derived.Maps.Views
import Derived.Deep.RegionWith
set_option linter.unusedVariables false
set_option linter.unusedSimpArgs false
set_option maxHeartbeats 2000000
set_option maxRecDepth 20000
section
namespace Go.Proofs.YtbgedljbgkcpiaaGreatDoor
open Go.RowKit Go.WideMaps Go.Maps
theorem c_hasSrc1 (x:GClip) (n:Int) (b:Nat) (w:World) (hb:b<w.heap.size) (hc:w.cell? ⟨b,0,none⟩=some (.int .i64 n)):Calls Tryz.prog 108 #[.agg #[.int .i64 x.zS,.int .i64 x.zG,.int .i64 x.zE,.int .i64 x.yB,.int .i64 x.zQ],.pointer (some ⟨b,0,none⟩)] w fun e w'=>e= .returned (.bool (decide (n≤x.zS)))∧Below w.heap.size w w':=by
 have hB:Below w.heap.size w (w.alloc (.cells #[.int .i64 x.zS,.int .i64 x.zG,.int .i64 x.zE,.int .i64 x.yB,.int .i64 x.zQ] 107)):=(Below.refl _ _).alloc (Nat.le_refl _) _
 have HB:=hide hB;clear hB
 go_enter Tryz.func108,Tryz.ntmps108
 go_wp2
 go_ret
 exact⟨rfl,HB.out⟩
theorem c_idxSrc (v:Value) (xs:List GClip) (n:Int) (b:Nat) (w:World) (hb:b<w.heap.size) (hcb:w.cell? ⟨b,0,none⟩=some (.int .i64 n)) (hr:T.rd w (T.sl 107 5 (xs.map GClip.t)) [v]):Calls Tryz.prog 142 #[v,.func (.func 108) #[] #[.pointer (some ⟨b,0,none⟩)]] w fun e w'=> ∃ r:Int,e= .returned (.int .i64 r)∧(0≤r↔ ∃ x ∈ xs,n≤x.zS)∧Below w.heap.size w w':=by
 obtain⟨A,cap,rfl,hl,hc,hx⟩:=T.yL hr
 have HX:=hide hx;clear hx hr
 have BB:=hide (And.intro hb hcb);clear hb hcb
 go_enter Tryz.func142,Tryz.ntmps142
 go_wp2
 go_loopw [8] (fun i wr=> ∃ k:Nat,k≤xs.length∧i= .int .i64 k∧Upto xs (fun _ x=>x.zS<n) k∧Below w.heap.size w wr) (fun i _=>xs.length - (intOf i).toNat)
 case atStart=>exact⟨0,Nat.zero_le _,rfl,Upto.zero,Below.refl _ _⟩
 case round=>
  obtain⟨k,hk,rfl,hs,hbw⟩:=hrel
  have HS:=hide hs;have HB:=hide hbw;clear hs hbw
  by_cases hlt:k<xs.length
  ·have hgk:=List.getElem?_eq_getElem hlt
   obtain⟨b1,off,cs,rfl,hb1,hcs,hcell⟩:=HX.out k xs[k] hgk
   generalize xs[k]=x at *
   have HG:=hide hgk;clear hgk
   obtain rfl:=GClip.yM (show T.rds _ _ _ by simpa only[GClip.t,T.rd] using hcs)
   have d0:=(HB.out.cell hb1).trans (hcell 0 (.int .i64 x.zS) rfl)
   have d1:=(HB.out.cell hb1).trans (hcell 1 (.int .i64 x.zG) rfl)
   have d2:=(HB.out.cell hb1).trans (hcell 2 (.int .i64 x.zE) rfl)
   have d3:=(HB.out.cell hb1).trans (hcell 3 (.int .i64 x.yB) rfl)
   have d4:=(HB.out.cell hb1).trans (hcell 4 (.int .i64 x.zQ) rfl)
   rw[show off+(k * 5+0)=off+k * 5 by omega] at d0
   rw[show off+(k * 5+1)=off+k * 5+1 by omega] at d1
   rw[show off+(k * 5+2)=off+k * 5+2 by omega] at d2
   rw[show off+(k * 5+3)=off+k * 5+3 by omega] at d3
   rw[show off+(k * 5+4)=off+k * 5+4 by omega] at d4
   clear hcs hcell
   by_cases hq:n≤x.zS
   ·have hd:decide (n≤x.zS)=true:=decide_eq_true hq
    have HQ:=hide hq;clear hq
    go_wp2_with (go_at_call 108;refine(c_hasSrc1 x n b _ (Nat.lt_of_lt_of_le BB.out.1 HB.out.size) ((HB.out.cell BB.out.1).trans BB.out.2)).mono ?_;rintro e w3 ⟨rfl,hb3⟩;rw[hd])
    have HB3:=hide (yH HB.out HB.out.size hb3);clear hb3
    go_wp2
    go_ret
    exact⟨_,rfl,⟨fun _=>⟨x,List.mem_of_getElem? HG.out,HQ.out⟩,fun _=>by omega⟩,HB3.out⟩
   ·have hd:decide (n≤x.zS)=false:=decide_eq_false hq
    have HQ:=hide hq;clear hq
    go_wp2_with (go_at_call 108;refine(c_hasSrc1 x n b _ (Nat.lt_of_lt_of_le BB.out.1 HB.out.size) ((HB.out.cell BB.out.1).trans BB.out.2)).mono ?_;rintro e w3 ⟨rfl,hb3⟩;rw[hd])
    have HB3:=hide (yH HB.out HB.out.size hb3);clear hb3
    go_wp2
    go_roundw
    case rel=>exact⟨k+1,by omega,by go_num,HS.out.step HG.out (by have:=HQ.out;omega),HB3.out⟩
    case measure=>simp[intOf];omega
  ·have hall:=hide (HS.out.all (by omega));clear HS
   go_wp2
   go_ret
   exact⟨-1,rfl,⟨fun h=>absurd h (by omega),fun⟨x,hx,hp⟩=>by
    obtain⟨i,hi,rfl⟩:=List.mem_iff_getElem.1 hx
    have:=hall.out i _ (List.getElem?_eq_getElem hi);omega⟩,HB.out⟩
theorem c_anySrc (v:Value) (xs:List GClip) (n:Int) (b:Nat) (w:World) (hb:b<w.heap.size) (hcb:w.cell? ⟨b,0,none⟩=some (.int .i64 n)) (hr:T.rd w (T.sl 107 5 (xs.map GClip.t)) [v]):Calls Tryz.prog 107 #[v,.func (.func 108) #[] #[.pointer (some ⟨b,0,none⟩)]] w fun e w'=>e= .returned (.bool (tf (∃ x ∈ xs,n≤x.zS)))∧Below w.heap.size w w':=by
 have HR:=hide hr;have BB:=hide (And.intro hb hcb);clear hb hcb
 obtain⟨A,cap,rfl,hl,hc,hx⟩:=T.yL hr
 clear hx hr
 go_enter Tryz.func107,Tryz.ntmps107
 go_wp2_with (go_at_call 142;refine(c_idxSrc _ xs n b _ BB.out.1 BB.out.2 HR.out).mono ?_;rintro e w3 ⟨r,rfl,hiff,hb3⟩;have HI:=hide hiff;have H3:=hide hb3;clear hiff hb3)
 go_ret
 exact⟨yG (by rw[←tf_dec];exact tf_iff HI.out),H3.out⟩
theorem c_hasSources (x:GTrack) (cs:List Value) (n:Int) (w:World) (h:T.rds w x.fs cs):Calls Tryz.prog 68 #[.agg cs.toArray,.int .i64 n] w fun e w'=>e= .returned (.bool (tf (∀ c ∈ x.zR,c.zS<n)))∧Below w.heap.size w w':=by
 obtain⟨v0,rfl,h0⟩:=GTrack.yM h
 clear h
 have R0:=hide h0;obtain⟨va0,vc0,rfl,vl0,vm0,vx0⟩:=T.yL h0
 have HX0:=hide vx0;clear vx0 h0
 have HB0:=hide (show Below w.heap.size w (w.alloc (.cells #[(.slice va0 x.zR.length vc0)] 98)) from(Below.refl _ _).alloc (Nat.le_refl _) _)
 have HK0:=hide (Bk.born w 98 #[(.slice va0 x.zR.length vc0)])
 have hmf: ∀ (fn:Fn) (first cap:Array Value) (w:World),(Instr.makeFunc fn first cap).run Tryz.prog w= .ok (.func fn first cap) w:=fun _ _ _ _=>by simp[go_sem,Instr.makeFunc]
 have hb1:Below w.heap.size w ((w.alloc (.cells #[(.slice va0 x.zR.length vc0)] 98)).alloc (.cells #[.int .i64 n] 2)):=HB0.out.alloc (by simp) _
 have H1:=hide hb1;clear hb1
 have hsz1:((w.alloc (.cells #[(.slice va0 x.zR.length vc0)] 98)).alloc (.cells #[.int .i64 n] 2)).heap.size=w.heap.size+2:=by simp
 have Hsz:=hide hsz1;clear hsz1
 go_enter Tryz.func68,Tryz.ntmps68
 go_wp2_with (go_at_call 107;refine(c_anySrc _ x.zR n (w.heap.size+1) _ (by rw[Hsz.out];omega) (by simp) (T.yD R0.out H1.out)).mono ?_;rintro e w3 ⟨rfl,hb3⟩;have H3:=hide (yH H1.out (by rw[Hsz.out];omega) hb3);clear hb3)
 go_ret
 exact⟨yG (by
  by_cases hc: ∃ c ∈ x.zR,n≤c.zS
  ·rw[yV hc,yU (fun h=>by obtain⟨c,hc1,hc2⟩:=hc;have:=h c hc1;omega)];rfl
  ·rw[yU hc,yV (fun c h=>Int.not_le.1 fun k=>hc ⟨c,h,k⟩)];rfl),H3.out⟩
theorem c_isTrack (x:GTrack) (cs:List Value) (w:World) (h:T.rds w x.fs cs):Calls Tryz.prog 67 #[.agg cs.toArray] w fun e w'=>e= .returned (.bool (tf (TrackOk x)))∧Below w.heap.size w w':=by
 obtain⟨v0,rfl,h0⟩:=GTrack.yM h
 clear h
 have R0:=hide h0;obtain⟨va0,vc0,rfl,vl0,vm0,vx0⟩:=T.yL h0
 have HX0:=hide vx0;clear vx0 h0
 have HB0:=hide (show Below w.heap.size w (w.alloc (.cells #[(.slice va0 x.zR.length vc0)] 98)) from(Below.refl _ _).alloc (Nat.le_refl _) _)
 have HK0:=hide (Bk.born w 98 #[(.slice va0 x.zR.length vc0)])
 go_enter Tryz.func67,Tryz.ntmps67
 go_wp2
 go_loopw [8] (fun i wr=> ∃ k:Nat,k≤x.zR.length∧i= .int .i64 k∧Upto x.zR (fun i c=>ClipOk c∧ ∀ p,0<i→x.zR[i - 1]?=some p→p.yB≤c.yB) k∧Below (w.alloc (.cells #[(.slice va0 x.zR.length vc0)] 98)).heap.size (w.alloc (.cells #[(.slice va0 x.zR.length vc0)] 98)) wr) (fun i _=>x.zR.length - (intOf i).toNat)
 case atStart=>exact⟨0,Nat.zero_le _,rfl,Upto.zero,Below.refl _ _⟩
 case round=>
  obtain⟨k,hk,rfl,hs,hbw⟩:=hrel
  have HS:=hide hs;have HW:=hide hbw;have HB:=hide (yH HB0.out HB0.out.size hbw);have HK:=hide (HK0.out.below hbw HK0.out.lt);clear hs hbw
  have ka:=HK.out.cell;have la:=HK.out.lt
  by_cases hlt:k<x.zR.length
  rotate_left
  ·have hall:=hide (HS.out.all (by omega));clear HS
   by_cases h12:x.zR.length≤12
   ·go_wp2
    go_ret
    exact⟨yG (by rw[yV ⟨hall.out,h12⟩];exact decide_eq_true (by omega)),HB.out⟩
   ·go_wp2
    go_ret
    exact⟨yG (by rw[yU fun h=>h12 h.few];exact decide_eq_false (by omega)),HB.out⟩
  have hgk:=List.getElem?_eq_getElem hlt
  obtain⟨b1,off,cs1,hA,hb1,hcs,hcell⟩:=HX0.out k x.zR[k] hgk
  subst hA
  generalize x.zR[k]=y at *
  have HG:=hide hgk;clear hgk
  obtain rfl:=GClip.yM (show T.rds _ _ _ by simpa only[GClip.t,T.rd] using hcs)
  have d0:=(HB.out.cell hb1).trans (hcell 0 (.int .i64 y.zS) rfl)
  have d1:=(HB.out.cell hb1).trans (hcell 1 (.int .i64 y.zG) rfl)
  have d2:=(HB.out.cell hb1).trans (hcell 2 (.int .i64 y.zE) rfl)
  have d3:=(HB.out.cell hb1).trans (hcell 3 (.int .i64 y.yB) rfl)
  have d4:=(HB.out.cell hb1).trans (hcell 4 (.int .i64 y.zQ) rfl)
  rw[show off+(k * 5+0)=off+k * 5 by omega] at d0
  rw[show off+(k * 5+1)=off+k * 5+1 by omega] at d1
  rw[show off+(k * 5+2)=off+k * 5+2 by omega] at d2
  rw[show off+(k * 5+3)=off+k * 5+3 by omega] at d3
  rw[show off+(k * 5+4)=off+k * 5+4 by omega] at d4
  clear hcs hcell
  have hq1:b1<wr.heap.size:=Nat.lt_of_lt_of_le hb1 HB.out.size
  have hT0:= @GClip.rd_mk
  clear hT0
  by_cases hk0:k=0
  ·have g0':decide (0<k)=false:=decide_eq_false (by omega)
   have K0:=hide hk0;clear hk0
   by_cases q1:ClipOk y
   ·have a1:=yV q1
    have Q1:=hide q1;clear q1
    have hWb:Below wr.heap.size wr (wr.alloc (.cells #[.int .i64 y.zS,.int .i64 y.zG,.int .i64 y.zE,.int .i64 y.yB,.int .i64 y.zQ] 107)):=(Below.refl _ _).alloc (Nat.le_refl _) _
    have hNb:=Bk.born wr 107 #[.int .i64 y.zS,.int .i64 y.zG,.int .i64 y.zE,.int .i64 y.yB,.int .i64 y.zQ]
    go_wp2
    generalize wr.alloc (.cells #[.int .i64 y.zS,.int .i64 y.zG,.int .i64 y.zE,.int .i64 y.yB,.int .i64 y.zQ] 107)=W at *
    have HWb:=hide hWb;have HNb:=hide hNb;have HKW:=hide (HK.out.below hWb HK.out.lt)
    have g0:=yZ hNb;have g1:=yZ HKW.out
    clear hWb hNb
    refine yY (by kernel_rfl) (by kernel_rfl) ?_
    repeat(first|go_big_quiet_skip|(go_big_quiet_want;go_big_quiet_op;first|go_big_quiet_on|(apply Exists.intro;refine⟨fun _=>?_,?_⟩;(· (go_at_call 106;exact Calls.yJ ((c_isClip y _ _ GClip.rd_mk).mono (fun e w' h=>by rw[a1] at h;exact h))));go_big_quiet_on)))
    refine wpQuiet_nil ?_
    rintro w9 ⟨uu,rfl⟩
    have hb9:=yF W uu
    generalize bel W uu=w9 at *
    have HC:=hide (yH HWb.out HWb.out.size hb9);have HC2:=hide (yH HB.out HB.out.size HC.out);have HC3:=hide (yH HW.out HW.out.size HC.out)
    clear hb9 g0 g1
    go_wp2
    go_roundw
    case rel=>exact⟨k+1,by omega,by go_num,HS.out.step HG.out ⟨Q1.out,fun p h=>by have:=K0.out;omega⟩,HC3.out⟩
    case measure=>simp[intOf];omega
   ·have a1:=yU q1
    have Q1:=hide q1;clear q1
    have hWb:Below wr.heap.size wr (wr.alloc (.cells #[.int .i64 y.zS,.int .i64 y.zG,.int .i64 y.zE,.int .i64 y.yB,.int .i64 y.zQ] 107)):=(Below.refl _ _).alloc (Nat.le_refl _) _
    have hNb:=Bk.born wr 107 #[.int .i64 y.zS,.int .i64 y.zG,.int .i64 y.zE,.int .i64 y.yB,.int .i64 y.zQ]
    go_wp2
    generalize wr.alloc (.cells #[.int .i64 y.zS,.int .i64 y.zG,.int .i64 y.zE,.int .i64 y.yB,.int .i64 y.zQ] 107)=W at *
    have HWb:=hide hWb;have HNb:=hide hNb;have HKW:=hide (HK.out.below hWb HK.out.lt)
    have g0:=yZ hNb;have g1:=yZ HKW.out
    clear hWb hNb
    refine yY (by kernel_rfl) (by kernel_rfl) ?_
    repeat(first|go_big_quiet_skip|(go_big_quiet_want;go_big_quiet_op;first|go_big_quiet_on|(apply Exists.intro;refine⟨fun _=>?_,?_⟩;(· (go_at_call 106;exact Calls.yJ ((c_isClip y _ _ GClip.rd_mk).mono (fun e w' h=>by rw[a1] at h;exact h))));go_big_quiet_on)))
    refine wpQuiet_nil ?_
    rintro w9 ⟨uu,rfl⟩
    have hb9:=yF W uu
    generalize bel W uu=w9 at *
    have HC:=hide (yH HWb.out HWb.out.size hb9);have HC2:=hide (yH HB.out HB.out.size HC.out);have HC3:=hide (yH HW.out HW.out.size HC.out)
    clear hb9 g0 g1
    go_wp2
    go_ret
    exact⟨yG (yU fun h=>Q1.out (h.clips k y HG.out).1).symm,HC2.out⟩
  obtain⟨j,rfl⟩: ∃ j,k=j+1:=⟨k - 1,by omega⟩
  clear hk0
  have hlj:j<x.zR.length:=by omega
  have hgj:=List.getElem?_eq_getElem hlj
  obtain⟨b2,off2,cs2,hA,hb2,hcs,hcell⟩:=HX0.out j x.zR[j] hgj
  obtain⟨rfl,rfl⟩:b1=b2∧off=off2:=by injection hA with hA;injection hA with e1 e2;exact⟨e1,e2⟩
  clear hA
  generalize x.zR[j]=z at *
  have HJ:=hide hgj;clear hgj
  obtain rfl:=GClip.yM (show T.rds _ _ _ by simpa only[GClip.t,T.rd] using hcs)
  have g0:=(HB.out.cell hb2).trans (hcell 0 (.int .i64 z.zS) rfl)
  have g1:=(HB.out.cell hb2).trans (hcell 1 (.int .i64 z.zG) rfl)
  have g2:=(HB.out.cell hb2).trans (hcell 2 (.int .i64 z.zE) rfl)
  have g3:=(HB.out.cell hb2).trans (hcell 3 (.int .i64 z.yB) rfl)
  have g4:=(HB.out.cell hb2).trans (hcell 4 (.int .i64 z.zQ) rfl)
  rw[show off+(j * 5+0)=off+j * 5 by omega] at g0
  rw[show off+(j * 5+1)=off+j * 5+1 by omega] at g1
  rw[show off+(j * 5+2)=off+j * 5+2 by omega] at g2
  rw[show off+(j * 5+3)=off+j * 5+3 by omega] at g3
  rw[show off+(j * 5+4)=off+j * 5+4 by omega] at g4
  clear hcs hcell
  have G3:=hide g3;clear g0 g1 g2 g3 g4
  have n1:((j:Int)<(x.zR.length:Int)):=by omega
  have e1:IntKind.i64.wrap ((j:Int)+1 - 1)=(j:Int):=by rw[IntWalk.i64_in _ (by omega)];omega
  have e2:IntKind.i64.wrap (j:Int)=(j:Int):=IntWalk.i64_in _ (by omega)
  have n0:(0:Int)≤(j:Int):=by omega
  by_cases q1:ClipOk y
  rotate_left
  ·have a1:=yU q1
   have Q1:=hide q1;clear q1
   have hWb:Below wr.heap.size wr (wr.alloc (.cells #[.int .i64 y.zS,.int .i64 y.zG,.int .i64 y.zE,.int .i64 y.yB,.int .i64 y.zQ] 107)):=(Below.refl _ _).alloc (Nat.le_refl _) _
   have hNb:=Bk.born wr 107 #[.int .i64 y.zS,.int .i64 y.zG,.int .i64 y.zE,.int .i64 y.yB,.int .i64 y.zQ]
   go_wp2
   generalize wr.alloc (.cells #[.int .i64 y.zS,.int .i64 y.zG,.int .i64 y.zE,.int .i64 y.yB,.int .i64 y.zQ] 107)=W at *
   have HWb:=hide hWb;have HNb:=hide hNb;have HKW:=hide (HK.out.below hWb HK.out.lt)
   have g0:=yZ hNb;have g1:=yZ HKW.out
   have g2:=yE ((hWb.cell (World.block_lt_of_cell? wr _ G3.out)).trans G3.out)
   clear hWb hNb
   refine yY (by kernel_rfl) (by kernel_rfl) ?_
   repeat(first|go_big_quiet_skip|(go_big_quiet_want;go_big_quiet_op;first|go_big_quiet_on|(apply Exists.intro;refine⟨fun _=>?_,?_⟩;(· (go_at_call 106;exact Calls.yJ ((c_isClip y _ _ GClip.rd_mk).mono (fun e w' h=>by rw[a1] at h;exact h))));go_big_quiet_on)))
   refine wpQuiet_nil ?_
   rintro w9 ⟨uu,rfl⟩
   have hb9:=yF W uu
   generalize bel W uu=w9 at *
   have HC:=hide (yH HWb.out HWb.out.size hb9);have HC2:=hide (yH HB.out HB.out.size HC.out);have HC3:=hide (yH HW.out HW.out.size HC.out)
   clear hb9 g0 g1 g2
   go_wp2
   go_ret
   exact⟨yG (yU fun h=>Q1.out (h.clips (j+1) y HG.out).1).symm,HC2.out⟩
  have a1:=yV q1
  have Q1:=hide q1;clear q1
  by_cases q2:y.yB<z.yB
  ·have Q2:=hide q2
   have hWb:Below wr.heap.size wr (wr.alloc (.cells #[.int .i64 y.zS,.int .i64 y.zG,.int .i64 y.zE,.int .i64 y.yB,.int .i64 y.zQ] 107)):=(Below.refl _ _).alloc (Nat.le_refl _) _
   have hNb:=Bk.born wr 107 #[.int .i64 y.zS,.int .i64 y.zG,.int .i64 y.zE,.int .i64 y.yB,.int .i64 y.zQ]
   go_wp2
   generalize wr.alloc (.cells #[.int .i64 y.zS,.int .i64 y.zG,.int .i64 y.zE,.int .i64 y.yB,.int .i64 y.zQ] 107)=W at *
   have HWb:=hide hWb;have HNb:=hide hNb;have HKW:=hide (HK.out.below hWb HK.out.lt)
   have g0:=yZ hNb;have g1:=yZ HKW.out
   have g2:=yE ((hWb.cell (World.block_lt_of_cell? wr _ G3.out)).trans G3.out)
   clear hWb hNb
   refine yY (by kernel_rfl) (by kernel_rfl) ?_
   repeat(first|go_big_quiet_skip|(go_big_quiet_want;go_big_quiet_op;first|go_big_quiet_on|(apply Exists.intro;refine⟨fun _=>?_,?_⟩;(· (go_at_call 106;exact Calls.yJ ((c_isClip y _ _ GClip.rd_mk).mono (fun e w' h=>by rw[a1] at h;exact h))));go_big_quiet_on)))
   refine wpQuiet_nil ?_
   rintro w9 ⟨uu,rfl⟩
   have hb9:=yF W uu
   generalize bel W uu=w9 at *
   have HC:=hide (yH HWb.out HWb.out.size hb9);have HC2:=hide (yH HB.out HB.out.size HC.out);have HC3:=hide (yH HW.out HW.out.size HC.out)
   clear hb9 g0 g1 g2
   go_wp2
   go_ret
   exact⟨yG (yU fun h=>by have:=(h.clips (j+1) y HG.out).2 z (by omega) HJ.out;have:=Q2.out;omega).symm,HC2.out⟩
  have hWb:Below wr.heap.size wr (wr.alloc (.cells #[.int .i64 y.zS,.int .i64 y.zG,.int .i64 y.zE,.int .i64 y.yB,.int .i64 y.zQ] 107)):=(Below.refl _ _).alloc (Nat.le_refl _) _
  have hNb:=Bk.born wr 107 #[.int .i64 y.zS,.int .i64 y.zG,.int .i64 y.zE,.int .i64 y.yB,.int .i64 y.zQ]
  go_wp2
  generalize wr.alloc (.cells #[.int .i64 y.zS,.int .i64 y.zG,.int .i64 y.zE,.int .i64 y.yB,.int .i64 y.zQ] 107)=W at *
  have HWb:=hide hWb;have HNb:=hide hNb;have HKW:=hide (HK.out.below hWb HK.out.lt)
  have g0:=yZ hNb;have g1:=yZ HKW.out
  have g2:=yE ((hWb.cell (World.block_lt_of_cell? wr _ G3.out)).trans G3.out)
  clear hWb hNb
  refine yY (by kernel_rfl) (by kernel_rfl) ?_
  repeat(first|go_big_quiet_skip|(go_big_quiet_want;go_big_quiet_op;first|go_big_quiet_on|(apply Exists.intro;refine⟨fun _=>?_,?_⟩;(· (go_at_call 106;exact Calls.yJ ((c_isClip y _ _ GClip.rd_mk).mono (fun e w' h=>by rw[a1] at h;exact h))));go_big_quiet_on)))
  refine wpQuiet_nil ?_
  rintro w9 ⟨uu,rfl⟩
  have hb9:=yF W uu
  generalize bel W uu=w9 at *
  have HC:=hide (yH HWb.out HWb.out.size hb9);have HC2:=hide (yH HB.out HB.out.size HC.out);have HC3:=hide (yH HW.out HW.out.size HC.out)
  clear hb9 g0 g1 g2
  go_wp2
  go_roundw
  case rel=>exact⟨j+1+1,by omega,by go_num,HS.out.step HG.out ⟨Q1.out,fun p _ hp=>by rw[Nat.add_sub_cancel,HJ.out] at hp;injection hp with hp;subst hp;omega⟩,HC3.out⟩
  case measure=>simp[intOf];omega
end Go.Proofs.YtbgedljbgkcpiaaGreatDoor
end
section
namespace Go.Proofs.YtbgedljbgkcpiaaGreatDoor
open Go.RowKit Go.WideMaps Go.Maps
theorem lookup_bool {P:Program} {k e t:TypeId} {w:World} {b n:Nat} {D:DataW Unit} (h:w.ownsMap P k (plainElem (H:=Unit) P e) b n D) (K:Keyed P k) (ht:P.underlying t=some (.map k e)) (he:P.underlying e=some .bool) (hz:(zeroValue e).run P w= .ok (.bool false) w)
  {key:Value} {kl:Lit} (hkey:keyOf P k key=some kl): ∃ c,(Instr.lookup t (.map (some b)) key false).run P w= .ok (.bool c) w∧D.atKey kl (.lit (.bool false))= .lit (.bool c):=by
 obtain⟨v,ps,hrun,hv⟩:=h.lookup K ht hz (plainElem_bool he false) hkey
 unfold plainElem at hv
 rw[he] at hv
 cases v<;>simp at hv
 exact⟨_,hrun,hv.1.symm⟩
theorem key_s:Keyed Tryz.prog 9:=string_keyed Tryz.underlying9
theorem grown_of_below {w w':World} (h:Below w.heap.size w w') (row:Option Nat):w.grownBy w' row:=⟨h.os,h.tape,h.output,h.size,fun k hk _=>h.block k hk⟩
theorem lit_s_ne {s t:ByteArray} (h:s≠t):(Lit.string s.data.toList)≠Lit.string t.data.toList:=by
 intro e
 injection e with e
 exact h (ByteArray.ext (Array.toList_inj.1 e))
/-- The names of the first strips. -/
def Nms (xs:List GStrip) (k:Nat) (D:DataW Unit):Prop:=IsMap D∧ ∀ s:ByteArray,D.atKey (.string s.data.toList) (.lit (.bool false))= .lit (.bool (tf (∃ j y,j<k∧xs[j]?=some y∧y.zV=s)))
theorem Nms.zero (xs:List GStrip):Nms xs 0 (.map []):=by
 refine⟨isMap_empty,fun s=>?_⟩
 rw[yU (by rintro⟨j,y,h,_⟩;omega)]
 rfl
theorem Nms.step {xs:List GStrip} {k:Nat} {D:DataW Unit} {x:GStrip} (h:Nms xs k D) (hx:xs[k]?=some x) (hk:WideAt.IsKeyLit (.string x.zV.data.toList)):Nms xs (k+1) (D.put (.string x.zV.data.toList) (.lit (.bool true))):=by
 refine⟨h.1.put _ _,fun s=>?_⟩
 by_cases e:s=x.zV
 ·subst e
  rw[atKey_put_same h.1 hk,yV ⟨k,x,by omega,hx,rfl⟩]
 ·rw[atKey_put_other (lit_s_ne e),h.2 s]
  refine congrArg (fun b=>DataW.lit (Lit.bool b)) ?_
  apply tf_iff
  constructor
  ·rintro⟨j,y,h1,h2,h3⟩;exact⟨j,y,by omega,h2,h3⟩
  ·rintro⟨j,y,h1,h2,h3⟩
   by_cases ej:j=k
   ·subst ej
    rw[hx] at h2
    injection h2 with h2
    subst h2
    exact absurd h3.symm e
   ·exact⟨j,y,by omega,h2,h3⟩
theorem c_isMixer (x:GMixer) (cs:List Value) (w:World) (hn:x.zH.length≤1048576) (h:T.rds w x.fs cs):Calls Tryz.prog 64 #[.agg cs.toArray] w fun e w'=>e= .returned (.bool (tf (MixerOk x)))∧Below w.heap.size w w':=by
 obtain⟨v0,rfl,h0⟩:=GMixer.yM h
 clear h
 have R0:=hide h0;obtain⟨va0,vc0,rfl,vl0,vm0,vx0⟩:=T.yL h0
 have HX0:=hide vx0;clear vx0 h0
 have HB0:=hide (show Below w.heap.size w (w.alloc (.cells #[(.slice va0 x.zH.length vc0)] 39)) from(Below.refl _ _).alloc (Nat.le_refl _) _)
 have HK0:=hide (Bk.born w 39 #[(.slice va0 x.zH.length vc0)])
 have hmm:= @run_makeMap Tryz.prog
 have HB1:=hide (show Below w.heap.size w ((w.alloc (.cells #[(.slice va0 x.zH.length vc0)] 39)).alloc (.map #[] 0)) from HB0.out.alloc (by simp) _)
 have HK1:=hide (HK0.out.alloc (.map #[] 0))
 have e1:(w.alloc (.cells #[(.slice va0 x.zH.length vc0)] 39)).heap.size=w.heap.size+1:=by simp
 have hm1:((w.alloc (.cells #[(.slice va0 x.zH.length vc0)] 39)).alloc (.map #[] 0)).ownsMap Tryz.prog 9 (plainElem (H:=Unit) Tryz.prog 4) (w.heap.size+1) 0 (.map []):=by have:=World.ownsMap_made (w.alloc (.cells #[(.slice va0 x.zH.length vc0)] 39)) Tryz.prog 9 (plainElem (H:=Unit) Tryz.prog 4);rwa [e1] at this
 have HM1:=hide hm1;clear hm1 e1
 go_enter Tryz.func64,Tryz.ntmps64
 go_wp2_with (go_at_call 61;refine(c_sizeStrip _ _ _ _ (by omega)).mono ?_;rintro e w' ⟨rfl,rfl⟩)
 go_loopw [14] (fun i wr=> ∃ (k:Nat) (D:DataW Unit),k≤x.zH.length∧i= .int .i64 k∧wr.ownsMap Tryz.prog 9 (plainElem (H:=Unit) Tryz.prog 4) (w.heap.size+1) k D∧Nms x.zH k D∧Upto x.zH (fun i x_1=>StripOk x_1 (i:Int) (x.zH.length:Int)∧ ∀ j y,j<i→x.zH[j]?=some y→y.zV≠x_1.zV) k∧Bk wr w.heap.size 39 #[(.slice va0 x.zH.length vc0)]∧Below w.heap.size w wr) (fun i _=>x.zH.length - (intOf i).toNat)
 case atStart=>exact⟨0,_,Nat.zero_le _,rfl,HM1.out,Nms.zero _,Upto.zero,HK1.out,HB1.out⟩
 case round=>
  obtain⟨k,D,hk,rfl,hm,hnm,hs,hbk,hbw⟩:=hrel
  have HM:=hide hm;have HN:=hide hnm;have HS:=hide hs;have HK:=hide hbk;have HB:=hide hbw;clear hm hnm hs hbk hbw
  have ka:=HK.out.cell;have la:=HK.out.lt;have hsz:=HB.out.size;have lm:=HM.out.lt
  by_cases hlt:k<x.zH.length
  rotate_left
  ·have hall:=hide (HS.out.all (by omega));clear HS
   go_wp2_with (go_at_call 62;refine(c_within _ _ _ _).mono ?_;rintro e w' ⟨rfl,rfl⟩)
   go_ret
   exact⟨yG (by
   by_cases h:1≤x.zH.length∧x.zH.length≤8
   ·rw[yV ⟨h.1,h.2,hall.out⟩];exact yX.2 (by omega)
   ·rw[yU fun hh=>h ⟨hh.some_,hh.few⟩];exact inB_false.2 (by omega)),HB.out⟩
  have hgk:=List.getElem?_eq_getElem hlt
  obtain⟨b1,off,cs1,hA,hb1,hcs,hcell⟩:=HX0.out k x.zH[k] hgk
  subst hA
  generalize x.zH[k]=y at *
  have HG:=hide hgk;clear hgk
  obtain⟨u2,rfl,hRY2⟩:=GStrip.yM (show T.rds _ _ _ by simpa only[GStrip.t,T.rd] using hcs)
  have d0:=(HB.out.cell hb1).trans (hcell 0 (.string y.zV) rfl)
  have d1:=(HB.out.cell hb1).trans (hcell 1 (.int .i64 y.zT) rfl)
  have d2:=(HB.out.cell hb1).trans (hcell 2 (u2) rfl)
  rw[show off+(k * 3+0)=off+k * 3 by omega] at d0
  rw[show off+(k * 3+1)=off+k * 3+1 by omega] at d1
  rw[show off+(k * 3+2)=off+k * 3+2 by omega] at d2
  have RY2:=hide (T.yD hRY2 HB.out);clear hRY2
  clear hcs hcell
  obtain⟨ua2,ul2,uc2,rfl⟩:=T.yS RY2.out
  have hq1:b1<wr.heap.size:=Nat.lt_of_lt_of_le hb1 HB.out.size
  have HW:=hide (show Below wr.heap.size wr (wr.alloc (.cells #[.string y.zV,.int .i64 y.zT,.slice ua2 ul2 uc2] 117)) from(Below.refl _ _).alloc (Nat.le_refl _) _)
  have HBW:=hide (yH HB.out HB.out.size HW.out)
  by_cases q1:NameOk y.zV
  rotate_left
  ·have a1:=yU q1;have Q1:=hide q1;clear q1
   go_wp2_with (go_at_call 104;refine(c_IsName _ _).mono ?_;rintro e w' ⟨rfl,rfl⟩;rw[a1])
   go_ret
   exact⟨yG (yU fun h=>Q1.out (h.each k y HG.out).1.name).symm,HBW.out⟩
  have a1:=yV q1;have Q1:=hide q1;clear q1
  have hz:(zeroValue 4).run Tryz.prog (wr.alloc (.cells #[.string y.zV,.int .i64 y.zT,.slice ua2 ul2 uc2] 117))= .ok (.bool false) (wr.alloc (.cells #[.string y.zV,.int .i64 y.zT,.slice ua2 ul2 uc2] 117)):=by kernel_rfl
  have hsn:y.zV.size≤maxLen:=by have:=Q1.out.few;unfold maxLen;omega
  have hkey:=keyOf_string_mk Tryz.underlying9 hsn
  obtain⟨c,hrun,hat⟩:=lookup_bool (HM.out.alloc (.cells #[.string y.zV,.int .i64 y.zT,.slice ua2 ul2 uc2] 117)) key_s Tryz.underlying165 Tryz.underlying4 hz hkey
  rw[HN.out.2 y.zV] at hat
  injection hat with hat;injection hat with hat
  have HKEY:=hide hkey;clear hkey hz hsn
  by_cases q2: ∃ j z,j<k∧x.zH[j]?=some z∧z.zV=y.zV
  ·rw[yV q2] at hat;subst hat
   have Q2:=hide q2;clear q2
   go_wp2_with (go_at_call 104;refine(c_IsName _ _).mono ?_;rintro e w' ⟨rfl,rfl⟩;rw[a1])
   go_ret
   exact⟨yG (yU fun h=>by obtain⟨j,z,h1,h2,h3⟩:=Q2.out;exact(h.each k y HG.out).2 j z h1 h2 h3).symm,HBW.out⟩
  rw[yU q2] at hat;subst hat;have Q2:=hide q2;clear q2
  by_cases q3:inB y.zT 0 32=true
  rotate_left
  ·have q3':inB y.zT 0 32=false:=by simpa using q3
   go_wp2_with (first|(go_at_call 104;refine(c_IsName _ _).mono ?_;rintro e w' ⟨rfl,rfl⟩;rw[a1])|(go_at_call 62;refine(c_within _ _ _ _).mono ?_;rintro e w' ⟨rfl,rfl⟩))
   go_ret
   exact⟨yG (yU fun h=>q3 (h.each k y HG.out).1.latency).symm,HBW.out⟩
  go_wp2_with (first|(go_at_call 104;refine(c_IsName _ _).mono ?_;rintro e w' ⟨rfl,rfl⟩;rw[a1])|(go_at_call 62;refine(c_within _ _ _ _).mono ?_;rintro e w' ⟨rfl,rfl⟩))
  refine(c_areSends _ y.yA (k:Int) (x.zH.length:Int) _ (by omega) (by omega) (by omega) (by omega) (T.yD RY2.out HW.out)).mono ?_;rintro e w3 ⟨rfl,hb3⟩
  have HM3:=hide ((HM.out.alloc (.cells #[.string y.zV,.int .i64 y.zT,.slice ua2 ul2 uc2] 117)).kept (grown_of_below hb3 none) (by simp))
  have HK3:=hide ((HK.out.alloc (.cells #[.string y.zV,.int .i64 y.zT,.slice ua2 ul2 uc2] 117)).below hb3 (by simp;omega))
  have HN3:=hide ((Bk.born wr 117 #[.string y.zV,.int .i64 y.zT,.slice ua2 ul2 uc2]).below hb3 (by simp))
  have HB3:=hide (yH HBW.out HBW.out.size hb3);clear hb3 ka la lm hsz hrun
  have ka:=HK3.out.cell;have kn:=HN3.out.cell;have hsz:=HB3.out.size
  by_cases q4:SendsOk y.yA (k:Int) (x.zH.length:Int)
  rotate_left
  ·rw[yU q4];have Q4:=hide q4;clear q4
   go_wp2
   go_ret
   exact⟨yG (yU fun h=>Q4.out (h.each k y HG.out).1.sends).symm,HB3.out⟩
  rw[yV q4];have Q4:=hide q4;have Q3:=hide q3;clear q4 q3
  go_wp2_with (at_mapUpdate;refine wpList_mapUpdate_own _ rfl _ _ _ _ rfl _ _ key_s Tryz.underlying165 _ _ _ _ rfl HM3.out (by unfold maxLen;omega) _ _ _ rfl rfl HKEY.out _ [] (plainElem_bool Tryz.underlying4 true) ?_;intro w5 hown5 hg5;have HM5:=hide hown5;have HK5:=hide (HK3.out.grown hg5 (by simp));have HB5:=hide (HB3.out.grown hg5 HB3.out.size (fun j hj=>by cases hj;omega));clear hown5 hg5)
  go_roundw
  case rel=>exact⟨k+1,_,by omega,by go_num,HM5.out,HN.out.step HG.out trivial,HS.out.step HG.out ⟨⟨Q1.out,Q3.out,Q4.out⟩,fun j z h1 h2 h3=>Q2.out ⟨j,z,h1,h2,h3⟩⟩,HK5.out,HB5.out⟩
  case measure=>simp[intOf];omega
end Go.Proofs.YtbgedljbgkcpiaaGreatDoor
end
section
namespace Go.Proofs.YtbgedljbgkcpiaaGreatDoor
open Go.RowKit
def kndNames:List (List UInt8):= [[105,110,112,117,116],[99,111,110,115,116],[97,100,100],[115,117,98],[103,97,105,110],[100,101,108,97,121],[115,117,109],[100,105,102,102],[109,117,108],[115,104,105,102,116],[99,108,105,112],[112,104,97,115,101],[116,97,98,108,101],[110,111,105,115,101],[115,101,108,101,99,116],[104,111,108,100],[99,111,109,98]]
def kndName (i:Nat):ByteArray:=⟨(kndNames.getD i []).toArray⟩
def kndCells:Array Value:= #[.string ⟨#[105,110,112,117,116]⟩,.int .i64 0,.int .i64 0,.int .i64 3,.bool true,.bool false,.string ⟨#[99,111,110,115,116]⟩,.int .i64 0,.int .i64 (-2147483648),.int .i64 2147483647,.bool false,.bool false,.string ⟨#[97,100,100]⟩,.int .i64 2,.int .i64 1,.int .i64 0,.bool true,.bool false,.string ⟨#[115,117,98]⟩,.int .i64 2,.int .i64 1,.int .i64 0,.bool true,.bool false,.string ⟨#[103,97,105,110]⟩,.int .i64 1,.int .i64 (-2147483648),.int .i64 2147483647,.bool true,.bool false,.string ⟨#[100,101,108,97,121]⟩,.int .i64 1,.int .i64 1,.int .i64 16,.bool true,.bool false,.string ⟨#[115,117,109]⟩,.int .i64 1,.int .i64 1,.int .i64 0,.bool true,.bool false,.string ⟨#[100,105,102,102]⟩,.int .i64 1,.int .i64 1,.int .i64 0,.bool true,.bool false,.string ⟨#[109,117,108]⟩,.int .i64 2,.int .i64 1,.int .i64 0,.bool false,.bool false,.string ⟨#[115,104,105,102,116]⟩,.int .i64 1,.int .i64 0,.int .i64 31,.bool false,.bool false,.string ⟨#[99,108,105,112]⟩,.int .i64 1,.int .i64 0,.int .i64 2147483647,.bool false,.bool false,.string ⟨#[112,104,97,115,101]⟩,.int .i64 1,.int .i64 (-2147483648),.int .i64 2147483647,.bool false,.bool false,.string ⟨#[116,97,98,108,101]⟩,.int .i64 1,.int .i64 0,.int .i64 3,.bool false,.bool false,.string ⟨#[110,111,105,115,101]⟩,.int .i64 0,.int .i64 (-2147483648),.int .i64 2147483647,.bool false,.bool false,.string ⟨#[115,101,108,101,99,116]⟩,.int .i64 3,.int .i64 1,.int .i64 0,.bool false,.bool false,.string ⟨#[104,111,108,100]⟩,.int .i64 2,.int .i64 1,.int .i64 0,.bool false,.bool false,.string ⟨#[99,111,109,98]⟩,.int .i64 1,.int .i64 (-2147483648),.int .i64 2147483647,.bool true,.bool true]
theorem c_kinds (w:World):Calls Tryz.prog 152 #[] w fun e w'=>e= .returned (.slice (some ⟨w.heap.size,0,none⟩) 17 17)∧w'=w.alloc (.cells kndCells 204):=by
 go_enter Tryz.func152,Tryz.ntmps152
 go_wp2
 go_ret
 exact⟨rfl,rfl⟩
theorem kndCells_at {i:Nat} (h:i<17):kndCells[i * 6]?=some (.string (kndName i))∧kndCells[i * 6+1]?=some (.int .i64 (kndL.getD i ⟨0,0,0,false,false⟩).inputs)∧kndCells[i * 6+2]?=some (.int .i64 (kndL.getD i ⟨0,0,0,false,false⟩).low)∧kndCells[i * 6+3]?=some (.int .i64 (kndL.getD i ⟨0,0,0,false,false⟩).high)∧kndCells[i * 6+4]?=some (.bool (kndL.getD i ⟨0,0,0,false,false⟩).linear)∧kndCells[i * 6+5]?=some (.bool (kndL.getD i ⟨0,0,0,false,false⟩).hasB):=by
 have:i=0∨i=1∨i=2∨i=3∨i=4∨i=5∨i=6∨i=7∨i=8∨i=9∨i=10∨i=11∨i=12∨i=13∨i=14∨i=15∨i=16:=by omega
 rcases this with rfl|rfl|rfl|rfl|rfl|rfl|rfl|rfl|rfl|rfl|rfl|rfl|rfl|rfl|rfl|rfl|rfl
 all_goals exact⟨rfl,rfl,rfl,rfl,rfl,rfl⟩
theorem c_isKind (n:Int) (w:World):Calls Tryz.prog 185 #[.int .i64 n] w fun e w'=>e= .returned (.bool (inB n 1 17))∧w=w':=by
 go_enter Tryz.func185,Tryz.ntmps185
 go_wp2_with (go_at_call 62;refine(c_within _ _ _ _).mono ?_;rintro e w' ⟨rfl,rfl⟩)
 go_ret
 exact⟨rfl,rfl⟩
theorem c_hasA (s:ByteArray) (a lo hi:Int) (l hb:Bool) (w:World):Calls Tryz.prog 153 #[.agg #[.string s,.int .i64 a,.int .i64 lo,.int .i64 hi,.bool l,.bool hb]] w fun e w'=>e= .returned (.bool (decide (lo≤hi)))∧Below w.heap.size w w':=by
 have HB:=hide (show Below w.heap.size w (w.alloc (.cells #[.string s,.int .i64 a,.int .i64 lo,.int .i64 hi,.bool l,.bool hb] 204)) from(Below.refl _ _).alloc (Nat.le_refl _) _)
 go_enter Tryz.func153,Tryz.ntmps153
 go_wp2
 go_ret
 exact⟨rfl,HB.out⟩
end Go.Proofs.YtbgedljbgkcpiaaGreatDoor
end
