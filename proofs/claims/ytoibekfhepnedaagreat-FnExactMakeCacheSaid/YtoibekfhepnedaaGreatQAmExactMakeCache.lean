/- Contracts: the order of a patch's nodes, by the reference; valid patches. Contracts: valid sessions, both sides. -/
import Derived.Test.YtoibekfhepnedaaGreatQAfExactMakeCache
import Derived.Test.YtoibekfhepnedaaGreatQAlExactMakeCache
set_option linter.unusedVariables false
set_option linter.unusedSimpArgs false
set_option maxHeartbeats 2000000
set_option maxRecDepth 20000
namespace Go.Proofs.YtoibekfhepnedaaGreat
section
open Go.RowKit
theorem c_l07Waits (x:xJ) (b o:Nat) (w:World) (h:T.at w x.fs b o):Calls Tryz.prog 235 #[.pointer (some ⟨b,o,none⟩)] w fun e w'=> ∃ u,e= .returned u∧RdI w' u (vY x)∧Below w.heap.size w w':=by
 have HAT:=hide h
 obtain⟨hlt0,cs,hr,hc⟩:=h
 obtain⟨v3,rfl,h3⟩:=xJ.yO hr
 clear hr
 have h3i:=T.yT.1 h3;obtain⟨va3,vc3,rfl,vl3,vm3,vx3⟩:=h3i.open_
 have R3:=hide h3i;have HX3:=hide vx3;clear vx3 h3 h3i
 have HL:=hide hlt0;have HCC:=hide hc;have HB0:=hide (Below.refl w.heap.size w);clear hlt0 hc
 have p0:w.cell? ⟨b,o,none⟩=some (.int .i64 x.zD):=(HB0.out.cell HL.out).trans (HCC.out 0 _ rfl)
 have p1:w.cell? ⟨b,o+1,none⟩=some (.int .i64 x.fA):=(HB0.out.cell HL.out).trans (HCC.out 1 _ rfl)
 have p2:w.cell? ⟨b,o+2,none⟩=some (.int .i64 x.fB):=(HB0.out.cell HL.out).trans (HCC.out 2 _ rfl)
 have p3:w.cell? ⟨b,o+3,none⟩=some (.slice va3 x.zH.length vc3):=(HB0.out.cell HL.out).trans (HCC.out 3 _ rfl)
 have lb:b<w.heap.size:=lL HL.out HB0.out.size
 go_enter Tryz.func235,Tryz.ntmps235
 by_cases h6:x.zD=6
 ·have h6':(x.zD == 6)=true:=yS h6;have H6:=hide h6;clear h6
  have HN:=hide (vC w).rd;have HA:=hide (show Below w.heap.size w (w.alloc (.cells #[] 2)) from(Below.refl _ _).alloc (Nat.le_refl _) _)
  go_wp2
  go_ret
  exact⟨_,rfl,by unfold vY;rw[if_pos H6.out];exact HN.out,HA.out⟩
 ·have h6':(x.zD == 6)=false:=yR h6;have H6:=hide h6;clear h6
  go_wp2
  go_ret
  exact⟨_,rfl,by unfold vY;rw[if_neg H6.out];exact R3.out,Below.refl _ _⟩
theorem c_l07All (v u:Value) (xs ys:List Int) (w:World) (hr:RdI w v xs) (hs:RdI w u ys):Calls Tryz.prog 234 #[v,u] w fun e w'=>e= .returned (.bool (xs.all fun f=>decide (f ∈ ys)))∧w=w':=by
 have HS1:=hide hs
 obtain⟨A,cap,rfl,hl,hc,hx⟩:=hr.open_
 have HX:=hide hx;clear hx hr hs
 go_enter Tryz.func234,Tryz.ntmps234
 go_wp2
 go_loop [5] (fun i=> ∃ k:Nat,k≤xs.length∧i= .int .i64 k∧vI xs (fun _ x=>decide (x ∈ ys)=true) k) (fun i=>xs.length - (intOf i).toNat)
 case atStart=>exact⟨0,Nat.zero_le _,rfl,vI.zero⟩
 case round=>
  obtain⟨k,hk,rfl,hs⟩:=hrel
  have HS:=hide hs;clear hs
  by_cases hlt:k<xs.length
  ·have hgk:=gE hlt
   obtain⟨b,off,rfl,hb,hcell⟩:=HX.out k xs[k] hgk
   generalize xs[k]=x at *
   have HG:=hide hgk;clear hgk
   cases hq:decide (x ∈ ys)
   ·have HQ:=hide hq
    go_wp2_with (go_at_call 58;refine(c_l00Has _ ys _ _ HS1.out).mono ?_;rintro e w' ⟨rfl,rfl⟩;rw[hq])
    go_ret
    exact⟨yI (by
     symm
     rw[List.all_eq_false]
     exact⟨x,List.mem_of_getElem? HG.out,by rw[HQ.out];simp⟩),rfl⟩
   ·have HQ:=hide hq
    go_wp2_with (go_at_call 58;refine(c_l00Has _ ys _ _ HS1.out).mono ?_;rintro e w' ⟨rfl,rfl⟩;rw[hq])
    go_round
    case rel=>exact⟨k+1,by omega,by go_num,HS.out.step HG.out HQ.out⟩
    case measure=>simp[intOf];omega
  ·have hall:=hide (HS.out.all (by omega))
   go_wp2
   go_ret
   exact⟨yI (by
    symm
    rw[List.all_eq_true]
    exact Each.of_mem.1 hall.out),rfl⟩
theorem c_l07Order (x:xG) (b o:Nat) (w:World) (hn:x.zB.length≤1048576) (h:T.at w x.fs b o):Calls Tryz.prog 181 #[.pointer (some ⟨b,o,none⟩)] w fun e w'=> ∃ v,e= .returned (.tuple #[v,.bool (decide ((xR x.zB).length=x.zB.length))])∧((xR x.zB).length=x.zB.length→OwI 2 w' w.heap.size v (xR x.zB))∧Below w.heap.size w w':=by
 have HAT:=hide h
 obtain⟨hlt0,cs,hr,hc⟩:=h
 obtain⟨v1,v2,v3,rfl,h1,h2,h3⟩:=xG.yO hr
 clear hr
 have R1:=hide h1;obtain⟨va1,vc1,rfl,vl1,vm1,vx1⟩:=T.yN h1
 have HX1:=hide vx1;clear vx1 h1
 have R2:=hide h2;obtain⟨va2,vc2,rfl,vl2,vm2,vx2⟩:=T.yN h2
 have HX2:=hide vx2;clear vx2 h2
 have h3i:=T.yT.1 h3;obtain⟨va3,vc3,rfl,vl3,vm3,vx3⟩:=h3i.open_
 have R3:=hide h3i;have HX3:=hide vx3;clear vx3 h3 h3i
 have HL:=hide hlt0;have HCC:=hide hc;have HB0:=hide (Below.refl w.heap.size w);clear hlt0 hc
 have HN0:=hide (vC w);have HA0:=hide (show Below w.heap.size w (w.alloc (.cells #[] 2)) from(Below.refl _ _).alloc (Nat.le_refl _) _)
 go_enter Tryz.func181,Tryz.ntmps181
 go_wp2
 go_loopw [4] (fun v wr=> ∃ m:Nat,OwI 2 wr w.heap.size v (xB x.zB m)∧(xB x.zB m).length=m∧Below w.heap.size w wr) (fun v _=>x.zB.length - lenV v)
 case atStart=>exact⟨0,HN0.out,rfl,HA0.out⟩
 case round=>
  obtain⟨m,ho,hlen,hbw⟩:=hrel
  obtain⟨A,cp,rfl,hcl,hcm,_⟩:=ho.rd.open_
  rw[hlen] at ho hcl ⊢
  have HO:=hide ho;have HLEN:=hide hlen;have HB:=hide hbw;clear ho hbw hlen
  have hcap:=ordNodes_cap (nodes:=x.zB) m
  rw[HLEN.out] at hcap
  have p0:wr.cell? ⟨b,o,none⟩=some (.int .i64 x.zJ):=(HB.out.cell HL.out).trans (HCC.out 0 _ rfl)
  have p1:wr.cell? ⟨b,o+1,none⟩=some (.slice va1 x.zN.length vc1):=(HB.out.cell HL.out).trans (HCC.out 1 _ rfl)
  have p2:wr.cell? ⟨b,o+2,none⟩=some (.slice va2 x.zB.length vc2):=(HB.out.cell HL.out).trans (HCC.out 2 _ rfl)
  have p3:wr.cell? ⟨b,o+3,none⟩=some (.slice va3 x.zK.length vc3):=(HB.out.cell HL.out).trans (HCC.out 3 _ rfl)
  have lb:b<wr.heap.size:=lL HL.out HB.out.size
  by_cases hmn:m<x.zB.length
  rotate_left
  ·obtain rfl:m=x.zB.length:=by omega
   have hd:decide ((xR x.zB).length=x.zB.length)=true:=decide_eq_true HLEN.out
   have HD:=hide hd;clear hd
   go_wp2
   go_ret2
   exact⟨_,by rw[HD.out];rfl,fun _=>HO.out,HB.out⟩
  go_wp2
  clear p0 p1 p2 p3 lb
  generalize wr=wo at *
  go_loopw [5,6] (fun nx i ws=> ∃ (k:Nat) (z:Int),k≤x.zB.length∧i= .int .i64 k∧nx= .int .i64 z∧((z= -1∧ ∀ j,j<k→readyB x.zB (xB x.zB m) j=false)∨(∃ q:Nat,z=(q:Int)∧q<x.zB.length∧readyB x.zB (xB x.zB m) q=true∧ ∀ j,j<q→readyB x.zB (xB x.zB m) j=false))∧Below wo.heap.size wo ws) (fun _ i _=>x.zB.length - (intOf i).toNat)
  case atStart=>exact⟨0,-1,Nat.zero_le _,rfl,rfl,.inl ⟨rfl,fun j h=>absurd h (by omega)⟩,Below.refl _ _⟩
  case round=>
   obtain⟨k,z,hk,rfl,rfl,hz,hbs⟩:=hrel
   have HW:=hide hbs;have HB2:=hide (yJ HB.out HB.out.size hbs);have HO2:=hide (HO.out.all hbs);have hsz:=HB2.out.size;clear hbs
   have p0:wr.cell? ⟨b,o,none⟩=some (.int .i64 x.zJ):=(HB2.out.cell HL.out).trans (HCC.out 0 _ rfl)
   have p1:wr.cell? ⟨b,o+1,none⟩=some (.slice va1 x.zN.length vc1):=(HB2.out.cell HL.out).trans (HCC.out 1 _ rfl)
   have p2:wr.cell? ⟨b,o+2,none⟩=some (.slice va2 x.zB.length vc2):=(HB2.out.cell HL.out).trans (HCC.out 2 _ rfl)
   have p3:wr.cell? ⟨b,o+3,none⟩=some (.slice va3 x.zK.length vc3):=(HB2.out.cell HL.out).trans (HCC.out 3 _ rfl)
   have lb:b<wr.heap.size:=lL HL.out HB2.out.size
   rcases hz with ⟨rfl,hno⟩|⟨q,rfl,hq,hrd,hno⟩
   rotate_left
   ·have HNX:=hide (nextF_some hq hrd hno);clear hrd hno
    have hll:(xB x.zB m).length+1≤17592186044416:=by rw[HLEN.out];omega
    by_cases hkn:k<x.zB.length
    all_goals
     go_wp2_with (at_builtin;refine uQ (n:=(q:Int)) rfl _ _ rfl rfl HO2.out rfl hll hsz ?_;intro v8 w8 ho8 hg8 hv8;have HO8:=hide ho8;have HG8:=hide hg8;clear ho8 hg8 hv8)
     have HB8:=hide (HB2.out.grown HG8.out hsz (fun j hj=>(HO2.out.lt j hj).1))
     have HSN:=hide (ordNodes_snoc HNX.out)
     have HL8:=hide (show (xB x.zB (m+1)).length=m+1 by rw[HSN.out,List.length_append,HLEN.out];rfl)
     obtain⟨A8,c8,rfl,_,_,_⟩:=HO8.out.rd.open_
     have HO9:=hide (show OwI 2 w8 w.heap.size (.slice A8 (m+1) c8) (xB x.zB (m+1)) by have:=HO8.out;rw[HSN.out];simpa[HLEN.out] using this)
     rw[show (xB x.zB m++ [(q:Int)]).length=m+1 by rw[←HSN.out];exact HL8.out]
     clear HO8
     go_wp2
     go_roundw
     case rel=>exact⟨m+1,HO9.out,HL8.out,HB8.out⟩
     case measure=>show x.zB.length - (m+1)<x.zB.length - m;omega
   have HNO:=hide hno;clear hno
   by_cases hlt:k<x.zB.length
   rotate_left
   ·have hnone:=hide (nextF_none (nodes:=x.zB) (out:=(xB x.zB m)) (fun j hj=>HNO.out j (by omega)))
    have HE:=hide (orderF_of_stop hnone.out HLEN.out)
    have HD:=hide (show decide ((xR x.zB).length=x.zB.length)=false by rw[HE.out,HLEN.out];exact decide_eq_false (by omega))
    have HD2:=hide (show ¬ (xR x.zB).length=x.zB.length by rw[HE.out,HLEN.out];omega)
    go_wp2
    go_ret2
    exact⟨_,by rw[HD.out];rfl,fun h=>absurd h HD2.out,HB2.out⟩
   have hgk:=gE hlt
   obtain⟨b1,off,csy,hA,hb1,hcs,hcell⟩:=HX2.out k x.zB[k] hgk
   subst hA
   generalize x.zB[k]=y at *
   have HG:=hide hgk;clear hgk
   have HAy:=hide (T.at_elem (o:=off+k * 4) hb1 (show T.rds w y.fs csy by simpa only[xJ.t,T.rd] using hcs) hcell (by omega));clear hcs hcell
   have n1:((k:Int)<(x.zB.length:Int)):=by omega
   have hq1:b1<wr.heap.size:=lL hb1 HB2.out.size
   have HRDY:=hide (readyB_of (out:=(xB x.zB m)) HG.out)
   cases a1:decide ((k:Int) ∈ (xB x.zB m))
   rotate_left
   ·have HF:=hide (show readyB x.zB (xB x.zB m) k=false by rw[HRDY.out,a1];rfl)
    go_wp2_with (go_at_call 58;refine(c_l00Has _ (xB x.zB m) _ _ HO2.out.rd).mono ?_;rintro e w' ⟨rfl,rfl⟩;rw[a1])
    go_roundw
    case rel=>exact⟨k+1,-1,by omega,by go_num,rfl,.inl ⟨rfl,fun j hj=>by
     by_cases e:j=k
     ·subst e;exact HF.out
     ·exact HNO.out j (by omega)⟩,HW.out⟩
    case measure=>simp[intOf];omega
   rw[a1,Bool.not_false,Bool.true_and] at HRDY
   go_wp2_with (go_at_call 58;refine(c_l00Has _ (xB x.zB m) _ _ HO2.out.rd).mono ?_;rintro e w' ⟨rfl,rfl⟩;rw[a1])
   refine(c_l07Waits y _ _ _ (T.at_below HAy.out HB2.out)).mono ?_;rintro e w4 ⟨u,rfl,hu,hb4⟩
   have HU:=hide hu;have HB4:=hide (yJ HB2.out HB2.out.size hb4);have HO4:=hide (HO2.out.all hb4);have HW4:=hide (yJ HW.out HW.out.size hb4);clear hu hb4 a1
   obtain⟨ua,uc,rfl,_,_,_⟩:=HU.out.open_
   cases a2:(vY y).all fun f=>decide (f ∈ (xB x.zB m))
   ·have HF:=hide (show readyB x.zB (xB x.zB m) k=false by rw[HRDY.out,a2])
    go_wp2_with (go_at_call 234;refine(c_l07All _ _ (vY y) (xB x.zB m) _ HU.out HO4.out.rd).mono ?_;rintro e w' ⟨rfl,rfl⟩;rw[a2])
    go_roundw
    case rel=>exact⟨k+1,-1,by omega,by go_num,rfl,.inl ⟨rfl,fun j hj=>by
     by_cases e:j=k
     ·subst e;exact HF.out
     ·exact HNO.out j (by omega)⟩,HW4.out⟩
    case measure=>simp[intOf];omega
   ·have HF:=hide (show readyB x.zB (xB x.zB m) k=true by rw[HRDY.out,a2])
    go_wp2_with (go_at_call 234;refine(c_l07All _ _ (vY y) (xB x.zB m) _ HU.out HO4.out.rd).mono ?_;rintro e w' ⟨rfl,rfl⟩;rw[a2])
    go_roundw
    case rel=>exact⟨k+1,(k:Int),by omega,by go_num,rfl,.inr ⟨k,rfl,hlt,HF.out,HNO.out⟩,HW4.out⟩
    case measure=>simp[intOf];omega
theorem c_l07Ok (x:xG) (b o:Nat) (w:World) (hn:x.zB.length≤1048576) (ht:x.zN.length≤1048576) (h:T.at w x.fs b o):Calls Tryz.prog 126 #[.pointer (some ⟨b,o,none⟩)] w fun e w'=>e= .returned (.bool (tf (wZ x)))∧Below w.heap.size w w':=by
 have HAT:=hide h
 obtain⟨hlt0,cs,hr,hc⟩:=h
 obtain⟨v1,v2,v3,rfl,h1,h2,h3⟩:=xG.yO hr
 clear hr
 have R1:=hide h1;obtain⟨va1,vc1,rfl,vl1,vm1,vx1⟩:=T.yN h1
 have HX1:=hide vx1;clear vx1 h1
 have R2:=hide h2;obtain⟨va2,vc2,rfl,vl2,vm2,vx2⟩:=T.yN h2
 have HX2:=hide vx2;clear vx2 h2
 have h3i:=T.yT.1 h3;obtain⟨va3,vc3,rfl,vl3,vm3,vx3⟩:=h3i.open_
 have R3:=hide h3i;have HX3:=hide vx3;clear vx3 h3 h3i
 have HL:=hide hlt0;have HCC:=hide hc;have HB0:=hide (Below.refl w.heap.size w);clear hlt0 hc
 go_enter Tryz.func126,Tryz.ntmps126
 go_wp2_with fail
 refine(c_l07Formed x _ _ _ ht HAT.out).mono ?_;rintro e w1 ⟨rfl,hb1⟩
 have HB1:=hide hb1;clear hb1
 by_cases q1:FormedOk x
 rotate_left
 ·rw[yZ q1];have Q1:=hide q1;clear q1
  go_wp2
  go_ret
  exact⟨yI (yZ fun h=>Q1.out h.formed).symm,HB1.out⟩
 rw[xA q1];have Q1:=hide q1;clear q1
 go_wp2_with fail
 refine(c_l07Order x _ _ _ hn (T.at_below HAT.out HB1.out)).mono ?_;rintro e w2 ⟨v,rfl,_,hb2⟩
 have HB2:=hide (yJ HB1.out HB1.out.size hb2);clear hb2
 go_wp2
 go_ret
 exact⟨yI (by
  by_cases h:(xR x.zB).length=x.zB.length
  ·rw[xA ⟨Q1.out,h⟩];exact decide_eq_true h
  ·rw[yZ fun hh=>h hh.order];exact decide_eq_false h),HB2.out⟩
def lenA:Value→Option Addr
 | .slice a _ _=>a
 |_=>none
def capA:Value→Nat
 | .slice _ _ c=>c
 |_=>0
theorem len_form {w:World} {v:Value} {xs:List Int} (h:RdI w v xs):v= .slice (lenA v) xs.length (capA v):=by
 obtain⟨A,c,rfl,_⟩:=h.open_
 rfl
theorem rd_none {α:Type} (w:World) (E:TypeId) (sz:Nat) (tr:α→T):T.rd w (T.sl E sz (([]:List α).map tr)) [.slice none 0 0]:=by
 simp only[T.rd,List.map_nil]
 exact⟨_,[],rfl,by simp,Rd.nil_ w sz,by simp[T.rds]⟩
theorem c_isPatch (x:xG) (cs:List Value) (w:World) (hn:x.zB.length≤1048576) (h:T.rds w x.fs cs):Calls Tryz.prog 166 #[.agg cs.toArray] w fun e w'=>e= .returned (.bool (tf (wZ x)))∧Below w.heap.size w w':=by
 obtain⟨v1,v2,v3,rfl,h1,h2,h3⟩:=xG.yO h
 clear h
 have R1:=hide h1;obtain⟨va1,vc1,rfl,vl1,vm1,vx1⟩:=T.yN h1
 have HX1:=hide vx1;clear vx1 h1
 have R2:=hide h2;obtain⟨va2,vc2,rfl,vl2,vm2,vx2⟩:=T.yN h2
 have HX2:=hide vx2;clear vx2 h2
 have h3i:=T.yT.1 h3;obtain⟨va3,vc3,rfl,vl3,vm3,vx3⟩:=h3i.open_
 have R3:=hide h3i;have HX3:=hide vx3;clear vx3 h3 h3i
 have HB0:=hide (show Below w.heap.size w (w.alloc (.cells #[.int .i64 x.zJ,(.slice va1 x.zN.length vc1),(.slice va2 x.zB.length vc2),(.slice va3 x.zK.length vc3)] 108)) from(Below.refl _ _).alloc (Nat.le_refl _) _)
 have HK0:=hide (Bk.born w 108 #[.int .i64 x.zJ,(.slice va1 x.zN.length vc1),(.slice va2 x.zB.length vc2),(.slice va3 x.zK.length vc3)])
 go_enter Tryz.func166,Tryz.ntmps166
 go_wp2
 generalize (w.alloc (.cells #[.int .i64 x.zJ,(.slice va1 x.zN.length vc1),(.slice va2 x.zB.length vc2),(.slice va3 x.zK.length vc3)] 108))=W at *
 have g0:=xE HK0.out
 have HRW:=hide (fun u=>xG.rd_mk (T.yF R1.out (yJ HB0.out HB0.out.size (yH W u))) (T.yF R2.out (yJ HB0.out HB0.out.size (yH W u))) (T.yT.2 (Rd.below R3.out (yJ HB0.out HB0.out.size (yH W u)))))
 by_cases q1:FormedOk x
 rotate_left
 ·have a1:=yZ q1;have Q1:=hide q1;clear q1
  refine xD (by kernel_rfl) (by kernel_rfl) ?_
  repeat(first|go_big_quiet_skip|(go_big_quiet_want;go_big_quiet_op;first|go_big_quiet_on|(apply Exists.intro;refine⟨fun _=>?_,?_⟩;(· (go_at_call 222;exact Calls.yL ((c_isWellFormed x _ _ (HRW.out _)).mono (fun e w' h=>by(first|rw[a1] at h|skip);exact h))));go_big_quiet_on)))
  refine wpQuiet_nil ?_
  rintro w9 ⟨uu,rfl⟩
  have hb9:=yH W uu
  generalize bel W uu=w9 at *
  have HB9:=hide (yJ HB0.out HB0.out.size hb9)
  go_wp2
  go_ret
  exact⟨yI (yZ fun h=>Q1.out h.formed).symm,HB9.out⟩
 have a1:=xA q1;have Q1:=hide q1;clear q1
 have ka:=HK0.out.cell;have lW:=HK0.out.lt
 have HWF:=hide (show Each x.zB fun _ y=>Idx y.zH (x.zB.length:Int) from fun i y hy=>(Q1.out.nodes i y hy).2.1)
 go_region_held3 (fun w'=>w'.cell? ⟨w.heap.size,0,none⟩=some (.int .i64 x.zJ)∧w'.cell? ⟨w.heap.size,1,none⟩=some (.slice va1 x.zN.length vc1)∧w'.cell? ⟨w.heap.size,2,none⟩=some (.slice va2 x.zB.length vc2)∧w'.cell? ⟨w.heap.size,3,none⟩=some (.slice va3 x.zK.length vc3)) (first|go_keep|(refine⟨(hb4.cell ?_).trans ?_,(hb4.cell ?_).trans ?_,(hb4.cell ?_).trans ?_,(hb4.cell ?_).trans ?_⟩<;>first|assumption|(simp[*];done)|(simp;omega)|omega)|(refine⟨(hb3.cell ?_).trans ?_,(hb3.cell ?_).trans ?_,(hb3.cell ?_).trans ?_,(hb3.cell ?_).trans ?_⟩<;>first|assumption|(simp[*];done)|(simp;omega)|omega)) (first|(go_at_call 222;refine(c_isWellFormed x _ _ (xG.rd_mk (T.yF R1.out (by first|exact HB0.out|exact HB0.out.drew|exact below_drewN HB0.out _)) (T.yF R2.out (by first|exact HB0.out|exact HB0.out.drew|exact below_drewN HB0.out _)) (T.yT.2 (Rd.below R3.out (by first|exact HB0.out|exact HB0.out.drew|exact below_drewN HB0.out _))))).mono ?_;rintro e w3 ⟨rfl,hb3⟩;rw[a1];have hl3:=lL HK0.out.lt hb3.size;have H3:=hide (yJ HB0.out HB0.out.size (by first|exact hb3|exact undrew hb3|exact wM hb3)))|(go_at_call 223;refine(c_order x _ _ hn HWF.out (xG.rd_mk (T.yF R1.out (by first|exact H3.out|exact H3.out.drew|exact below_drewN H3.out _)) (T.yF R2.out (by first|exact H3.out|exact H3.out.drew|exact below_drewN H3.out _)) (T.yT.2 (Rd.below R3.out (by first|exact H3.out|exact H3.out.drew|exact below_drewN H3.out _))))).mono ?_;rintro e w4 ⟨v4,rfl,hv4,hb4⟩;have H4:=hide (yJ H3.out H3.out.size (by first|exact hb4|exact undrew hb4|exact wM hb4));have HV:=hide (show v4= .slice (lenA v4) (xR x.zB).length (capA v4) from len_form hv4.rd);rw[HV.out]))
 go_wp2
 go_ret
 exact⟨yI (by
  by_cases h:(xR x.zB).length=x.zB.length
  ·rw[xA ⟨Q1.out,h⟩];exact yS (by omega)
  ·rw[yZ fun hh=>h hh.order];exact yR (by omega)),H4.out⟩
theorem c_isEmpty (x:xG) (cs:List Value) (w:World) (h:T.rds w x.fs cs):Calls Tryz.prog 165 #[.agg cs.toArray] w fun e w'=>e= .returned (.bool (tf (x=uP)))∧Below w.heap.size w w':=by
 obtain⟨v1,v2,v3,rfl,h1,h2,h3⟩:=xG.yO h
 clear h
 have R1:=hide h1;obtain⟨va1,vc1,rfl,vl1,vm1,vx1⟩:=T.yN h1
 have HX1:=hide vx1;clear vx1 h1
 have R2:=hide h2;obtain⟨va2,vc2,rfl,vl2,vm2,vx2⟩:=T.yN h2
 have HX2:=hide vx2;clear vx2 h2
 have h3i:=T.yT.1 h3;obtain⟨va3,vc3,rfl,vl3,vm3,vx3⟩:=h3i.open_
 have R3:=hide h3i;have HX3:=hide vx3;clear vx3 h3 h3i
 have HB0:=hide (show Below w.heap.size w (w.alloc (.cells #[.int .i64 x.zJ,(.slice va1 x.zN.length vc1),(.slice va2 x.zB.length vc2),(.slice va3 x.zK.length vc3)] 108)) from(Below.refl _ _).alloc (Nat.le_refl _) _)
 have HK0:=hide (Bk.born w 108 #[.int .i64 x.zJ,(.slice va1 x.zN.length vc1),(.slice va2 x.zB.length vc2),(.slice va3 x.zK.length vc3)])
 go_enter Tryz.func165,Tryz.ntmps165
 go_wp2_with fail
 refine(c_iSamePatch x uP _ _ _ (.slice none 0 0) (.slice none 0 0) (.slice none 0 0) _ (T.yF R1.out HB0.out) (T.yF R2.out HB0.out) (T.yT.2 (Rd.below R3.out HB0.out)) ?_ ?_ ?_).mono ?_
 ·exact rd_none _ _ _ _
 ·exact rd_none _ _ _ _
 ·exact T.yT.2 (Rd.nil_ _ _)
 rintro e w1 ⟨rfl,hb1⟩
 have H1:=hide (yJ HB0.out HB0.out.size hb1);clear hb1
 go_wp2
 go_ret
 exact⟨yI tf_dec.symm,H1.out⟩
theorem c_isEffect (x:xG) (cs:List Value) (w:World) (hn:x.zB.length≤1048576) (h:T.rds w x.fs cs):Calls Tryz.prog 110 #[.agg cs.toArray] w fun e w'=>e= .returned (.bool (tf (EffectOk x)))∧Below w.heap.size w w':=by
 obtain⟨v1,v2,v3,rfl,h1,h2,h3⟩:=xG.yO h
 clear h
 have R1:=hide h1;obtain⟨va1,vc1,rfl,vl1,vm1,vx1⟩:=T.yN h1
 have HX1:=hide vx1;clear vx1 h1
 have R2:=hide h2;obtain⟨va2,vc2,rfl,vl2,vm2,vx2⟩:=T.yN h2
 have HX2:=hide vx2;clear vx2 h2
 have h3i:=T.yT.1 h3;obtain⟨va3,vc3,rfl,vl3,vm3,vx3⟩:=h3i.open_
 have R3:=hide h3i;have HX3:=hide vx3;clear vx3 h3 h3i
 have HB0:=hide (show Below w.heap.size w (w.alloc (.cells #[.int .i64 x.zJ,(.slice va1 x.zN.length vc1),(.slice va2 x.zB.length vc2),(.slice va3 x.zK.length vc3)] 108)) from(Below.refl _ _).alloc (Nat.le_refl _) _)
 have HK0:=hide (Bk.born w 108 #[.int .i64 x.zJ,(.slice va1 x.zN.length vc1),(.slice va2 x.zB.length vc2),(.slice va3 x.zK.length vc3)])
 go_enter Tryz.func110,Tryz.ntmps110
 go_wp2_with fail
 refine(c_isEmpty x _ _ (xG.rd_mk (T.yF R1.out HB0.out) (T.yF R2.out HB0.out) (T.yT.2 (Rd.below R3.out HB0.out)))).mono ?_;rintro e w1 ⟨rfl,hd⟩
 have hb:Below (w.alloc (.cells #[.int .i64 x.zJ,(.slice va1 x.zN.length vc1),(.slice va2 x.zB.length vc2),(.slice va3 x.zK.length vc3)] 108)).heap.size (w.alloc (.cells #[.int .i64 x.zJ,(.slice va1 x.zN.length vc1),(.slice va2 x.zB.length vc2),(.slice va3 x.zK.length vc3)] 108)) w1:=by first|exact hd|exact hd.to_below _|exact hd ▸ Below.refl _ _
 have HK1:=hide (HK0.out.below hb HK0.out.lt);have HB1:=hide (yJ HB0.out HB0.out.size hb);clear hb hd;have ka:=HK1.out.cell;have la:=HK1.out.lt
 by_cases q1:x=uP
 ·rw[xA q1];have Q1:=hide q1;clear q1
  go_wp2
  go_ret
  exact⟨yI (xA (.inl Q1.out)).symm,HB1.out⟩
 rw[yZ q1];have Q1:=hide q1;clear q1
 go_wp2_with fail
 refine(c_isPatch x _ _ hn (xG.rd_mk (T.yF R1.out HB1.out) (T.yF R2.out HB1.out) (T.yT.2 (Rd.below R3.out HB1.out)))).mono ?_;rintro e w2 ⟨rfl,hd⟩
 have hb:Below w1.heap.size w1 w2:=by first|exact hd|exact hd.to_below _|exact hd ▸ Below.refl _ _
 have HK2:=hide (HK1.out.below hb HK1.out.lt);have HB2:=hide (yJ HB1.out HB1.out.size hb);clear hb hd ka la;have ka:=HK2.out.cell;have la:=HK2.out.lt
 by_cases q2:wZ x
 rotate_left
 ·rw[yZ q2];have Q2:=hide q2;clear q2
  go_wp2
  go_ret
  exact⟨yI (yZ fun h=>h.elim Q1.out fun h=>Q2.out h.1).symm,HB2.out⟩
 rw[xA q2];have Q2:=hide q2;clear q2
 by_cases q3:x.zJ=1
 rotate_left
 ·have b3:(x.zJ == 1)=false:=yR q3;have Q3:=hide q3;clear q3
  go_wp2
  go_ret
  exact⟨yI (yZ fun h=>h.elim Q1.out fun h=>Q3.out h.2.1).symm,HB2.out⟩
 have b3:(x.zJ == 1)=true:=yS q3;have Q3:=hide q3;clear q3
 by_cases q4:x.zK.length=1
 rotate_left
 ·have b4:((x.zK.length:Int) == 1)=false:=yR (by omega);have Q4:=hide q4;clear q4
  go_wp2
  go_ret
  exact⟨yI (yZ fun h=>h.elim Q1.out fun h=>Q4.out h.2.2).symm,HB2.out⟩
 have b4:((x.zK.length:Int) == 1)=true:=yS (by omega);have Q4:=hide q4;clear q4
 go_wp2
 go_ret
 exact⟨yI (xA (.inr ⟨Q2.out,Q3.out,Q4.out⟩)).symm,HB2.out⟩
end
section
open Go.RowKit
theorem c_isSession (x:xK) (cs:List Value) (w:World) (hs:x.small) (h:T.rds w x.fs cs):Calls Tryz.prog 44 #[.agg cs.toArray] w fun e w'=>e= .returned (.bool (tf (vL x)))∧Below w.heap.size w w':=by
 obtain⟨v1,v2,v3,v4,v5,rfl,h1,h2,h3,h4,h5⟩:=xK.yO h
 clear h
 have R1:=hide h1;obtain⟨va1,vc1,rfl,vl1,vm1,vx1⟩:=T.yN h1
 have HX1:=hide vx1;clear vx1 h1
 have R2:=hide h2;obtain⟨va2,vc2,rfl,vl2,vm2,vx2⟩:=T.yN h2
 have HX2:=hide vx2;clear vx2 h2
 have h3i:=T.yT.1 h3;obtain⟨va3,vc3,rfl,vl3,vm3,vx3⟩:=h3i.open_
 have R3:=hide h3i;have HX3:=hide vx3;clear vx3 h3 h3i
 have R4:=hide h4;obtain⟨va4,vc4,rfl,vl4,vm4,vx4⟩:=T.yN h4
 have HX4:=hide vx4;clear vx4 h4
 have R5:=hide h5;obtain⟨va5,vc5,rfl,vl5,vm5,vx5⟩:=T.yN h5
 have HX5:=hide vx5;clear vx5 h5
 have HB0:=hide (show Below w.heap.size w (w.alloc (.cells #[.int .i64 x.zF,(.slice va1 x.zL.length vc1),(.slice va2 x.zO.length vc2),(.slice va3 x.zQ.length vc3),(.slice va4 x.zP.length vc4),(.slice va5 x.zG.zC.length vc5)] 32)) from(Below.refl _ _).alloc (Nat.le_refl _) _)
 have HK0:=hide (Bk.born w 32 #[.int .i64 x.zF,(.slice va1 x.zL.length vc1),(.slice va2 x.zO.length vc2),(.slice va3 x.zQ.length vc3),(.slice va4 x.zP.length vc4),(.slice va5 x.zG.zC.length vc5)])
 have hn5:x.zG.zC.length≤1048576:=hs.2.2.2.2.1
 have HEF:=hide hs.2.2.2.1.2;clear hs
 go_enter Tryz.func44,Tryz.ntmps44
 by_cases q1:inB x.zF 0 1000=true
 rotate_left
 ·have q1':inB x.zF 0 1000=false:=(by simpa using q1)
  go_wp2_with (first|(go_at_call 89;refine(xS _ _ _ _).mono ?_;rintro e w' ⟨rfl,rfl⟩)|(go_at_call 102;refine(uB _ _ _ _ (by omega)).mono ?_;rintro e w' ⟨rfl,rfl⟩)|(go_at_call 106;refine(uU _ _ _ _ (by omega)).mono ?_;rintro e w' ⟨rfl,rfl⟩)|(go_at_call 103;refine(uO _ x.zL _ (T.yF R1.out HB0.out)).mono ?_;rintro e w' ⟨rfl,rfl⟩;rw[a2])|(go_at_call 105;refine(wQ _ x.zQ _ _ (Rd.below R3.out HB0.out) (by omega) (by omega)).mono ?_;rintro e w' ⟨rfl,rfl⟩;rw[a6]))
  go_ret
  exact⟨yI (yZ fun h=>q1 h.length).symm,HB0.out⟩
 skip
 by_cases q2:zAz x.zL
 rotate_left
 ·have a2:=yZ q2;have Q2:=hide q2;clear q2
  go_wp2_with (first|(go_at_call 89;refine(xS _ _ _ _).mono ?_;rintro e w' ⟨rfl,rfl⟩)|(go_at_call 102;refine(uB _ _ _ _ (by omega)).mono ?_;rintro e w' ⟨rfl,rfl⟩)|(go_at_call 106;refine(uU _ _ _ _ (by omega)).mono ?_;rintro e w' ⟨rfl,rfl⟩)|(go_at_call 103;refine(uO _ x.zL _ (T.yF R1.out HB0.out)).mono ?_;rintro e w' ⟨rfl,rfl⟩;rw[a2])|(go_at_call 105;refine(wQ _ x.zQ _ _ (Rd.below R3.out HB0.out) (by omega) (by omega)).mono ?_;rintro e w' ⟨rfl,rfl⟩;rw[a6]))
  go_ret
  exact⟨yI (yZ fun h=>Q2.out h.sources).symm,HB0.out⟩
 have a2:=xA q2;have Q2:=hide q2;clear q2
 by_cases q3:x.zO.length≤6
 rotate_left
 ·skip
  go_wp2_with (first|(go_at_call 89;refine(xS _ _ _ _).mono ?_;rintro e w' ⟨rfl,rfl⟩)|(go_at_call 102;refine(uB _ _ _ _ (by omega)).mono ?_;rintro e w' ⟨rfl,rfl⟩)|(go_at_call 106;refine(uU _ _ _ _ (by omega)).mono ?_;rintro e w' ⟨rfl,rfl⟩)|(go_at_call 103;refine(uO _ x.zL _ (T.yF R1.out HB0.out)).mono ?_;rintro e w' ⟨rfl,rfl⟩;rw[a2])|(go_at_call 105;refine(wQ _ x.zQ _ _ (Rd.below R3.out HB0.out) (by omega) (by omega)).mono ?_;rintro e w' ⟨rfl,rfl⟩;rw[a6]))
  go_ret
  exact⟨yI (yZ fun h=>q3 h.few).symm,HB0.out⟩
 have Q3:=hide q3
 go_wp2_with (first|(go_at_call 89;refine(xS _ _ _ _).mono ?_;rintro e w' ⟨rfl,rfl⟩)|(go_at_call 102;refine(uB _ _ _ _ (by omega)).mono ?_;rintro e w' ⟨rfl,rfl⟩)|(go_at_call 106;refine(uU _ _ _ _ (by omega)).mono ?_;rintro e w' ⟨rfl,rfl⟩)|(go_at_call 103;refine(uO _ x.zL _ (T.yF R1.out HB0.out)).mono ?_;rintro e w' ⟨rfl,rfl⟩;rw[a2])|(go_at_call 105;refine(wQ _ x.zQ _ _ (Rd.below R3.out HB0.out) (by omega) (by omega)).mono ?_;rintro e w' ⟨rfl,rfl⟩;rw[a6]))
 refine(c_isMixer x.zG _ _ hn5 (xU.rd_mk (T.yF R5.out HB0.out))).mono ?_;rintro e w1 ⟨rfl,hd⟩
 have hb:Below (w.alloc (.cells #[.int .i64 x.zF,(.slice va1 x.zL.length vc1),(.slice va2 x.zO.length vc2),(.slice va3 x.zQ.length vc3),(.slice va4 x.zP.length vc4),(.slice va5 x.zG.zC.length vc5)] 32)).heap.size (w.alloc (.cells #[.int .i64 x.zF,(.slice va1 x.zL.length vc1),(.slice va2 x.zO.length vc2),(.slice va3 x.zQ.length vc3),(.slice va4 x.zP.length vc4),(.slice va5 x.zG.zC.length vc5)] 32)) w1:=by first|exact hd|exact hd.to_below _|exact hd ▸ Below.refl _ _
 have HK1:=hide (HK0.out.below hb HK0.out.lt);have HB1:=hide (yJ HB0.out HB0.out.size hb);clear hb hd;have ka:=HK1.out.cell;have la:=HK1.out.lt
 by_cases q4:vU x.zG
 rotate_left
 ·rw[yZ q4];have Q4:=hide q4;clear q4
  go_wp2
  go_ret
  exact⟨yI (yZ fun h=>Q4.out h.mixer).symm,HB1.out⟩
 rw[xA q4];have Q4:=hide q4;clear q4 a2
 by_cases q5:x.zQ.length=x.zO.length
 rotate_left
 ·have b5:((x.zQ.length:Int) != (x.zO.length:Int))=true:=bneI_t (by omega);have Q5:=hide q5;clear q5
  go_wp2_with (first|(go_at_call 89;refine(xS _ _ _ _).mono ?_;rintro e w' ⟨rfl,rfl⟩)|(go_at_call 102;refine(uB _ _ _ _ (by omega)).mono ?_;rintro e w' ⟨rfl,rfl⟩)|(go_at_call 106;refine(uU _ _ _ _ (by omega)).mono ?_;rintro e w' ⟨rfl,rfl⟩)|(go_at_call 103;refine(uO _ x.zL _ (T.yF R1.out HB1.out)).mono ?_;rintro e w' ⟨rfl,rfl⟩;rw[a2])|(go_at_call 105;refine(wQ _ x.zQ _ _ (Rd.below R3.out HB1.out) (by omega) (by omega)).mono ?_;rintro e w' ⟨rfl,rfl⟩;rw[a6]))
  go_ret
  exact⟨yI (yZ fun h=>Q5.out h.feed).symm,HB1.out⟩
 have b5:((x.zQ.length:Int) != (x.zO.length:Int))=false:=bneI_f (by omega);have Q5:=hide q5;clear q5
 by_cases q6:Idx x.zQ (x.zG.zC.length:Int)
 rotate_left
 ·have a6:=yZ q6;have Q6:=hide q6;clear q6
  go_wp2_with (first|(go_at_call 89;refine(xS _ _ _ _).mono ?_;rintro e w' ⟨rfl,rfl⟩)|(go_at_call 102;refine(uB _ _ _ _ (by omega)).mono ?_;rintro e w' ⟨rfl,rfl⟩)|(go_at_call 106;refine(uU _ _ _ _ (by omega)).mono ?_;rintro e w' ⟨rfl,rfl⟩)|(go_at_call 103;refine(uO _ x.zL _ (T.yF R1.out HB1.out)).mono ?_;rintro e w' ⟨rfl,rfl⟩;rw[a2])|(go_at_call 105;refine(wQ _ x.zQ _ _ (Rd.below R3.out HB1.out) (by omega) (by omega)).mono ?_;rintro e w' ⟨rfl,rfl⟩;rw[a6]))
  go_ret
  exact⟨yI (yZ fun h=>Q6.out h.feeds).symm,HB1.out⟩
 have a6:=xA q6;have Q6:=hide q6;clear q6
 by_cases q7:x.zP.length=x.zG.zC.length
 rotate_left
 ·have b7:((x.zP.length:Int) != (x.zG.zC.length:Int))=true:=bneI_t (by omega);have Q7:=hide q7;clear q7
  go_wp2_with (first|(go_at_call 89;refine(xS _ _ _ _).mono ?_;rintro e w' ⟨rfl,rfl⟩)|(go_at_call 102;refine(uB _ _ _ _ (by omega)).mono ?_;rintro e w' ⟨rfl,rfl⟩)|(go_at_call 106;refine(uU _ _ _ _ (by omega)).mono ?_;rintro e w' ⟨rfl,rfl⟩)|(go_at_call 103;refine(uO _ x.zL _ (T.yF R1.out HB1.out)).mono ?_;rintro e w' ⟨rfl,rfl⟩;rw[a2])|(go_at_call 105;refine(wQ _ x.zQ _ _ (Rd.below R3.out HB1.out) (by omega) (by omega)).mono ?_;rintro e w' ⟨rfl,rfl⟩;rw[a6]))
  go_ret
  exact⟨yI (yZ fun h=>Q7.out h.effect).symm,HB1.out⟩
 have b7:((x.zP.length:Int) != (x.zG.zC.length:Int))=false:=bneI_f (by omega);have Q7:=hide q7;clear q7
 go_wp2_with (first|(go_at_call 89;refine(xS _ _ _ _).mono ?_;rintro e w' ⟨rfl,rfl⟩)|(go_at_call 102;refine(uB _ _ _ _ (by omega)).mono ?_;rintro e w' ⟨rfl,rfl⟩)|(go_at_call 106;refine(uU _ _ _ _ (by omega)).mono ?_;rintro e w' ⟨rfl,rfl⟩)|(go_at_call 103;refine(uO _ x.zL _ (T.yF R1.out HB1.out)).mono ?_;rintro e w' ⟨rfl,rfl⟩;rw[a2])|(go_at_call 105;refine(wQ _ x.zQ _ _ (Rd.below R3.out HB1.out) (by omega) (by omega)).mono ?_;rintro e w' ⟨rfl,rfl⟩;rw[a6]))
 clear a6 ka la
 go_loopw [60] (fun i wr=> ∃ k:Nat,k≤x.zO.length∧i= .int .i64 k∧vI x.zO (fun _ t=>TrackOk t∧ ∀ c ∈ t.zR,c.zU<(x.zL.length:Int)) k∧Below w1.heap.size w1 wr) (fun i _=>x.zO.length - (intOf i).toNat)
 case atStart=>exact⟨0,Nat.zero_le _,rfl,vI.zero,Below.refl _ _⟩
 case round=>
  obtain⟨k,hk,rfl,hs,hbw⟩:=hrel
  have HS:=hide hs;have HW:=hide hbw;have HB:=hide (yJ HB1.out HB1.out.size hbw);have HK:=hide (HK1.out.below hbw HK1.out.lt);clear hs hbw
  have ka:=HK.out.cell;have la:=HK.out.lt
  by_cases hlt:k<x.zO.length
  rotate_left
  ·have hall:=hide (HS.out.all (by omega));clear HS
   generalize wr=w2 at *
   have HB2:=HB;have HK2:=HK;clear HB HK
   go_wp2
   clear ka la
   go_loopw [79] (fun i wr=> ∃ k:Nat,k≤x.zP.length∧i= .int .i64 k∧vI x.zP (fun _ p=>EffectOk p) k∧Below w2.heap.size w2 wr) (fun i _=>x.zP.length - (intOf i).toNat)
   case atStart=>exact⟨0,Nat.zero_le _,rfl,vI.zero,Below.refl _ _⟩
   case round=>
    obtain⟨k,hk,rfl,hs,hbw⟩:=hrel
    have HS:=hide hs;have HW:=hide hbw;have HB:=hide (yJ HB2.out HB2.out.size hbw);have HK:=hide (HK2.out.below hbw HK2.out.lt);clear hs hbw
    have ka:=HK.out.cell;have la:=HK.out.lt
    by_cases hlt:k<x.zP.length
    rotate_left
    ·have hall2:=hide (HS.out.all (by omega));clear HS
     go_wp2
     go_ret
     exact⟨yI (xA ⟨q1,Q2.out,Q3.out,Q4.out,Q5.out,Q6.out,Q7.out,fun i t ht=>⟨(hall.out i t ht).1,Each.of_mem.2 (hall.out i t ht).2⟩,hall2.out⟩).symm,HB.out⟩
    have hgk:=gE hlt
    obtain⟨b1,off,cs1,hA,hb1,hcs,hcell⟩:=HX4.out k x.zP[k] hgk
    subst hA
    generalize x.zP[k]=y at *
    have HG:=hide hgk;clear hgk
    obtain⟨u1,u2,u3,rfl,hRY1,hRY2,hRY3⟩:=xG.yO (show T.rds _ _ _ by simpa only[xG.t,T.rd] using hcs)
    have d0:=(HB.out.cell hb1).trans (hcell 0 (.int .i64 y.zJ) rfl)
    have d1:=(HB.out.cell hb1).trans (hcell 1 (u1) rfl)
    have d2:=(HB.out.cell hb1).trans (hcell 2 (u2) rfl)
    have d3:=(HB.out.cell hb1).trans (hcell 3 (u3) rfl)
    rw[show off+(k * 4+0)=off+k * 4 by omega] at d0
    rw[show off+(k * 4+1)=off+k * 4+1 by omega] at d1
    rw[show off+(k * 4+2)=off+k * 4+2 by omega] at d2
    rw[show off+(k * 4+3)=off+k * 4+3 by omega] at d3
    have RY1:=hide (T.yF hRY1 HB.out);clear hRY1
    have RY2:=hide (T.yF hRY2 HB.out);clear hRY2
    have RY3:=hide (T.yF hRY3 HB.out);clear hRY3
    clear hcs hcell
    obtain⟨ua1,uc1,rfl,ul1,um1,ux1⟩:=T.yN RY1.out;clear ux1
    obtain⟨ua2,uc2,rfl,ul2,um2,ux2⟩:=T.yN RY2.out;clear ux2
    have RY3i:=hide (T.yT.1 RY3.out);obtain⟨ua3,uc3,rfl,ul3,um3,ux3⟩:=RY3i.out.open_;clear ux3
    have hq1:b1<wr.heap.size:=lL hb1 HB.out.size
    have hny:=(HEF.out y (List.mem_of_getElem? HG.out)).2.1.1
    have HWP:=hide (show Below wr.heap.size wr (wr.alloc (.cells #[.int .i64 y.zJ,(.slice ua1 y.zN.length uc1),(.slice ua2 y.zB.length uc2),(.slice ua3 y.zK.length uc3)] 108)) from(Below.refl _ _).alloc (Nat.le_refl _) _)
    go_wp2_with fail
    refine(c_isEffect y _ _ hny (xG.rd_mk (T.yF RY1.out HWP.out) (T.yF RY2.out HWP.out) (T.yF RY3.out HWP.out))).mono ?_;rintro e w3 ⟨rfl,hb3⟩
    have H3:=hide (yJ HWP.out HWP.out.size hb3);have HB3:=hide (yJ HB.out HB.out.size H3.out);have HW3:=hide (yJ HW.out HW.out.size H3.out);clear hb3
    by_cases q8:EffectOk y
    rotate_left
    ·rw[yZ q8];have Q8:=hide q8;clear q8
     go_wp2
     go_ret
     exact⟨yI (yZ fun h=>Q8.out (h.effects k y HG.out)).symm,HB3.out⟩
    rw[xA q8];have Q8:=hide q8;clear q8
    go_wp2
    go_roundw
    case rel=>exact⟨k+1,by omega,by go_num,HS.out.step HG.out Q8.out,HW3.out⟩
    case measure=>simp[intOf];omega
  have hgk:=gE hlt
  obtain⟨b1,off,cs1,hA,hb1,hcs,hcell⟩:=HX2.out k x.zO[k] hgk
  subst hA
  generalize x.zO[k]=y at *
  have HG:=hide hgk;clear hgk
  obtain⟨u0,rfl,hRY0⟩:=xI.yO (show T.rds _ _ _ by simpa only[xI.t,T.rd] using hcs)
  have d0:=(HB.out.cell hb1).trans (hcell 0 (u0) rfl)
  rw[show off+(k * 1+0)=off+k by omega] at d0
  have RY0:=hide (T.yF hRY0 HB.out);clear hRY0
  clear hcs hcell
  obtain⟨ua0,uc0,rfl,ul0,um0,ux0⟩:=T.yN RY0.out;clear ux0
  have hq1:b1<wr.heap.size:=lL hb1 HB.out.size
  by_cases q8:TrackOk y
  rotate_left
  ·have b8:=yZ q8;have Q8:=hide q8;clear q8
   have hWb:Below wr.heap.size wr (wr.alloc (.cells #[(.slice ua0 y.zR.length uc0)] 96)):=(Below.refl _ _).alloc (Nat.le_refl _) _
   have hNb:=Bk.born wr 96 #[(.slice ua0 y.zR.length uc0)]
   go_wp2
   generalize wr.alloc (.cells #[(.slice ua0 y.zR.length uc0)] 96)=W at *
   have HWb:=hide hWb;have HNb:=hide hNb;have HKW:=hide (HK.out.below hWb HK.out.lt)
   have g0:=xE hNb;have g1:=xE HKW.out
   clear hWb hNb
   refine xD (by kernel_rfl) (by kernel_rfl) ?_
   repeat(first|go_big_quiet_skip|(go_big_quiet_want;go_big_quiet_op;first|go_big_quiet_on|(apply Exists.intro;refine⟨fun _=>?_,?_⟩;(· (first|(go_at_call 107;exact Calls.yL ((c_isTrack y _ _ (xI.rd_mk (T.yF RY0.out (yJ HWb.out HWb.out.size (yH W _))))).mono (fun e w' h=>by(first|rw[b8] at h|skip);exact h)))|(go_at_call 109;exact Calls.yK (c_sizeLL _ _ _ _ (by omega)))|(go_at_call 108;exact Calls.yL ((c_hasSources y _ (x.zL.length:Int) _ (xI.rd_mk (T.yF RY0.out (yJ HWb.out HWb.out.size (yH W _))))).mono (fun e w' h=>by(first|rw[b9] at h|skip);exact h)))));go_big_quiet_on)))
   refine wpQuiet_nil ?_
   rintro w9 ⟨uu,rfl⟩
   have hb9:=yH W uu
   generalize bel W uu=w9 at *
   have HC:=hide (yJ HWb.out HWb.out.size hb9);have HC2:=hide (yJ HB.out HB.out.size HC.out);have HC3:=hide (yJ HW.out HW.out.size HC.out)
   clear hb9 g0 g1
   go_wp2
   go_ret
   exact⟨yI (yZ fun h=>Q8.out (h.tracks k y HG.out).1).symm,HC2.out⟩
  have b8:=xA q8;have Q8:=hide q8;clear q8
  by_cases q9: ∀ c ∈ y.zR,c.zU<(x.zL.length:Int)
  rotate_left
  ·have b9:=yZ q9;have Q9:=hide q9;clear q9
   have hWb:Below wr.heap.size wr (wr.alloc (.cells #[(.slice ua0 y.zR.length uc0)] 96)):=(Below.refl _ _).alloc (Nat.le_refl _) _
   have hNb:=Bk.born wr 96 #[(.slice ua0 y.zR.length uc0)]
   go_wp2
   generalize wr.alloc (.cells #[(.slice ua0 y.zR.length uc0)] 96)=W at *
   have HWb:=hide hWb;have HNb:=hide hNb;have HKW:=hide (HK.out.below hWb HK.out.lt)
   have g0:=xE hNb;have g1:=xE HKW.out
   clear hWb hNb
   refine xD (by kernel_rfl) (by kernel_rfl) ?_
   repeat(first|go_big_quiet_skip|(go_big_quiet_want;go_big_quiet_op;first|go_big_quiet_on|(apply Exists.intro;refine⟨fun _=>?_,?_⟩;(· (first|(go_at_call 107;exact Calls.yL ((c_isTrack y _ _ (xI.rd_mk (T.yF RY0.out (yJ HWb.out HWb.out.size (yH W _))))).mono (fun e w' h=>by(first|rw[b8] at h|skip);exact h)))|(go_at_call 109;exact Calls.yK (c_sizeLL _ _ _ _ (by omega)))|(go_at_call 108;exact Calls.yL ((c_hasSources y _ (x.zL.length:Int) _ (xI.rd_mk (T.yF RY0.out (yJ HWb.out HWb.out.size (yH W _))))).mono (fun e w' h=>by(first|rw[b9] at h|skip);exact h)))));go_big_quiet_on)))
   refine wpQuiet_nil ?_
   rintro w9 ⟨uu,rfl⟩
   have hb9:=yH W uu
   generalize bel W uu=w9 at *
   have HC:=hide (yJ HWb.out HWb.out.size hb9);have HC2:=hide (yJ HB.out HB.out.size HC.out);have HC3:=hide (yJ HW.out HW.out.size HC.out)
   clear hb9 g0 g1
   go_wp2
   go_ret
   exact⟨yI (yZ fun h=>Q9.out (Each.of_mem.1 (h.tracks k y HG.out).2)).symm,HC2.out⟩
  have b9:=xA q9;have Q9:=hide q9;clear q9
  have hWb:Below wr.heap.size wr (wr.alloc (.cells #[(.slice ua0 y.zR.length uc0)] 96)):=(Below.refl _ _).alloc (Nat.le_refl _) _
  have hNb:=Bk.born wr 96 #[(.slice ua0 y.zR.length uc0)]
  go_wp2
  generalize wr.alloc (.cells #[(.slice ua0 y.zR.length uc0)] 96)=W at *
  have HWb:=hide hWb;have HNb:=hide hNb;have HKW:=hide (HK.out.below hWb HK.out.lt)
  have g0:=xE hNb;have g1:=xE HKW.out
  clear hWb hNb
  refine xD (by kernel_rfl) (by kernel_rfl) ?_
  repeat(first|go_big_quiet_skip|(go_big_quiet_want;go_big_quiet_op;first|go_big_quiet_on|(apply Exists.intro;refine⟨fun _=>?_,?_⟩;(· (first|(go_at_call 107;exact Calls.yL ((c_isTrack y _ _ (xI.rd_mk (T.yF RY0.out (yJ HWb.out HWb.out.size (yH W _))))).mono (fun e w' h=>by(first|rw[b8] at h|skip);exact h)))|(go_at_call 109;exact Calls.yK (c_sizeLL _ _ _ _ (by omega)))|(go_at_call 108;exact Calls.yL ((c_hasSources y _ (x.zL.length:Int) _ (xI.rd_mk (T.yF RY0.out (yJ HWb.out HWb.out.size (yH W _))))).mono (fun e w' h=>by(first|rw[b9] at h|skip);exact h)))));go_big_quiet_on)))
  refine wpQuiet_nil ?_
  rintro w9 ⟨uu,rfl⟩
  have hb9:=yH W uu
  generalize bel W uu=w9 at *
  have HC:=hide (yJ HWb.out HWb.out.size hb9);have HC2:=hide (yJ HB.out HB.out.size HC.out);have HC3:=hide (yJ HW.out HW.out.size HC.out)
  clear hb9 g0 g1
  go_wp2
  go_roundw
  case rel=>exact⟨k+1,by omega,by go_num,HS.out.step HG.out ⟨Q8.out,Q9.out⟩,HC3.out⟩
  case measure=>simp[intOf];omega
end
end Go.Proofs.YtoibekfhepnedaaGreat
