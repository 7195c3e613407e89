/- Contracts: the order of a patch's nodes, by the reference; valid patches. -/
import Derived.Test.YtoibekfhepnedaaGreatQAlExactSoundCache
import Derived.Test.YtoibekfhepnedaaGreatQApExactSoundCache
import Derived.Test.YtoibekfhepnedaaGreatQAqExactSoundCache
set_option linter.unusedVariables false
set_option linter.unusedSimpArgs false
set_option maxHeartbeats 2000000
set_option maxRecDepth 20000
namespace Go.Proofs.YtoibekfhepnedaaGreat
open Go.RowKit
theorem c_l07Waits (x:GNode) (b o:Nat) (w:World) (h:T.at w x.fs b o):Calls Tryz.prog 235 #[.pointer (some ⟨b,o,none⟩)] w fun e w'=> ∃ u,e= .returned u∧RdI w' u (waitsF x)∧Below w.heap.size w w':=by
 have HAT:=hide h
 obtain⟨hlt0,cs,hr,hc⟩:=h
 obtain⟨v3,rfl,h3⟩:=GNode.yN hr
 clear hr
 have h3i:=T.yR.1 h3;obtain⟨va3,vc3,rfl,vl3,vm3,vx3⟩:=h3i.open_
 have R3:=hide h3i;have HX3:=hide vx3;clear vx3 h3 h3i
 have HL:=hide hlt0;have HCC:=hide hc;have HB0:=hide (Below.refl w.heap.size w);clear hlt0 hc
 have p0:w.cell? ⟨b,o,none⟩=some (.int .i64 x.zD):=(HB0.out.cell HL.out).trans (HCC.out 0 _ rfl)
 have p1:w.cell? ⟨b,o+1,none⟩=some (.int .i64 x.fA):=(HB0.out.cell HL.out).trans (HCC.out 1 _ rfl)
 have p2:w.cell? ⟨b,o+2,none⟩=some (.int .i64 x.fB):=(HB0.out.cell HL.out).trans (HCC.out 2 _ rfl)
 have p3:w.cell? ⟨b,o+3,none⟩=some (.slice va3 x.zH.length vc3):=(HB0.out.cell HL.out).trans (HCC.out 3 _ rfl)
 have lb:b<w.heap.size:=Nat.lt_of_lt_of_le HL.out HB0.out.size
 go_enter Tryz.func235,Tryz.ntmps235
 by_cases h6:x.zD=6
 ·have h6':(x.zD == 6)=true:=yQ h6;have H6:=hide h6;clear h6
  have HN:=hide (new_i64 w).rd;have HA:=hide (show Below w.heap.size w (w.alloc (.cells #[] 2)) from(Below.refl _ _).alloc (Nat.le_refl _) _)
  go_wp2
  go_ret
  exact⟨_,rfl,by unfold waitsF;rw[if_pos H6.out];exact HN.out,HA.out⟩
 ·have h6':(x.zD == 6)=false:=yP h6;have H6:=hide h6;clear h6
  go_wp2
  go_ret
  exact⟨_,rfl,by unfold waitsF;rw[if_neg H6.out];exact R3.out,Below.refl _ _⟩
theorem c_l07All (v u:Value) (xs ys:List Int) (w:World) (hr:RdI w v xs) (hs:RdI w u ys):Calls Tryz.prog 234 #[v,u] w fun e w'=>e= .returned (.bool (xs.all fun f=>decide (f ∈ ys)))∧w=w':=by
 have HS1:=hide hs
 obtain⟨A,cap,rfl,hl,hc,hx⟩:=hr.open_
 have HX:=hide hx;clear hx hr hs
 go_enter Tryz.func234,Tryz.ntmps234
 go_wp2
 go_loop [5] (fun i=> ∃ k:Nat,k≤xs.length∧i= .int .i64 k∧Upto xs (fun _ x=>decide (x ∈ ys)=true) k) (fun i=>xs.length - (intOf i).toNat)
 case atStart=>exact⟨0,Nat.zero_le _,rfl,Upto.zero⟩
 case round=>
  obtain⟨k,hk,rfl,hs⟩:=hrel
  have HS:=hide hs;clear hs
  by_cases hlt:k<xs.length
  ·have hgk:=List.getElem?_eq_getElem hlt
   obtain⟨b,off,rfl,hb,hcell⟩:=HX.out k xs[k] hgk
   generalize xs[k]=x at *
   have HG:=hide hgk;clear hgk
   cases hq:decide (x ∈ ys)
   ·have HQ:=hide hq
    go_wp2_with (go_at_call 58;refine(c_l00Has _ ys _ _ HS1.out).mono ?_;rintro e w' ⟨rfl,rfl⟩;rw[hq])
    go_ret
    exact⟨yH (by
     symm
     rw[List.all_eq_false]
     exact⟨x,List.mem_of_getElem? HG.out,by rw[HQ.out];simp⟩),rfl⟩
   ·have HQ:=hide hq
    go_wp2_with (go_at_call 58;refine(c_l00Has _ ys _ _ HS1.out).mono ?_;rintro e w' ⟨rfl,rfl⟩;rw[hq])
    go_round
    case rel=>exact⟨k+1,by omega,by go_num,HS.out.step HG.out HQ.out⟩
    case measure=>simp[intOf];omega
  ·have hall:=hide (HS.out.all (by omega))
   go_wp2
   go_ret
   exact⟨yH (by
    symm
    rw[List.all_eq_true]
    exact Each.of_mem.1 hall.out),rfl⟩
theorem c_l07Order (x:GPatch) (b o:Nat) (w:World) (hn:x.zB.length≤1048576) (h:T.at w x.fs b o):Calls Tryz.prog 181 #[.pointer (some ⟨b,o,none⟩)] w fun e w'=> ∃ v,e= .returned (.tuple #[v,.bool (decide ((orderF x.zB).length=x.zB.length))])∧((orderF x.zB).length=x.zB.length→OwI 2 w' w.heap.size v (orderF x.zB))∧Below w.heap.size w w':=by
 have HAT:=hide h
 obtain⟨hlt0,cs,hr,hc⟩:=h
 obtain⟨v1,v2,v3,rfl,h1,h2,h3⟩:=GPatch.yN hr
 clear hr
 have R1:=hide h1;obtain⟨va1,vc1,rfl,vl1,vm1,vx1⟩:=T.yM h1
 have HX1:=hide vx1;clear vx1 h1
 have R2:=hide h2;obtain⟨va2,vc2,rfl,vl2,vm2,vx2⟩:=T.yM h2
 have HX2:=hide vx2;clear vx2 h2
 have h3i:=T.yR.1 h3;obtain⟨va3,vc3,rfl,vl3,vm3,vx3⟩:=h3i.open_
 have R3:=hide h3i;have HX3:=hide vx3;clear vx3 h3 h3i
 have HL:=hide hlt0;have HCC:=hide hc;have HB0:=hide (Below.refl w.heap.size w);clear hlt0 hc
 have HN0:=hide (new_i64 w);have HA0:=hide (show Below w.heap.size w (w.alloc (.cells #[] 2)) from(Below.refl _ _).alloc (Nat.le_refl _) _)
 go_enter Tryz.func181,Tryz.ntmps181
 go_wp2
 go_loopw [4] (fun v wr=> ∃ m:Nat,OwI 2 wr w.heap.size v (yY x.zB m)∧(yY x.zB m).length=m∧Below w.heap.size w wr) (fun v _=>x.zB.length - lenV v)
 case atStart=>exact⟨0,HN0.out,rfl,HA0.out⟩
 case round=>
  obtain⟨m,ho,hlen,hbw⟩:=hrel
  obtain⟨A,cp,rfl,hcl,hcm,_⟩:=ho.rd.open_
  rw[hlen] at ho hcl ⊢
  have HO:=hide ho;have HLEN:=hide hlen;have HB:=hide hbw;clear ho hbw hlen
  have hcap:=ordNodes_cap (nodes:=x.zB) m
  rw[HLEN.out] at hcap
  have p0:wr.cell? ⟨b,o,none⟩=some (.int .i64 x.zK):=(HB.out.cell HL.out).trans (HCC.out 0 _ rfl)
  have p1:wr.cell? ⟨b,o+1,none⟩=some (.slice va1 x.zM.length vc1):=(HB.out.cell HL.out).trans (HCC.out 1 _ rfl)
  have p2:wr.cell? ⟨b,o+2,none⟩=some (.slice va2 x.zB.length vc2):=(HB.out.cell HL.out).trans (HCC.out 2 _ rfl)
  have p3:wr.cell? ⟨b,o+3,none⟩=some (.slice va3 x.zL.length vc3):=(HB.out.cell HL.out).trans (HCC.out 3 _ rfl)
  have lb:b<wr.heap.size:=Nat.lt_of_lt_of_le HL.out HB.out.size
  by_cases hmn:m<x.zB.length
  rotate_left
  ·obtain rfl:m=x.zB.length:=by omega
   have hd:decide ((orderF x.zB).length=x.zB.length)=true:=decide_eq_true HLEN.out
   have HD:=hide hd;clear hd
   go_wp2
   go_ret2
   exact⟨_,by rw[HD.out];rfl,fun _=>HO.out,HB.out⟩
  go_wp2
  clear p0 p1 p2 p3 lb
  generalize wr=wo at *
  go_loopw [5,6] (fun nx i ws=> ∃ (k:Nat) (z:Int),k≤x.zB.length∧i= .int .i64 k∧nx= .int .i64 z∧((z= -1∧ ∀ j,j<k→readyB x.zB (yY x.zB m) j=false)∨(∃ q:Nat,z=(q:Int)∧q<x.zB.length∧readyB x.zB (yY x.zB m) q=true∧ ∀ j,j<q→readyB x.zB (yY x.zB m) j=false))∧Below wo.heap.size wo ws) (fun _ i _=>x.zB.length - (intOf i).toNat)
  case atStart=>exact⟨0,-1,Nat.zero_le _,rfl,rfl,.inl ⟨rfl,fun j h=>absurd h (by omega)⟩,Below.refl _ _⟩
  case round=>
   obtain⟨k,z,hk,rfl,rfl,hz,hbs⟩:=hrel
   have HW:=hide hbs;have HB2:=hide (yI HB.out HB.out.size hbs);have HO2:=hide (HO.out.all hbs);have hsz:=HB2.out.size;clear hbs
   have p0:wr.cell? ⟨b,o,none⟩=some (.int .i64 x.zK):=(HB2.out.cell HL.out).trans (HCC.out 0 _ rfl)
   have p1:wr.cell? ⟨b,o+1,none⟩=some (.slice va1 x.zM.length vc1):=(HB2.out.cell HL.out).trans (HCC.out 1 _ rfl)
   have p2:wr.cell? ⟨b,o+2,none⟩=some (.slice va2 x.zB.length vc2):=(HB2.out.cell HL.out).trans (HCC.out 2 _ rfl)
   have p3:wr.cell? ⟨b,o+3,none⟩=some (.slice va3 x.zL.length vc3):=(HB2.out.cell HL.out).trans (HCC.out 3 _ rfl)
   have lb:b<wr.heap.size:=Nat.lt_of_lt_of_le HL.out HB2.out.size
   rcases hz with ⟨rfl,hno⟩|⟨q,rfl,hq,hrd,hno⟩
   rotate_left
   ·have HNX:=hide (nextF_some hq hrd hno);clear hrd hno
    have hll:(yY x.zB m).length+1≤17592186044416:=by rw[HLEN.out];omega
    by_cases hkn:k<x.zB.length
    all_goals
     go_wp2_with (at_builtin;refine app1_i64 (n:=(q:Int)) rfl _ _ rfl rfl HO2.out rfl hll hsz ?_;intro v8 w8 ho8 hg8 hv8;have HO8:=hide ho8;have HG8:=hide hg8;clear ho8 hg8 hv8)
     have HB8:=hide (HB2.out.grown HG8.out hsz (fun j hj=>(HO2.out.lt j hj).1))
     have HSN:=hide (ordNodes_snoc HNX.out)
     have HL8:=hide (show (yY x.zB (m+1)).length=m+1 by rw[HSN.out,List.length_append,HLEN.out];rfl)
     obtain⟨A8,c8,rfl,_,_,_⟩:=HO8.out.rd.open_
     have HO9:=hide (show OwI 2 w8 w.heap.size (.slice A8 (m+1) c8) (yY x.zB (m+1)) by have:=HO8.out;rw[HSN.out];simpa[HLEN.out] using this)
     rw[show (yY x.zB m++ [(q:Int)]).length=m+1 by rw[←HSN.out];exact HL8.out]
     clear HO8
     go_wp2
     go_roundw
     case rel=>exact⟨m+1,HO9.out,HL8.out,HB8.out⟩
     case measure=>show x.zB.length - (m+1)<x.zB.length - m;omega
   have HNO:=hide hno;clear hno
   by_cases hlt:k<x.zB.length
   rotate_left
   ·have hnone:=hide (nextF_none (nodes:=x.zB) (out:=(yY x.zB m)) (fun j hj=>HNO.out j (by omega)))
    have HE:=hide (orderF_of_stop hnone.out HLEN.out)
    have HD:=hide (show decide ((orderF x.zB).length=x.zB.length)=false by rw[HE.out,HLEN.out];exact decide_eq_false (by omega))
    have HD2:=hide (show ¬ (orderF x.zB).length=x.zB.length by rw[HE.out,HLEN.out];omega)
    go_wp2
    go_ret2
    exact⟨_,by rw[HD.out];rfl,fun h=>absurd h HD2.out,HB2.out⟩
   have hgk:=List.getElem?_eq_getElem hlt
   obtain⟨b1,off,csy,hA,hb1,hcs,hcell⟩:=HX2.out k x.zB[k] hgk
   subst hA
   generalize x.zB[k]=y at *
   have HG:=hide hgk;clear hgk
   have HAy:=hide (T.at_elem (o:=off+k * 4) hb1 (show T.rds w y.fs csy by simpa only[GNode.t,T.rd] using hcs) hcell (by omega));clear hcs hcell
   have n1:((k:Int)<(x.zB.length:Int)):=by omega
   have hq1:b1<wr.heap.size:=Nat.lt_of_lt_of_le hb1 HB2.out.size
   have HRDY:=hide (readyB_of (out:=(yY x.zB m)) HG.out)
   cases a1:decide ((k:Int) ∈ (yY x.zB m))
   rotate_left
   ·have HF:=hide (show readyB x.zB (yY x.zB m) k=false by rw[HRDY.out,a1];rfl)
    go_wp2_with (go_at_call 58;refine(c_l00Has _ (yY x.zB m) _ _ HO2.out.rd).mono ?_;rintro e w' ⟨rfl,rfl⟩;rw[a1])
    go_roundw
    case rel=>exact⟨k+1,-1,by omega,by go_num,rfl,.inl ⟨rfl,fun j hj=>by
     by_cases e:j=k
     ·subst e;exact HF.out
     ·exact HNO.out j (by omega)⟩,HW.out⟩
    case measure=>simp[intOf];omega
   rw[a1,Bool.not_false,Bool.true_and] at HRDY
   go_wp2_with (go_at_call 58;refine(c_l00Has _ (yY x.zB m) _ _ HO2.out.rd).mono ?_;rintro e w' ⟨rfl,rfl⟩;rw[a1])
   refine(c_l07Waits y _ _ _ (T.at_below HAy.out HB2.out)).mono ?_;rintro e w4 ⟨u,rfl,hu,hb4⟩
   have HU:=hide hu;have HB4:=hide (yI HB2.out HB2.out.size hb4);have HO4:=hide (HO2.out.all hb4);have HW4:=hide (yI HW.out HW.out.size hb4);clear hu hb4 a1
   obtain⟨ua,uc,rfl,_,_,_⟩:=HU.out.open_
   cases a2:(waitsF y).all fun f=>decide (f ∈ (yY x.zB m))
   ·have HF:=hide (show readyB x.zB (yY x.zB m) k=false by rw[HRDY.out,a2])
    go_wp2_with (go_at_call 234;refine(c_l07All _ _ (waitsF y) (yY x.zB m) _ HU.out HO4.out.rd).mono ?_;rintro e w' ⟨rfl,rfl⟩;rw[a2])
    go_roundw
    case rel=>exact⟨k+1,-1,by omega,by go_num,rfl,.inl ⟨rfl,fun j hj=>by
     by_cases e:j=k
     ·subst e;exact HF.out
     ·exact HNO.out j (by omega)⟩,HW4.out⟩
    case measure=>simp[intOf];omega
   ·have HF:=hide (show readyB x.zB (yY x.zB m) k=true by rw[HRDY.out,a2])
    go_wp2_with (go_at_call 234;refine(c_l07All _ _ (waitsF y) (yY x.zB m) _ HU.out HO4.out.rd).mono ?_;rintro e w' ⟨rfl,rfl⟩;rw[a2])
    go_roundw
    case rel=>exact⟨k+1,(k:Int),by omega,by go_num,rfl,.inr ⟨k,rfl,hlt,HF.out,HNO.out⟩,HW4.out⟩
    case measure=>simp[intOf];omega
theorem c_l07Ok (x:GPatch) (b o:Nat) (w:World) (hn:x.zB.length≤1048576) (ht:x.zM.length≤1048576) (h:T.at w x.fs b o):Calls Tryz.prog 126 #[.pointer (some ⟨b,o,none⟩)] w fun e w'=>e= .returned (.bool (tf (PatchOk x)))∧Below w.heap.size w w':=by
 have HAT:=hide h
 obtain⟨hlt0,cs,hr,hc⟩:=h
 obtain⟨v1,v2,v3,rfl,h1,h2,h3⟩:=GPatch.yN hr
 clear hr
 have R1:=hide h1;obtain⟨va1,vc1,rfl,vl1,vm1,vx1⟩:=T.yM h1
 have HX1:=hide vx1;clear vx1 h1
 have R2:=hide h2;obtain⟨va2,vc2,rfl,vl2,vm2,vx2⟩:=T.yM h2
 have HX2:=hide vx2;clear vx2 h2
 have h3i:=T.yR.1 h3;obtain⟨va3,vc3,rfl,vl3,vm3,vx3⟩:=h3i.open_
 have R3:=hide h3i;have HX3:=hide vx3;clear vx3 h3 h3i
 have HL:=hide hlt0;have HCC:=hide hc;have HB0:=hide (Below.refl w.heap.size w);clear hlt0 hc
 go_enter Tryz.func126,Tryz.ntmps126
 go_wp2_with fail
 refine(c_l07Formed x _ _ _ ht HAT.out).mono ?_;rintro e w1 ⟨rfl,hb1⟩
 have HB1:=hide hb1;clear hb1
 by_cases q1:FormedOk x
 rotate_left
 ·rw[yW q1];have Q1:=hide q1;clear q1
  go_wp2
  go_ret
  exact⟨yH (yW fun h=>Q1.out h.formed).symm,HB1.out⟩
 rw[yX q1];have Q1:=hide q1;clear q1
 go_wp2_with fail
 refine(c_l07Order x _ _ _ hn (T.at_below HAT.out HB1.out)).mono ?_;rintro e w2 ⟨v,rfl,_,hb2⟩
 have HB2:=hide (yI HB1.out HB1.out.size hb2);clear hb2
 go_wp2
 go_ret
 exact⟨yH (by
  by_cases h:(orderF x.zB).length=x.zB.length
  ·rw[yX ⟨Q1.out,h⟩];exact decide_eq_true h
  ·rw[yW fun hh=>h hh.order];exact decide_eq_false h),HB2.out⟩
def lenA:Value→Option Addr
 | .slice a _ _=>a
 |_=>none
def capA:Value→Nat
 | .slice _ _ c=>c
 |_=>0
theorem len_form {w:World} {v:Value} {xs:List Int} (h:RdI w v xs):v= .slice (lenA v) xs.length (capA v):=by
 obtain⟨A,c,rfl,_⟩:=h.open_
 rfl
theorem rd_none {α:Type} (w:World) (E:TypeId) (sz:Nat) (tr:α→T):T.rd w (T.sl E sz (([]:List α).map tr)) [.slice none 0 0]:=by
 simp only[T.rd,List.map_nil]
 exact⟨_,[],rfl,by simp,Rd.nil_ w sz,by simp[T.rds]⟩
theorem c_isPatch (x:GPatch) (cs:List Value) (w:World) (hn:x.zB.length≤1048576) (h:T.rds w x.fs cs):Calls Tryz.prog 166 #[.agg cs.toArray] w fun e w'=>e= .returned (.bool (tf (PatchOk x)))∧Below w.heap.size w w':=by
 obtain⟨v1,v2,v3,rfl,h1,h2,h3⟩:=GPatch.yN h
 clear h
 have R1:=hide h1;obtain⟨va1,vc1,rfl,vl1,vm1,vx1⟩:=T.yM h1
 have HX1:=hide vx1;clear vx1 h1
 have R2:=hide h2;obtain⟨va2,vc2,rfl,vl2,vm2,vx2⟩:=T.yM h2
 have HX2:=hide vx2;clear vx2 h2
 have h3i:=T.yR.1 h3;obtain⟨va3,vc3,rfl,vl3,vm3,vx3⟩:=h3i.open_
 have R3:=hide h3i;have HX3:=hide vx3;clear vx3 h3 h3i
 have HB0:=hide (show Below w.heap.size w (w.alloc (.cells #[.int .i64 x.zK,(.slice va1 x.zM.length vc1),(.slice va2 x.zB.length vc2),(.slice va3 x.zL.length vc3)] 108)) from(Below.refl _ _).alloc (Nat.le_refl _) _)
 have HK0:=hide (Bk.born w 108 #[.int .i64 x.zK,(.slice va1 x.zM.length vc1),(.slice va2 x.zB.length vc2),(.slice va3 x.zL.length vc3)])
 go_enter Tryz.func166,Tryz.ntmps166
 go_wp2
 generalize (w.alloc (.cells #[.int .i64 x.zK,(.slice va1 x.zM.length vc1),(.slice va2 x.zB.length vc2),(.slice va3 x.zL.length vc3)] 108))=W at *
 have g0:=xB HK0.out
 have HRW:=hide (fun u=>GPatch.rd_mk (T.yE R1.out (yI HB0.out HB0.out.size (yG W u))) (T.yE R2.out (yI HB0.out HB0.out.size (yG W u))) (T.yR.2 (Rd.below R3.out (yI HB0.out HB0.out.size (yG W u)))))
 by_cases q1:FormedOk x
 rotate_left
 ·have a1:=yW q1;have Q1:=hide q1;clear q1
  refine xA (by kernel_rfl) (by kernel_rfl) ?_
  repeat(first|go_big_quiet_skip|(go_big_quiet_want;go_big_quiet_op;first|go_big_quiet_on|(apply Exists.intro;refine⟨fun _=>?_,?_⟩;(· (go_at_call 222;exact Calls.yK ((c_isWellFormed x _ _ (HRW.out _)).mono (fun e w' h=>by(first|rw[a1] at h|skip);exact h))));go_big_quiet_on)))
  refine wpQuiet_nil ?_
  rintro w9 ⟨uu,rfl⟩
  have hb9:=yG W uu
  generalize bel W uu=w9 at *
  have HB9:=hide (yI HB0.out HB0.out.size hb9)
  go_wp2
  go_ret
  exact⟨yH (yW fun h=>Q1.out h.formed).symm,HB9.out⟩
 have a1:=yX q1;have Q1:=hide q1;clear q1
 have ka:=HK0.out.cell;have lW:=HK0.out.lt
 have HWF:=hide (show Each x.zB fun _ y=>Idx y.zH (x.zB.length:Int) from fun i y hy=>(Q1.out.nodes i y hy).2.1)
 go_region_held3 (fun w'=>w'.cell? ⟨w.heap.size,0,none⟩=some (.int .i64 x.zK)∧w'.cell? ⟨w.heap.size,1,none⟩=some (.slice va1 x.zM.length vc1)∧w'.cell? ⟨w.heap.size,2,none⟩=some (.slice va2 x.zB.length vc2)∧w'.cell? ⟨w.heap.size,3,none⟩=some (.slice va3 x.zL.length vc3)) (first|go_keep|(refine⟨(hb4.cell ?_).trans ?_,(hb4.cell ?_).trans ?_,(hb4.cell ?_).trans ?_,(hb4.cell ?_).trans ?_⟩<;>first|assumption|(simp[*];done)|(simp;omega)|omega)|(refine⟨(hb3.cell ?_).trans ?_,(hb3.cell ?_).trans ?_,(hb3.cell ?_).trans ?_,(hb3.cell ?_).trans ?_⟩<;>first|assumption|(simp[*];done)|(simp;omega)|omega)) (first|(go_at_call 222;refine(c_isWellFormed x _ _ (GPatch.rd_mk (T.yE R1.out (by first|exact HB0.out|exact HB0.out.drew|exact below_drewN HB0.out _)) (T.yE R2.out (by first|exact HB0.out|exact HB0.out.drew|exact below_drewN HB0.out _)) (T.yR.2 (Rd.below R3.out (by first|exact HB0.out|exact HB0.out.drew|exact below_drewN HB0.out _))))).mono ?_;rintro e w3 ⟨rfl,hb3⟩;rw[a1];have hl3:=Nat.lt_of_lt_of_le HK0.out.lt hb3.size;have H3:=hide (yI HB0.out HB0.out.size (by first|exact hb3|exact undrew hb3|exact undrewN hb3)))|(go_at_call 223;refine(c_order x _ _ hn HWF.out (GPatch.rd_mk (T.yE R1.out (by first|exact H3.out|exact H3.out.drew|exact below_drewN H3.out _)) (T.yE R2.out (by first|exact H3.out|exact H3.out.drew|exact below_drewN H3.out _)) (T.yR.2 (Rd.below R3.out (by first|exact H3.out|exact H3.out.drew|exact below_drewN H3.out _))))).mono ?_;rintro e w4 ⟨v4,rfl,hv4,hb4⟩;have H4:=hide (yI H3.out H3.out.size (by first|exact hb4|exact undrew hb4|exact undrewN hb4));have HV:=hide (show v4= .slice (lenA v4) (orderF x.zB).length (capA v4) from len_form hv4.rd);rw[HV.out]))
 go_wp2
 go_ret
 exact⟨yH (by
  by_cases h:(orderF x.zB).length=x.zB.length
  ·rw[yX ⟨Q1.out,h⟩];exact yQ (by omega)
  ·rw[yW fun hh=>h hh.order];exact yP (by omega)),H4.out⟩
theorem c_isEmpty (x:GPatch) (cs:List Value) (w:World) (h:T.rds w x.fs cs):Calls Tryz.prog 165 #[.agg cs.toArray] w fun e w'=>e= .returned (.bool (tf (x=noPatch)))∧Below w.heap.size w w':=by
 obtain⟨v1,v2,v3,rfl,h1,h2,h3⟩:=GPatch.yN h
 clear h
 have R1:=hide h1;obtain⟨va1,vc1,rfl,vl1,vm1,vx1⟩:=T.yM h1
 have HX1:=hide vx1;clear vx1 h1
 have R2:=hide h2;obtain⟨va2,vc2,rfl,vl2,vm2,vx2⟩:=T.yM h2
 have HX2:=hide vx2;clear vx2 h2
 have h3i:=T.yR.1 h3;obtain⟨va3,vc3,rfl,vl3,vm3,vx3⟩:=h3i.open_
 have R3:=hide h3i;have HX3:=hide vx3;clear vx3 h3 h3i
 have HB0:=hide (show Below w.heap.size w (w.alloc (.cells #[.int .i64 x.zK,(.slice va1 x.zM.length vc1),(.slice va2 x.zB.length vc2),(.slice va3 x.zL.length vc3)] 108)) from(Below.refl _ _).alloc (Nat.le_refl _) _)
 have HK0:=hide (Bk.born w 108 #[.int .i64 x.zK,(.slice va1 x.zM.length vc1),(.slice va2 x.zB.length vc2),(.slice va3 x.zL.length vc3)])
 go_enter Tryz.func165,Tryz.ntmps165
 go_wp2_with fail
 refine(c_iSamePatch x noPatch _ _ _ (.slice none 0 0) (.slice none 0 0) (.slice none 0 0) _ (T.yE R1.out HB0.out) (T.yE R2.out HB0.out) (T.yR.2 (Rd.below R3.out HB0.out)) ?_ ?_ ?_).mono ?_
 ·exact rd_none _ _ _ _
 ·exact rd_none _ _ _ _
 ·exact T.yR.2 (Rd.nil_ _ _)
 rintro e w1 ⟨rfl,hb1⟩
 have H1:=hide (yI HB0.out HB0.out.size hb1);clear hb1
 go_wp2
 go_ret
 exact⟨yH tf_dec.symm,H1.out⟩
theorem c_isEffect (x:GPatch) (cs:List Value) (w:World) (hn:x.zB.length≤1048576) (h:T.rds w x.fs cs):Calls Tryz.prog 110 #[.agg cs.toArray] w fun e w'=>e= .returned (.bool (tf (EffectOk x)))∧Below w.heap.size w w':=by
 obtain⟨v1,v2,v3,rfl,h1,h2,h3⟩:=GPatch.yN h
 clear h
 have R1:=hide h1;obtain⟨va1,vc1,rfl,vl1,vm1,vx1⟩:=T.yM h1
 have HX1:=hide vx1;clear vx1 h1
 have R2:=hide h2;obtain⟨va2,vc2,rfl,vl2,vm2,vx2⟩:=T.yM h2
 have HX2:=hide vx2;clear vx2 h2
 have h3i:=T.yR.1 h3;obtain⟨va3,vc3,rfl,vl3,vm3,vx3⟩:=h3i.open_
 have R3:=hide h3i;have HX3:=hide vx3;clear vx3 h3 h3i
 have HB0:=hide (show Below w.heap.size w (w.alloc (.cells #[.int .i64 x.zK,(.slice va1 x.zM.length vc1),(.slice va2 x.zB.length vc2),(.slice va3 x.zL.length vc3)] 108)) from(Below.refl _ _).alloc (Nat.le_refl _) _)
 have HK0:=hide (Bk.born w 108 #[.int .i64 x.zK,(.slice va1 x.zM.length vc1),(.slice va2 x.zB.length vc2),(.slice va3 x.zL.length vc3)])
 go_enter Tryz.func110,Tryz.ntmps110
 go_wp2_with fail
 refine(c_isEmpty x _ _ (GPatch.rd_mk (T.yE R1.out HB0.out) (T.yE R2.out HB0.out) (T.yR.2 (Rd.below R3.out HB0.out)))).mono ?_;rintro e w1 ⟨rfl,hd⟩
 have hb:Below (w.alloc (.cells #[.int .i64 x.zK,(.slice va1 x.zM.length vc1),(.slice va2 x.zB.length vc2),(.slice va3 x.zL.length vc3)] 108)).heap.size (w.alloc (.cells #[.int .i64 x.zK,(.slice va1 x.zM.length vc1),(.slice va2 x.zB.length vc2),(.slice va3 x.zL.length vc3)] 108)) w1:=by first|exact hd|exact hd.to_below _|exact hd ▸ Below.refl _ _
 have HK1:=hide (HK0.out.below hb HK0.out.lt);have HB1:=hide (yI HB0.out HB0.out.size hb);clear hb hd;have ka:=HK1.out.cell;have la:=HK1.out.lt
 by_cases q1:x=noPatch
 ·rw[yX q1];have Q1:=hide q1;clear q1
  go_wp2
  go_ret
  exact⟨yH (yX (.inl Q1.out)).symm,HB1.out⟩
 rw[yW q1];have Q1:=hide q1;clear q1
 go_wp2_with fail
 refine(c_isPatch x _ _ hn (GPatch.rd_mk (T.yE R1.out HB1.out) (T.yE R2.out HB1.out) (T.yR.2 (Rd.below R3.out HB1.out)))).mono ?_;rintro e w2 ⟨rfl,hd⟩
 have hb:Below w1.heap.size w1 w2:=by first|exact hd|exact hd.to_below _|exact hd ▸ Below.refl _ _
 have HK2:=hide (HK1.out.below hb HK1.out.lt);have HB2:=hide (yI HB1.out HB1.out.size hb);clear hb hd ka la;have ka:=HK2.out.cell;have la:=HK2.out.lt
 by_cases q2:PatchOk x
 rotate_left
 ·rw[yW q2];have Q2:=hide q2;clear q2
  go_wp2
  go_ret
  exact⟨yH (yW fun h=>h.elim Q1.out fun h=>Q2.out h.1).symm,HB2.out⟩
 rw[yX q2];have Q2:=hide q2;clear q2
 by_cases q3:x.zK=1
 rotate_left
 ·have b3:(x.zK == 1)=false:=yP q3;have Q3:=hide q3;clear q3
  go_wp2
  go_ret
  exact⟨yH (yW fun h=>h.elim Q1.out fun h=>Q3.out h.2.1).symm,HB2.out⟩
 have b3:(x.zK == 1)=true:=yQ q3;have Q3:=hide q3;clear q3
 by_cases q4:x.zL.length=1
 rotate_left
 ·have b4:((x.zL.length:Int) == 1)=false:=yP (by omega);have Q4:=hide q4;clear q4
  go_wp2
  go_ret
  exact⟨yH (yW fun h=>h.elim Q1.out fun h=>Q4.out h.2.2).symm,HB2.out⟩
 have b4:((x.zL.length:Int) == 1)=true:=yQ (by omega);have Q4:=hide q4;clear q4
 go_wp2
 go_ret
 exact⟨yH (yX (.inr ⟨Q2.out,Q3.out,Q4.out⟩)).symm,HB2.out⟩
end Go.Proofs.YtoibekfhepnedaaGreat
