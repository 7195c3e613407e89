/- Contracts: the order of a patch's nodes, by the reference; valid patches. Contracts: valid sessions, both sides. -/
import Derived.Test.YtoibekfhepnedaaGreatQAeExactMix
import Derived.Test.YtoibekfhepnedaaGreatQAkExactMix
set_option linter.unusedVariables false
set_option linter.unusedSimpArgs false
set_option maxHeartbeats 2000000
set_option maxRecDepth 20000
namespace Go.Proofs.YtoibekfhepnedaaGreat
section
open Go.RowKit
theorem c_l07Waits (x:xR) (b o:Nat) (w:World) (h:T.at w x.fs b o):Calls Tryz.prog 235 #[.pointer (some ⟨b,o,none⟩)] w fun e w'=> ∃ u,e= .returned u∧RdI w' u (uS x)∧Below w.heap.size w w':=by
 have HAT:=xN h;obtain⟨hlt0,cs,hr,hc⟩:=h;obtain⟨v3,rfl,h3⟩:=xR.yV hr;clear hr;obtain⟨va3,vc3,rfl,vl3,vm3,R3,HX3⟩:=oI h3;clear h3;have HL:=xN hlt0;have HCC:=xN hc;have HB0:=xN (Below.refl w.heap.size w);clear hlt0 hc;have p0:w.cell? ⟨b,o,none⟩=some (.int .i64 x.zG):=(HB0.out.cell HL.out).trans (HCC.out 0 _ rfl);have p1:w.cell? ⟨b,o+1,none⟩=some (.int .i64 x.fA):=(HB0.out.cell HL.out).trans (HCC.out 1 _ rfl);have p2:w.cell? ⟨b,o+2,none⟩=some (.int .i64 x.fB):=(HB0.out.cell HL.out).trans (HCC.out 2 _ rfl);have p3:w.cell? ⟨b,o+3,none⟩=some (.slice va3 x.zK.length vc3):=(HB0.out.cell HL.out).trans (HCC.out 3 _ rfl);have lb:b<w.heap.size:=zW HL.out HB0.out.size
 go_enter Tryz.func235,Tryz.ntmps235
 by_cases h6:x.zG=6
 ·have h6':(x.zG == 6)=true:=xA h6;have H6:=xN h6;clear h6
  have HN:=xN (vL w).rd;have HA:=xN (show Below w.heap.size w (w.alloc (.cells #[] 2)) from zR.alloc zJ _);go_wp2;go_ret
  exact⟨_,rfl,by unfold uS;rw[if_pos H6.out];exact HN.out,HA.out⟩
 ·have h6':(x.zG == 6)=false:=yZ h6;have H6:=xN h6;clear h6
  go_wp2;go_ret
  exact⟨_,rfl,by unfold uS;rw[if_neg H6.out];exact R3.out,zR⟩
theorem c_l07All (v u:Value) (xs ys:List Int) (w:World) (hr:RdI w v xs) (hs:RdI w u ys):Calls Tryz.prog 234 #[v,u] w fun e w'=>e= .returned (.bool (xs.all fun f=>decide (f ∈ ys)))∧w=w':=by
 have HS1:=xN hs;obtain⟨A,cap,rfl,hl,hc,hx⟩:=hr.open_;have HX:=xN hx;clear hx hr hs
 go_enter Tryz.func234,Tryz.ntmps234
 go_wp2
 go_loop [5] (fun i=> ∃ k:Nat,k≤xs.length∧i= .int .i64 k∧vP xs (fun _ x=>decide (x ∈ ys)=true) k) (fun i=>xs.length - (intOf i).toNat)
 case atStart=>exact⟨0,Nat.zero_le _,rfl,vP.zero⟩
 case round=>
  obtain⟨k,hk,rfl,hs⟩:=hrel;have HS:=xN hs;clear hs;by_cases hlt:k<xs.length
  ·have hgk:=gE hlt
   obtain⟨b,off,rfl,hb,hcell⟩:=HX.out k xs[k] hgk;generalize xs[k]=x at *;have HG:=xN hgk;clear hgk
   cases hq:decide (x ∈ ys)
   ·have HQ:=xN hq
    go_wp2_with (go_at_call 58;refine(zRz _ ys _ _ HS1.out).mono ?_;rintro e w' ⟨rfl,rfl⟩;rw[hq])
    go_ret
    exact⟨yP (by
     symm
     rw[List.all_eq_false];exact⟨x,List.mem_of_getElem? HG.out,by rw[HQ.out];simp⟩),rfl⟩
   ·have HQ:=xN hq
    go_wp2_with (go_at_call 58;refine(zRz _ ys _ _ HS1.out).mono ?_;rintro e w' ⟨rfl,rfl⟩;rw[hq])
    go_round
    case rel=>exact⟨k+1,by omega,by go_num,HS.out.step HG.out HQ.out⟩
    case measure=>simp[intOf];omega
  ·have hall:=xN (HS.out.all zM)
   go_wp2;go_ret
   exact⟨yP (by
    symm
    rw[List.all_eq_true];exact Each.of_mem.1 hall.out),rfl⟩
theorem c_l07Order (x:xO) (b o:Nat) (w:World) (hn:x.zC.length≤1048576) (h:T.at w x.fs b o):Calls Tryz.prog 181 #[.pointer (some ⟨b,o,none⟩)] w fun e w'=> ∃ v,e= .returned (.tuple #[v,.bool (decide ((wD x.zC).length=x.zC.length))])∧((wD x.zC).length=x.zC.length→OwI 2 w' w.heap.size v (wD x.zC))∧Below w.heap.size w w':=by
 have HAT:=xN h;obtain⟨hlt0,cs,hr,hc⟩:=h;obtain⟨v1,v2,v3,rfl,h1,h2,h3⟩:=xO.yV hr;clear hr;obtain⟨va1,vc1,rfl,vl1,vm1,R1,HX1⟩:=oG h1;clear h1;obtain⟨va2,vc2,rfl,vl2,vm2,R2,HX2⟩:=oG h2;clear h2;obtain⟨va3,vc3,rfl,vl3,vm3,R3,HX3⟩:=oI h3;clear h3;have HL:=xN hlt0;have HCC:=xN hc;have HB0:=xN (Below.refl w.heap.size w);clear hlt0 hc;have HN0:=xN (vL w);have HA0:=xN (show Below w.heap.size w (w.alloc (.cells #[] 2)) from zR.alloc zJ _)
 go_enter Tryz.func181,Tryz.ntmps181
 go_wp2
 go_loopw [4] (fun v wr=> ∃ m:Nat,OwI 2 wr w.heap.size v (xJ x.zC m)∧(xJ x.zC m).length=m∧Below w.heap.size w wr) (fun v _=>x.zC.length - lenV v)
 case atStart=>exact⟨0,HN0.out,rfl,HA0.out⟩
 case round=>
  obtain⟨m,ho,hlen,hbw⟩:=hrel;obtain⟨A,cp,rfl,hcl,hcm,_⟩:=ho.rd.open_;rw[hlen] at ho hcl ⊢;have HO:=xN ho;have HLEN:=xN hlen;have HB:=xN hbw;clear ho hbw hlen;have hcap:=wGz (nodes:=x.zC) m;rw[HLEN.out] at hcap;have p0:wr.cell? ⟨b,o,none⟩=some (.int .i64 x.zS):=(HB.out.cell HL.out).trans (HCC.out 0 _ rfl);have p1:wr.cell? ⟨b,o+1,none⟩=some (.slice va1 x.zV.length vc1):=(HB.out.cell HL.out).trans (HCC.out 1 _ rfl);have p2:wr.cell? ⟨b,o+2,none⟩=some (.slice va2 x.zC.length vc2):=(HB.out.cell HL.out).trans (HCC.out 2 _ rfl);have p3:wr.cell? ⟨b,o+3,none⟩=some (.slice va3 x.zT.length vc3):=(HB.out.cell HL.out).trans (HCC.out 3 _ rfl);have lb:b<wr.heap.size:=zW HL.out HB.out.size;by_cases hmn:m<x.zC.length
  rotate_left
  ·obtain rfl:m=x.zC.length:=by omega
   have hd:decide ((wD x.zC).length=x.zC.length)=true:=decide_eq_true HLEN.out;have HD:=xN hd;clear hd;go_wp2
   go_ret2
   exact⟨_,by rw[HD.out];rfl,fun _=>HO.out,HB.out⟩
  go_wp2;clear p0 p1 p2 p3 lb;generalize wr=wo at *
  go_loopw [5,6] (fun nx i ws=> ∃ (k:Nat) (z:Int),k≤x.zC.length∧i= .int .i64 k∧nx= .int .i64 z∧((z= -1∧ ∀ j,j<k→zZz x.zC (xJ x.zC m) j=false)∨(∃ q:Nat,z=(q:Int)∧q<x.zC.length∧zZz x.zC (xJ x.zC m) q=true∧ ∀ j,j<q→zZz x.zC (xJ x.zC m) j=false))∧Below wo.heap.size wo ws) (fun _ i _=>x.zC.length - (intOf i).toNat)
  case atStart=>exact⟨0,-1,Nat.zero_le _,rfl,rfl,.inl ⟨rfl,fun j h=>absurd h zM⟩,zR⟩
  case round=>
   obtain⟨k,z,hk,rfl,rfl,hz,hbs⟩:=hrel;have HW:=xN hbs;have HB2:=xN (yQ HB.out HB.out.size hbs);have HO2:=xN (HO.out.all hbs);have hsz:=HB2.out.size;clear hbs;have p0:wr.cell? ⟨b,o,none⟩=some (.int .i64 x.zS):=(HB2.out.cell HL.out).trans (HCC.out 0 _ rfl);have p1:wr.cell? ⟨b,o+1,none⟩=some (.slice va1 x.zV.length vc1):=(HB2.out.cell HL.out).trans (HCC.out 1 _ rfl);have p2:wr.cell? ⟨b,o+2,none⟩=some (.slice va2 x.zC.length vc2):=(HB2.out.cell HL.out).trans (HCC.out 2 _ rfl);have p3:wr.cell? ⟨b,o+3,none⟩=some (.slice va3 x.zT.length vc3):=(HB2.out.cell HL.out).trans (HCC.out 3 _ rfl);have lb:b<wr.heap.size:=zW HL.out HB2.out.size
   rcases hz with ⟨rfl,hno⟩|⟨q,rfl,hq,hrd,hno⟩
   rotate_left
   ·have HNX:=xN (nextF_some hq hrd hno);clear hrd hno
    have hll:(xJ x.zC m).length+1≤17592186044416:=by rw[HLEN.out];omega
    by_cases hkn:k<x.zC.length
    all_goals
     go_wp2_with (at_builtin;refine zDz (n:=(q:Int)) rfl _ _ rfl rfl HO2.out rfl hll hsz ?_;intro v8 w8 ho8 hg8 hv8;have HO8:=xN ho8;have HG8:=xN hg8;clear ho8 hg8 hv8)
     have HB8:=xN (HB2.out.grown HG8.out hsz (fun j hj=>(HO2.out.lt j hj).1));have HSN:=xN (wYz HNX.out);have HL8:=xN (show (xJ x.zC (m+1)).length=m+1 by rw[HSN.out,List.length_append,HLEN.out];rfl);obtain⟨A8,c8,rfl,_,_,_⟩:=HO8.out.rd.open_;have HO9:=xN (show OwI 2 w8 w.heap.size (.slice A8 (m+1) c8) (xJ x.zC (m+1)) by have:=HO8.out;rw[HSN.out];simpa[HLEN.out] using this);rw[show (xJ x.zC m++ [(q:Int)]).length=m+1 by rw[←HSN.out];exact HL8.out];clear HO8;go_wp2
     go_roundw
     case rel=>exact⟨m+1,HO9.out,HL8.out,HB8.out⟩
     case measure=>show x.zC.length - (m+1)<x.zC.length - m;omega
   have HNO:=xN hno;clear hno;by_cases hlt:k<x.zC.length
   rotate_left
   ·have hnone:=xN (nextF_none (nodes:=x.zC) (out:=(xJ x.zC m)) (fun j hj=>HNO.out j zM))
    have HE:=xN (uJz hnone.out HLEN.out);have HD:=xN (show decide ((wD x.zC).length=x.zC.length)=false by rw[HE.out,HLEN.out];exact decide_eq_false zM);have HD2:=xN (show ¬ (wD x.zC).length=x.zC.length by rw[HE.out,HLEN.out];omega);go_wp2
    go_ret2
    exact⟨_,by rw[HD.out];rfl,fun h=>absurd h HD2.out,HB2.out⟩
   have hgk:=gE hlt;obtain⟨b1,off,csy,hA,hb1,hcs,hcell⟩:=HX2.out k x.zC[k] hgk;subst hA;generalize x.zC[k]=y at *;have HG:=xN hgk;clear hgk;have HAy:=xN (T.at_elem (o:=off+k * 4) hb1 (show T.rds w y.fs csy by simpa only[xR.t,T.rd] using hcs) hcell zM);clear hcs hcell;have n1:((k:Int)<(x.zC.length:Int)):=by omega
   have hq1:b1<wr.heap.size:=zW hb1 HB2.out.size;have HRDY:=xN (readyB_of (out:=(xJ x.zC m)) HG.out)
   cases a1:decide ((k:Int) ∈ (xJ x.zC m))
   rotate_left
   ·have HF:=xN (show zZz x.zC (xJ x.zC m) k=false by rw[HRDY.out,a1];rfl)
    go_wp2_with (go_at_call 58;refine(zRz _ (xJ x.zC m) _ _ HO2.out.rd).mono ?_;rintro e w' ⟨rfl,rfl⟩;rw[a1])
    go_roundw
    case rel=>exact⟨k+1,-1,by omega,by go_num,rfl,.inl ⟨rfl,fun j hj=>by
     by_cases e:j=k
     ·subst e;exact HF.out
     ·exact HNO.out j zM⟩,HW.out⟩
    case measure=>simp[intOf];omega
   rw[a1,Bool.not_false,Bool.true_and] at HRDY;go_wp2_with (go_at_call 58;refine(zRz _ (xJ x.zC m) _ _ HO2.out.rd).mono ?_;rintro e w' ⟨rfl,rfl⟩;rw[a1])
   refine(c_l07Waits y _ _ _ (T.at_below HAy.out HB2.out)).mono ?_;rintro e w4 ⟨u,rfl,hu,hb4⟩;have HU:=xN hu;have HB4:=xN (yQ HB2.out HB2.out.size hb4);have HO4:=xN (HO2.out.all hb4);have HW4:=xN (yQ HW.out HW.out.size hb4);clear hu hb4 a1;obtain⟨ua,uc,rfl,_,_,_⟩:=HU.out.open_
   cases a2:(uS y).all fun f=>decide (f ∈ (xJ x.zC m))
   ·have HF:=xN (show zZz x.zC (xJ x.zC m) k=false by rw[HRDY.out,a2])
    go_wp2_with (go_at_call 234;refine(c_l07All _ _ (uS y) (xJ x.zC m) _ HU.out HO4.out.rd).mono ?_;rintro e w' ⟨rfl,rfl⟩;rw[a2])
    go_roundw
    case rel=>exact⟨k+1,-1,by omega,by go_num,rfl,.inl ⟨rfl,fun j hj=>by
     by_cases e:j=k
     ·subst e;exact HF.out
     ·exact HNO.out j zM⟩,HW4.out⟩
    case measure=>simp[intOf];omega
   ·have HF:=xN (show zZz x.zC (xJ x.zC m) k=true by rw[HRDY.out,a2])
    go_wp2_with (go_at_call 234;refine(c_l07All _ _ (uS y) (xJ x.zC m) _ HU.out HO4.out.rd).mono ?_;rintro e w' ⟨rfl,rfl⟩;rw[a2])
    go_roundw
    case rel=>exact⟨k+1,(k:Int),by omega,by go_num,rfl,.inr ⟨k,rfl,hlt,HF.out,HNO.out⟩,HW4.out⟩
    case measure=>simp[intOf];omega
theorem c_l07Ok (x:xO) (b o:Nat) (w:World) (hn:x.zC.length≤1048576) (ht:x.zV.length≤1048576) (h:T.at w x.fs b o):Calls Tryz.prog 126 #[.pointer (some ⟨b,o,none⟩)] w fun e w'=>e= .returned (.bool (tf (vN x)))∧Below w.heap.size w w':=by
 have HAT:=xN h;obtain⟨hlt0,cs,hr,hc⟩:=h;obtain⟨v1,v2,v3,rfl,h1,h2,h3⟩:=xO.yV hr;clear hr;obtain⟨va1,vc1,rfl,vl1,vm1,R1,HX1⟩:=oG h1;clear h1;obtain⟨va2,vc2,rfl,vl2,vm2,R2,HX2⟩:=oG h2;clear h2;obtain⟨va3,vc3,rfl,vl3,vm3,R3,HX3⟩:=oI h3;clear h3;have HL:=xN hlt0;have HCC:=xN hc;have HB0:=xN (Below.refl w.heap.size w);clear hlt0 hc
 go_enter Tryz.func126,Tryz.ntmps126
 go_wp2_with fail
 refine(c_l07Formed x _ _ _ ht HAT.out).mono ?_;rintro e w1 ⟨rfl,hb1⟩;have HB1:=xN hb1;clear hb1;by_cases q1:xUz x
 rotate_left
 ·rw[xH q1];have Q1:=xN q1;clear q1
  go_wp2;go_ret
  exact⟨yP (xH fun h=>Q1.out h.formed).symm,HB1.out⟩
 rw[xI q1];have Q1:=xN q1;clear q1;go_wp2_with fail
 refine(c_l07Order x _ _ _ hn (T.at_below HAT.out HB1.out)).mono ?_;rintro e w2 ⟨v,rfl,_,hb2⟩;have HB2:=xN (yQ HB1.out HB1.out.size hb2);clear hb2;go_wp2;go_ret
 exact⟨yP (by
  by_cases h:(wD x.zC).length=x.zC.length
  ·rw[xI ⟨Q1.out,h⟩];exact decide_eq_true h
  ·rw[xH fun hh=>h hh.order];exact decide_eq_false h),HB2.out⟩
def lenA:Value→Option Addr
 | .slice a _ _=>a
 |_=>none
def capA:Value→Nat
 | .slice _ _ c=>c
 |_=>0
theorem len_form {w:World} {v:Value} {xs:List Int} (h:RdI w v xs):v= .slice (lenA v) xs.length (capA v):=by
 obtain⟨A,c,rfl,_⟩:=h.open_
 rfl
theorem rd_none {α:Type} (w:World) (E:TypeId) (sz:Nat) (tr:α→T):T.rd w (T.sl E sz (([]:List α).map tr)) [.slice none 0 0]:=by
 simp only[T.rd,List.map_nil];exact⟨_,[],rfl,by simp,Rd.nil_ w sz,by simp[T.rds]⟩
theorem c_isPatch (x:xO) (cs:List Value) (w:World) (hn:x.zC.length≤1048576) (h:T.rds w x.fs cs):Calls Tryz.prog 166 #[.agg cs.toArray] w fun e w'=>e= .returned (.bool (tf (vN x)))∧Below w.heap.size w w':=by
 obtain⟨v1,v2,v3,rfl,h1,h2,h3⟩:=xO.yV h;clear h;obtain⟨va1,vc1,rfl,vl1,vm1,R1,HX1⟩:=oG h1;clear h1;obtain⟨va2,vc2,rfl,vl2,vm2,R2,HX2⟩:=oG h2;clear h2;obtain⟨va3,vc3,rfl,vl3,vm3,R3,HX3⟩:=oI h3;clear h3;have HB0:=xN (show Below w.heap.size w (w.alloc (.cells #[.int .i64 x.zS,(.slice va1 x.zV.length vc1),(.slice va2 x.zC.length vc2),(.slice va3 x.zT.length vc3)] 108)) from zR.alloc zJ _);have HK0:=xN (Bk.born w 108 #[.int .i64 x.zS,(.slice va1 x.zV.length vc1),(.slice va2 x.zC.length vc2),(.slice va3 x.zT.length vc3)])
 go_enter Tryz.func166,Tryz.ntmps166
 go_wp2;generalize (w.alloc (.cells #[.int .i64 x.zS,(.slice va1 x.zV.length vc1),(.slice va2 x.zC.length vc2),(.slice va3 x.zT.length vc3)] 108))=W at *;have g0:=xM HK0.out;have HRW:=xN (fun u=>xO.rd_mk (T.yM R1.out (yQ HB0.out HB0.out.size (yO W u))) (T.yM R2.out (yQ HB0.out HB0.out.size (yO W u))) (T.xB.2 (Rd.below R3.out (yQ HB0.out HB0.out.size (yO W u)))));by_cases q1:xUz x
 rotate_left
 ·have a1:=xH q1;have Q1:=xN q1;clear q1
  refine rB ?_
  repeat(first|go_big_quiet_skip|(go_big_quiet_want;go_big_quiet_op;first|go_big_quiet_on|(apply Exists.intro;refine⟨fun _=>?_,?_⟩;(· (go_at_call 222;exact Calls.yS ((uMz x _ _ (HRW.out _)).mono (fun e w' h=>by(first|rw[a1] at h|skip);exact h))));go_big_quiet_on)))
  refine wpQuiet_nil ?_;rintro w9 ⟨uu,rfl⟩;have hb9:=yO W uu;generalize bel W uu=w9 at *;have HB9:=xN (yQ HB0.out HB0.out.size hb9);go_wp2;go_ret
  exact⟨yP (xH fun h=>Q1.out h.formed).symm,HB9.out⟩
 have a1:=xI q1;have Q1:=xN q1;clear q1;have ka:=HK0.out.cell;have lW:=HK0.out.lt;have HWF:=xN (show Each x.zC fun _ y=>Idx y.zK (x.zC.length:Int) from fun i y hy=>(Q1.out.nodes i y hy).2.1)
 go_region_held3 (fun w'=>w'.cell? ⟨w.heap.size,0,none⟩=some (.int .i64 x.zS)∧w'.cell? ⟨w.heap.size,1,none⟩=some (.slice va1 x.zV.length vc1)∧w'.cell? ⟨w.heap.size,2,none⟩=some (.slice va2 x.zC.length vc2)∧w'.cell? ⟨w.heap.size,3,none⟩=some (.slice va3 x.zT.length vc3)) (first|go_keep|(refine⟨(hb4.cell ?_).trans ?_,(hb4.cell ?_).trans ?_,(hb4.cell ?_).trans ?_,(hb4.cell ?_).trans ?_⟩<;>first|assumption|(simp[*];done)|(simp;omega)|omega)|(refine⟨(hb3.cell ?_).trans ?_,(hb3.cell ?_).trans ?_,(hb3.cell ?_).trans ?_,(hb3.cell ?_).trans ?_⟩<;>first|assumption|(simp[*];done)|(simp;omega)|omega)) (first|(go_at_call 222;refine(uMz x _ _ (xO.rd_mk (T.yM R1.out (by first|exact HB0.out|exact HB0.out.drew|exact below_drewN HB0.out _)) (T.yM R2.out (by first|exact HB0.out|exact HB0.out.drew|exact below_drewN HB0.out _)) (T.xB.2 (Rd.below R3.out (by first|exact HB0.out|exact HB0.out.drew|exact below_drewN HB0.out _))))).mono ?_;rintro e w3 ⟨rfl,hb3⟩;rw[a1];have hl3:=zW HK0.out.lt hb3.size;have H3:=xN (yQ HB0.out HB0.out.size (by first|exact hb3|exact undrew hb3|exact wP hb3)))|(go_at_call 223;refine(c_order x _ _ hn HWF.out (xO.rd_mk (T.yM R1.out (by first|exact H3.out|exact H3.out.drew|exact below_drewN H3.out _)) (T.yM R2.out (by first|exact H3.out|exact H3.out.drew|exact below_drewN H3.out _)) (T.xB.2 (Rd.below R3.out (by first|exact H3.out|exact H3.out.drew|exact below_drewN H3.out _))))).mono ?_;rintro e w4 ⟨v4,rfl,hv4,hb4⟩;have H4:=xN (yQ H3.out H3.out.size (by first|exact hb4|exact undrew hb4|exact wP hb4));have HV:=xN (show v4= .slice (lenA v4) (wD x.zC).length (capA v4) from len_form hv4.rd);rw[HV.out]))
 go_wp2;go_ret
 exact⟨yP (by
  by_cases h:(wD x.zC).length=x.zC.length
  ·rw[xI ⟨Q1.out,h⟩];exact xA zM
  ·rw[xH fun hh=>h hh.order];exact yZ zM),H4.out⟩
theorem c_isEmpty (x:xO) (cs:List Value) (w:World) (h:T.rds w x.fs cs):Calls Tryz.prog 165 #[.agg cs.toArray] w fun e w'=>e= .returned (.bool (tf (x=zHz)))∧Below w.heap.size w w':=by
 obtain⟨v1,v2,v3,rfl,h1,h2,h3⟩:=xO.yV h;clear h;obtain⟨va1,vc1,rfl,vl1,vm1,R1,HX1⟩:=oG h1;clear h1;obtain⟨va2,vc2,rfl,vl2,vm2,R2,HX2⟩:=oG h2;clear h2;obtain⟨va3,vc3,rfl,vl3,vm3,R3,HX3⟩:=oI h3;clear h3;have HB0:=xN (show Below w.heap.size w (w.alloc (.cells #[.int .i64 x.zS,(.slice va1 x.zV.length vc1),(.slice va2 x.zC.length vc2),(.slice va3 x.zT.length vc3)] 108)) from zR.alloc zJ _);have HK0:=xN (Bk.born w 108 #[.int .i64 x.zS,(.slice va1 x.zV.length vc1),(.slice va2 x.zC.length vc2),(.slice va3 x.zT.length vc3)])
 go_enter Tryz.func165,Tryz.ntmps165
 go_wp2_with fail
 refine(c_iSamePatch x zHz _ _ _ (.slice none 0 0) (.slice none 0 0) (.slice none 0 0) _ (T.yM R1.out HB0.out) (T.yM R2.out HB0.out) (T.xB.2 (Rd.below R3.out HB0.out)) ?_ ?_ ?_).mono ?_
 ·exact rd_none _ _ _ _
 ·exact rd_none _ _ _ _
 ·exact T.xB.2 (Rd.nil_ _ _)
 rintro e w1 ⟨rfl,hb1⟩;have H1:=xN (yQ HB0.out HB0.out.size hb1);clear hb1;go_wp2;go_ret
 exact⟨yP tf_dec.symm,H1.out⟩
theorem c_isEffect (x:xO) (cs:List Value) (w:World) (hn:x.zC.length≤1048576) (h:T.rds w x.fs cs):Calls Tryz.prog 110 #[.agg cs.toArray] w fun e w'=>e= .returned (.bool (tf (vHz x)))∧Below w.heap.size w w':=by
 obtain⟨v1,v2,v3,rfl,h1,h2,h3⟩:=xO.yV h;clear h;obtain⟨va1,vc1,rfl,vl1,vm1,R1,HX1⟩:=oG h1;clear h1;obtain⟨va2,vc2,rfl,vl2,vm2,R2,HX2⟩:=oG h2;clear h2;obtain⟨va3,vc3,rfl,vl3,vm3,R3,HX3⟩:=oI h3;clear h3;have HB0:=xN (show Below w.heap.size w (w.alloc (.cells #[.int .i64 x.zS,(.slice va1 x.zV.length vc1),(.slice va2 x.zC.length vc2),(.slice va3 x.zT.length vc3)] 108)) from zR.alloc zJ _);have HK0:=xN (Bk.born w 108 #[.int .i64 x.zS,(.slice va1 x.zV.length vc1),(.slice va2 x.zC.length vc2),(.slice va3 x.zT.length vc3)])
 go_enter Tryz.func110,Tryz.ntmps110
 go_wp2_with fail
 refine(c_isEmpty x _ _ (xO.rd_mk (T.yM R1.out HB0.out) (T.yM R2.out HB0.out) (T.xB.2 (Rd.below R3.out HB0.out)))).mono ?_;rintro e w1 ⟨rfl,hd⟩;have hb:Below (w.alloc (.cells #[.int .i64 x.zS,(.slice va1 x.zV.length vc1),(.slice va2 x.zC.length vc2),(.slice va3 x.zT.length vc3)] 108)).heap.size (w.alloc (.cells #[.int .i64 x.zS,(.slice va1 x.zV.length vc1),(.slice va2 x.zC.length vc2),(.slice va3 x.zT.length vc3)] 108)) w1:=by first|exact hd|exact hd.to_below _|exact hd ▸ zR
 have HK1:=xN (HK0.out.below hb HK0.out.lt);have HB1:=xN (yQ HB0.out HB0.out.size hb);clear hb hd;have ka:=HK1.out.cell;have la:=HK1.out.lt;by_cases q1:x=zHz
 ·rw[xI q1];have Q1:=xN q1;clear q1
  go_wp2;go_ret
  exact⟨yP (xI (.inl Q1.out)).symm,HB1.out⟩
 rw[xH q1];have Q1:=xN q1;clear q1;go_wp2_with fail
 refine(c_isPatch x _ _ hn (xO.rd_mk (T.yM R1.out HB1.out) (T.yM R2.out HB1.out) (T.xB.2 (Rd.below R3.out HB1.out)))).mono ?_;rintro e w2 ⟨rfl,hd⟩;have hb:Below w1.heap.size w1 w2:=by first|exact hd|exact hd.to_below _|exact hd ▸ zR
 have HK2:=xN (HK1.out.below hb HK1.out.lt);have HB2:=xN (yQ HB1.out HB1.out.size hb);clear hb hd ka la;have ka:=HK2.out.cell;have la:=HK2.out.lt;by_cases q2:vN x
 rotate_left
 ·rw[xH q2];have Q2:=xN q2;clear q2
  go_wp2;go_ret
  exact⟨yP (xH fun h=>h.elim Q1.out fun h=>Q2.out h.1).symm,HB2.out⟩
 rw[xI q2];have Q2:=xN q2;clear q2;by_cases q3:x.zS=1
 rotate_left
 ·have b3:(x.zS == 1)=false:=yZ q3;have Q3:=xN q3;clear q3
  go_wp2;go_ret
  exact⟨yP (xH fun h=>h.elim Q1.out fun h=>Q3.out h.2.1).symm,HB2.out⟩
 have b3:(x.zS == 1)=true:=xA q3;have Q3:=xN q3;clear q3;by_cases q4:x.zT.length=1
 rotate_left
 ·have b4:((x.zT.length:Int) == 1)=false:=yZ zM;have Q4:=xN q4;clear q4
  go_wp2;go_ret
  exact⟨yP (xH fun h=>h.elim Q1.out fun h=>Q4.out h.2.2).symm,HB2.out⟩
 have b4:((x.zT.length:Int) == 1)=true:=xA zM;have Q4:=xN q4;clear q4;go_wp2;go_ret
 exact⟨yP (xI (.inr ⟨Q2.out,Q3.out,Q4.out⟩)).symm,HB2.out⟩
end
section
open Go.RowKit
theorem yXz (x:xS) (cs:List Value) (w:World) (hs:x.small) (h:T.rds w x.fs cs):Calls Tryz.prog 44 #[.agg cs.toArray] w fun e w'=>e= .returned (.bool (tf (vO x)))∧Below w.heap.size w w':=by
 obtain⟨v1,v2,v3,v4,v5,rfl,h1,h2,h3,h4,h5⟩:=xS.yV h;clear h;obtain⟨va1,vc1,rfl,vl1,vm1,R1,HX1⟩:=oG h1;clear h1;obtain⟨va2,vc2,rfl,vl2,vm2,R2,HX2⟩:=oG h2;clear h2;obtain⟨va3,vc3,rfl,vl3,vm3,R3,HX3⟩:=oI h3;clear h3;obtain⟨va4,vc4,rfl,vl4,vm4,R4,HX4⟩:=oG h4;clear h4;obtain⟨va5,vc5,rfl,vl5,vm5,R5,HX5⟩:=oG h5;clear h5;have HB0:=xN (show Below w.heap.size w (w.alloc (.cells #[.int .i64 x.zF,(.slice va1 x.zI.length vc1),(.slice va2 x.zL.length vc2),(.slice va3 x.zX.length vc3),(.slice va4 x.zO.length vc4),(.slice va5 x.zH.zD.length vc5)] 32)) from zR.alloc zJ _);have HK0:=xN (Bk.born w 32 #[.int .i64 x.zF,(.slice va1 x.zI.length vc1),(.slice va2 x.zL.length vc2),(.slice va3 x.zX.length vc3),(.slice va4 x.zO.length vc4),(.slice va5 x.zH.zD.length vc5)]);have hn5:x.zH.zD.length≤1048576:=hs.2.2.2.2.1;have HEF:=xN hs.2.2.2.1.2;clear hs
 go_enter Tryz.func44,Tryz.ntmps44
 by_cases q1:inB x.zF 0 1000=true
 rotate_left
 ·have q1':inB x.zF 0 1000=false:=(by simpa using q1)
  go_wp2_with (first|(go_at_call 89;refine(wF _ _ _ _).mono ?_;rintro e w' ⟨rfl,rfl⟩)|(go_at_call 102;refine(uT _ _ _ _ zM).mono ?_;rintro e w' ⟨rfl,rfl⟩)|(go_at_call 106;refine(zMz _ _ _ _ zM).mono ?_;rintro e w' ⟨rfl,rfl⟩)|(go_at_call 103;refine(zEz _ x.zI _ (T.yM R1.out HB0.out)).mono ?_;rintro e w' ⟨rfl,rfl⟩;rw[a2])|(go_at_call 105;refine(wY _ x.zX _ _ (Rd.below R3.out HB0.out) zM zM).mono ?_;rintro e w' ⟨rfl,rfl⟩;rw[a6]))
  go_ret
  exact⟨yP (xH fun h=>q1 h.length).symm,HB0.out⟩
 skip
 by_cases q2:zTz x.zI
 rotate_left
 ·have a2:=xH q2;have Q2:=xN q2;clear q2
  go_wp2_with (first|(go_at_call 89;refine(wF _ _ _ _).mono ?_;rintro e w' ⟨rfl,rfl⟩)|(go_at_call 102;refine(uT _ _ _ _ zM).mono ?_;rintro e w' ⟨rfl,rfl⟩)|(go_at_call 106;refine(zMz _ _ _ _ zM).mono ?_;rintro e w' ⟨rfl,rfl⟩)|(go_at_call 103;refine(zEz _ x.zI _ (T.yM R1.out HB0.out)).mono ?_;rintro e w' ⟨rfl,rfl⟩;rw[a2])|(go_at_call 105;refine(wY _ x.zX _ _ (Rd.below R3.out HB0.out) zM zM).mono ?_;rintro e w' ⟨rfl,rfl⟩;rw[a6]))
  go_ret
  exact⟨yP (xH fun h=>Q2.out h.sources).symm,HB0.out⟩
 have a2:=xI q2;have Q2:=xN q2;clear q2;by_cases q3:x.zL.length≤6
 rotate_left
 ·skip
  go_wp2_with (first|(go_at_call 89;refine(wF _ _ _ _).mono ?_;rintro e w' ⟨rfl,rfl⟩)|(go_at_call 102;refine(uT _ _ _ _ zM).mono ?_;rintro e w' ⟨rfl,rfl⟩)|(go_at_call 106;refine(zMz _ _ _ _ zM).mono ?_;rintro e w' ⟨rfl,rfl⟩)|(go_at_call 103;refine(zEz _ x.zI _ (T.yM R1.out HB0.out)).mono ?_;rintro e w' ⟨rfl,rfl⟩;rw[a2])|(go_at_call 105;refine(wY _ x.zX _ _ (Rd.below R3.out HB0.out) zM zM).mono ?_;rintro e w' ⟨rfl,rfl⟩;rw[a6]))
  go_ret
  exact⟨yP (xH fun h=>q3 h.few).symm,HB0.out⟩
 have Q3:=xN q3;go_wp2_with (first|(go_at_call 89;refine(wF _ _ _ _).mono ?_;rintro e w' ⟨rfl,rfl⟩)|(go_at_call 102;refine(uT _ _ _ _ zM).mono ?_;rintro e w' ⟨rfl,rfl⟩)|(go_at_call 106;refine(zMz _ _ _ _ zM).mono ?_;rintro e w' ⟨rfl,rfl⟩)|(go_at_call 103;refine(zEz _ x.zI _ (T.yM R1.out HB0.out)).mono ?_;rintro e w' ⟨rfl,rfl⟩;rw[a2])|(go_at_call 105;refine(wY _ x.zX _ _ (Rd.below R3.out HB0.out) zM zM).mono ?_;rintro e w' ⟨rfl,rfl⟩;rw[a6]))
 refine(c_isMixer x.zH _ _ hn5 (wG.rd_mk (T.yM R5.out HB0.out))).mono ?_;rintro e w1 ⟨rfl,hd⟩;have hb:Below (w.alloc (.cells #[.int .i64 x.zF,(.slice va1 x.zI.length vc1),(.slice va2 x.zL.length vc2),(.slice va3 x.zX.length vc3),(.slice va4 x.zO.length vc4),(.slice va5 x.zH.zD.length vc5)] 32)).heap.size (w.alloc (.cells #[.int .i64 x.zF,(.slice va1 x.zI.length vc1),(.slice va2 x.zL.length vc2),(.slice va3 x.zX.length vc3),(.slice va4 x.zO.length vc4),(.slice va5 x.zH.zD.length vc5)] 32)) w1:=by first|exact hd|exact hd.to_below _|exact hd ▸ zR
 have HK1:=xN (HK0.out.below hb HK0.out.lt);have HB1:=xN (yQ HB0.out HB0.out.size hb);clear hb hd;have ka:=HK1.out.cell;have la:=HK1.out.lt;by_cases q4:uP x.zH
 rotate_left
 ·rw[xH q4];have Q4:=xN q4;clear q4
  go_wp2;go_ret
  exact⟨yP (xH fun h=>Q4.out h.mixer).symm,HB1.out⟩
 rw[xI q4];have Q4:=xN q4;clear q4 a2;by_cases q5:x.zX.length=x.zL.length
 rotate_left
 ·have b5:((x.zX.length:Int) != (x.zL.length:Int))=true:=yQz zM;have Q5:=xN q5;clear q5
  go_wp2_with (first|(go_at_call 89;refine(wF _ _ _ _).mono ?_;rintro e w' ⟨rfl,rfl⟩)|(go_at_call 102;refine(uT _ _ _ _ zM).mono ?_;rintro e w' ⟨rfl,rfl⟩)|(go_at_call 106;refine(zMz _ _ _ _ zM).mono ?_;rintro e w' ⟨rfl,rfl⟩)|(go_at_call 103;refine(zEz _ x.zI _ (T.yM R1.out HB1.out)).mono ?_;rintro e w' ⟨rfl,rfl⟩;rw[a2])|(go_at_call 105;refine(wY _ x.zX _ _ (Rd.below R3.out HB1.out) zM zM).mono ?_;rintro e w' ⟨rfl,rfl⟩;rw[a6]))
  go_ret
  exact⟨yP (xH fun h=>Q5.out h.feed).symm,HB1.out⟩
 have b5:((x.zX.length:Int) != (x.zL.length:Int))=false:=yRz zM;have Q5:=xN q5;clear q5;by_cases q6:Idx x.zX (x.zH.zD.length:Int)
 rotate_left
 ·have a6:=xH q6;have Q6:=xN q6;clear q6
  go_wp2_with (first|(go_at_call 89;refine(wF _ _ _ _).mono ?_;rintro e w' ⟨rfl,rfl⟩)|(go_at_call 102;refine(uT _ _ _ _ zM).mono ?_;rintro e w' ⟨rfl,rfl⟩)|(go_at_call 106;refine(zMz _ _ _ _ zM).mono ?_;rintro e w' ⟨rfl,rfl⟩)|(go_at_call 103;refine(zEz _ x.zI _ (T.yM R1.out HB1.out)).mono ?_;rintro e w' ⟨rfl,rfl⟩;rw[a2])|(go_at_call 105;refine(wY _ x.zX _ _ (Rd.below R3.out HB1.out) zM zM).mono ?_;rintro e w' ⟨rfl,rfl⟩;rw[a6]))
  go_ret
  exact⟨yP (xH fun h=>Q6.out h.feeds).symm,HB1.out⟩
 have a6:=xI q6;have Q6:=xN q6;clear q6;by_cases q7:x.zO.length=x.zH.zD.length
 rotate_left
 ·have b7:((x.zO.length:Int) != (x.zH.zD.length:Int))=true:=yQz zM;have Q7:=xN q7;clear q7
  go_wp2_with (first|(go_at_call 89;refine(wF _ _ _ _).mono ?_;rintro e w' ⟨rfl,rfl⟩)|(go_at_call 102;refine(uT _ _ _ _ zM).mono ?_;rintro e w' ⟨rfl,rfl⟩)|(go_at_call 106;refine(zMz _ _ _ _ zM).mono ?_;rintro e w' ⟨rfl,rfl⟩)|(go_at_call 103;refine(zEz _ x.zI _ (T.yM R1.out HB1.out)).mono ?_;rintro e w' ⟨rfl,rfl⟩;rw[a2])|(go_at_call 105;refine(wY _ x.zX _ _ (Rd.below R3.out HB1.out) zM zM).mono ?_;rintro e w' ⟨rfl,rfl⟩;rw[a6]))
  go_ret
  exact⟨yP (xH fun h=>Q7.out h.effect).symm,HB1.out⟩
 have b7:((x.zO.length:Int) != (x.zH.zD.length:Int))=false:=yRz zM;have Q7:=xN q7;clear q7;go_wp2_with (first|(go_at_call 89;refine(wF _ _ _ _).mono ?_;rintro e w' ⟨rfl,rfl⟩)|(go_at_call 102;refine(uT _ _ _ _ zM).mono ?_;rintro e w' ⟨rfl,rfl⟩)|(go_at_call 106;refine(zMz _ _ _ _ zM).mono ?_;rintro e w' ⟨rfl,rfl⟩)|(go_at_call 103;refine(zEz _ x.zI _ (T.yM R1.out HB1.out)).mono ?_;rintro e w' ⟨rfl,rfl⟩;rw[a2])|(go_at_call 105;refine(wY _ x.zX _ _ (Rd.below R3.out HB1.out) zM zM).mono ?_;rintro e w' ⟨rfl,rfl⟩;rw[a6]))
 clear a6 ka la
 go_loopw [60] (fun i wr=> ∃ k:Nat,k≤x.zL.length∧i= .int .i64 k∧vP x.zL (fun _ t=>zWz t∧ ∀ c ∈ t.zZ,c.yD<(x.zI.length:Int)) k∧Below w1.heap.size w1 wr) (fun i _=>x.zL.length - (intOf i).toNat)
 case atStart=>exact⟨0,Nat.zero_le _,rfl,vP.zero,zR⟩
 case round=>
  obtain⟨k,hk,rfl,hs,hbw⟩:=hrel;have HS:=xN hs;have HW:=xN hbw;have HB:=xN (yQ HB1.out HB1.out.size hbw);have HK:=xN (HK1.out.below hbw HK1.out.lt);clear hs hbw;have ka:=HK.out.cell;have la:=HK.out.lt;by_cases hlt:k<x.zL.length
  rotate_left
  ·have hall:=xN (HS.out.all zM);clear HS
   generalize wr=w2 at *;have HB2:=HB;have HK2:=HK;clear HB HK;go_wp2;clear ka la
   go_loopw [79] (fun i wr=> ∃ k:Nat,k≤x.zO.length∧i= .int .i64 k∧vP x.zO (fun _ p=>vHz p) k∧Below w2.heap.size w2 wr) (fun i _=>x.zO.length - (intOf i).toNat)
   case atStart=>exact⟨0,Nat.zero_le _,rfl,vP.zero,zR⟩
   case round=>
    obtain⟨k,hk,rfl,hs,hbw⟩:=hrel;have HS:=xN hs;have HW:=xN hbw;have HB:=xN (yQ HB2.out HB2.out.size hbw);have HK:=xN (HK2.out.below hbw HK2.out.lt);clear hs hbw;have ka:=HK.out.cell;have la:=HK.out.lt;by_cases hlt:k<x.zO.length
    rotate_left
    ·have hall2:=xN (HS.out.all zM);clear HS
     go_wp2;go_ret
     exact⟨yP (xI ⟨q1,Q2.out,Q3.out,Q4.out,Q5.out,Q6.out,Q7.out,fun i t ht=>⟨(hall.out i t ht).1,Each.of_mem.2 (hall.out i t ht).2⟩,hall2.out⟩).symm,HB.out⟩
    have hgk:=gE hlt;obtain⟨b1,off,cs1,hA,hb1,hcs,hcell⟩:=HX4.out k x.zO[k] hgk;subst hA;generalize x.zO[k]=y at *;have HG:=xN hgk;clear hgk;obtain⟨u1,u2,u3,rfl,hRY1,hRY2,hRY3⟩:=xO.yV (show T.rds _ _ _ by simpa only[xO.t,T.rd] using hcs);have d0:=(HB.out.cell hb1).trans (hcell 0 (.int .i64 y.zS) rfl);have d1:=(HB.out.cell hb1).trans (hcell 1 (u1) rfl);have d2:=(HB.out.cell hb1).trans (hcell 2 (u2) rfl);have d3:=(HB.out.cell hb1).trans (hcell 3 (u3) rfl);rw[show off+(k * 4+0)=off+k * 4 by omega] at d0;rw[show off+(k * 4+1)=off+k * 4+1 by omega] at d1;rw[show off+(k * 4+2)=off+k * 4+2 by omega] at d2;rw[show off+(k * 4+3)=off+k * 4+3 by omega] at d3;have RY1:=xN (T.yM hRY1 HB.out);clear hRY1;have RY2:=xN (T.yM hRY2 HB.out);clear hRY2;have RY3:=xN (T.yM hRY3 HB.out);clear hRY3;clear hcs hcell;obtain⟨ua1,uc1,rfl,ul1,um1,ux1⟩:=T.yU RY1.out;clear ux1;obtain⟨ua2,uc2,rfl,ul2,um2,ux2⟩:=T.yU RY2.out;clear ux2;have RY3i:=xN (T.xB.1 RY3.out);obtain⟨ua3,uc3,rfl,ul3,um3,ux3⟩:=RY3i.out.open_;clear ux3;have hq1:b1<wr.heap.size:=zW hb1 HB.out.size;have hny:=(HEF.out y (List.mem_of_getElem? HG.out)).2.1.1;have HWP:=xN (show Below wr.heap.size wr (wr.alloc (.cells #[.int .i64 y.zS,(.slice ua1 y.zV.length uc1),(.slice ua2 y.zC.length uc2),(.slice ua3 y.zT.length uc3)] 108)) from zR.alloc zJ _);go_wp2_with fail
    refine(c_isEffect y _ _ hny (xO.rd_mk (T.yM RY1.out HWP.out) (T.yM RY2.out HWP.out) (T.yM RY3.out HWP.out))).mono ?_;rintro e w3 ⟨rfl,hb3⟩;have H3:=xN (yQ HWP.out HWP.out.size hb3);have HB3:=xN (yQ HB.out HB.out.size H3.out);have HW3:=xN (yQ HW.out HW.out.size H3.out);clear hb3;by_cases q8:vHz y
    rotate_left
    ·rw[xH q8];have Q8:=xN q8;clear q8
     go_wp2;go_ret
     exact⟨yP (xH fun h=>Q8.out (h.effects k y HG.out)).symm,HB3.out⟩
    rw[xI q8];have Q8:=xN q8;clear q8;go_wp2
    go_roundw
    case rel=>exact⟨k+1,by omega,by go_num,HS.out.step HG.out Q8.out,HW3.out⟩
    case measure=>simp[intOf];omega
  have hgk:=gE hlt;obtain⟨b1,off,cs1,hA,hb1,hcs,hcell⟩:=HX2.out k x.zL[k] hgk;subst hA;generalize x.zL[k]=y at *;have HG:=xN hgk;clear hgk;obtain⟨u0,rfl,hRY0⟩:=xQ.yV (show T.rds _ _ _ by simpa only[xQ.t,T.rd] using hcs);have d0:=(HB.out.cell hb1).trans (hcell 0 (u0) rfl);rw[show off+(k * 1+0)=off+k by omega] at d0;have RY0:=xN (T.yM hRY0 HB.out);clear hRY0;clear hcs hcell;obtain⟨ua0,uc0,rfl,ul0,um0,ux0⟩:=T.yU RY0.out;clear ux0;have hq1:b1<wr.heap.size:=zW hb1 HB.out.size;by_cases q8:zWz y
  rotate_left
  ·have b8:=xH q8;have Q8:=xN q8;clear q8
   have hWb:Below wr.heap.size wr (wr.alloc (.cells #[(.slice ua0 y.zZ.length uc0)] 96)):=zR.alloc zJ _;have hNb:=Bk.born wr 96 #[(.slice ua0 y.zZ.length uc0)];go_wp2;generalize wr.alloc (.cells #[(.slice ua0 y.zZ.length uc0)] 96)=W at *;have HWb:=xN hWb;have HNb:=xN hNb;have HKW:=xN (HK.out.below hWb HK.out.lt);have g0:=xM hNb;have g1:=xM HKW.out;clear hWb hNb;refine rB ?_
   repeat(first|go_big_quiet_skip|(go_big_quiet_want;go_big_quiet_op;first|go_big_quiet_on|(apply Exists.intro;refine⟨fun _=>?_,?_⟩;(· (first|(go_at_call 107;exact Calls.yS ((c_isTrack y _ _ (xQ.rd_mk (T.yM RY0.out (yQ HWb.out HWb.out.size (yO W _))))).mono (fun e w' h=>by(first|rw[b8] at h|skip);exact h)))|(go_at_call 109;exact Calls.yR (xXz _ _ _ _ zM))|(go_at_call 108;exact Calls.yS ((vSz y _ (x.zI.length:Int) _ (xQ.rd_mk (T.yM RY0.out (yQ HWb.out HWb.out.size (yO W _))))).mono (fun e w' h=>by(first|rw[b9] at h|skip);exact h)))));go_big_quiet_on)))
   refine wpQuiet_nil ?_;rintro w9 ⟨uu,rfl⟩;have hb9:=yO W uu;generalize bel W uu=w9 at *;have HC:=xN (yQ HWb.out HWb.out.size hb9);have HC2:=xN (yQ HB.out HB.out.size HC.out);have HC3:=xN (yQ HW.out HW.out.size HC.out);clear hb9 g0 g1;go_wp2;go_ret
   exact⟨yP (xH fun h=>Q8.out (h.tracks k y HG.out).1).symm,HC2.out⟩
  have b8:=xI q8;have Q8:=xN q8;clear q8;by_cases q9: ∀ c ∈ y.zZ,c.yD<(x.zI.length:Int)
  rotate_left
  ·have b9:=xH q9;have Q9:=xN q9;clear q9
   have hWb:Below wr.heap.size wr (wr.alloc (.cells #[(.slice ua0 y.zZ.length uc0)] 96)):=zR.alloc zJ _;have hNb:=Bk.born wr 96 #[(.slice ua0 y.zZ.length uc0)];go_wp2;generalize wr.alloc (.cells #[(.slice ua0 y.zZ.length uc0)] 96)=W at *;have HWb:=xN hWb;have HNb:=xN hNb;have HKW:=xN (HK.out.below hWb HK.out.lt);have g0:=xM hNb;have g1:=xM HKW.out;clear hWb hNb;refine rB ?_
   repeat(first|go_big_quiet_skip|(go_big_quiet_want;go_big_quiet_op;first|go_big_quiet_on|(apply Exists.intro;refine⟨fun _=>?_,?_⟩;(· (first|(go_at_call 107;exact Calls.yS ((c_isTrack y _ _ (xQ.rd_mk (T.yM RY0.out (yQ HWb.out HWb.out.size (yO W _))))).mono (fun e w' h=>by(first|rw[b8] at h|skip);exact h)))|(go_at_call 109;exact Calls.yR (xXz _ _ _ _ zM))|(go_at_call 108;exact Calls.yS ((vSz y _ (x.zI.length:Int) _ (xQ.rd_mk (T.yM RY0.out (yQ HWb.out HWb.out.size (yO W _))))).mono (fun e w' h=>by(first|rw[b9] at h|skip);exact h)))));go_big_quiet_on)))
   refine wpQuiet_nil ?_;rintro w9 ⟨uu,rfl⟩;have hb9:=yO W uu;generalize bel W uu=w9 at *;have HC:=xN (yQ HWb.out HWb.out.size hb9);have HC2:=xN (yQ HB.out HB.out.size HC.out);have HC3:=xN (yQ HW.out HW.out.size HC.out);clear hb9 g0 g1;go_wp2;go_ret
   exact⟨yP (xH fun h=>Q9.out (Each.of_mem.1 (h.tracks k y HG.out).2)).symm,HC2.out⟩
  have b9:=xI q9;have Q9:=xN q9;clear q9;have hWb:Below wr.heap.size wr (wr.alloc (.cells #[(.slice ua0 y.zZ.length uc0)] 96)):=zR.alloc zJ _;have hNb:=Bk.born wr 96 #[(.slice ua0 y.zZ.length uc0)];go_wp2;generalize wr.alloc (.cells #[(.slice ua0 y.zZ.length uc0)] 96)=W at *;have HWb:=xN hWb;have HNb:=xN hNb;have HKW:=xN (HK.out.below hWb HK.out.lt);have g0:=xM hNb;have g1:=xM HKW.out;clear hWb hNb;refine rB ?_
  repeat(first|go_big_quiet_skip|(go_big_quiet_want;go_big_quiet_op;first|go_big_quiet_on|(apply Exists.intro;refine⟨fun _=>?_,?_⟩;(· (first|(go_at_call 107;exact Calls.yS ((c_isTrack y _ _ (xQ.rd_mk (T.yM RY0.out (yQ HWb.out HWb.out.size (yO W _))))).mono (fun e w' h=>by(first|rw[b8] at h|skip);exact h)))|(go_at_call 109;exact Calls.yR (xXz _ _ _ _ zM))|(go_at_call 108;exact Calls.yS ((vSz y _ (x.zI.length:Int) _ (xQ.rd_mk (T.yM RY0.out (yQ HWb.out HWb.out.size (yO W _))))).mono (fun e w' h=>by(first|rw[b9] at h|skip);exact h)))));go_big_quiet_on)))
  refine wpQuiet_nil ?_;rintro w9 ⟨uu,rfl⟩;have hb9:=yO W uu;generalize bel W uu=w9 at *;have HC:=xN (yQ HWb.out HWb.out.size hb9);have HC2:=xN (yQ HB.out HB.out.size HC.out);have HC3:=xN (yQ HW.out HW.out.size HC.out);clear hb9 g0 g1;go_wp2
  go_roundw
  case rel=>exact⟨k+1,by omega,by go_num,HS.out.step HG.out ⟨Q8.out,Q9.out⟩,HC3.out⟩
  case measure=>simp[intOf];omega
end
end Go.Proofs.YtoibekfhepnedaaGreat
