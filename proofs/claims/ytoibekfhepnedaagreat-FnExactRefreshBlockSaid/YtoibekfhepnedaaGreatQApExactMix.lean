/- Contract: what a node without state gives out, by the program. Growing a slice of data of the call's own, one element at a time. No program is named here. One element of a slice of the call's own turned. No program is named here. copy between slices whose elements take several cells. No program is named here. A slice of the call's own that grows beside other data of its own. No program is named here. Regions that draw their order and end in some operations, each behind all others, that store over cells which the region has loaded. No program is named here. -/
import Derived.Test.YtoibekfhepnedaaGreatQAoExactMix
import Derived.Test.YtoibekfhepnedaaGreatQAcExactMix
import Derived.Test.YtoibekfhepnedaaGreatQAeExactMix
import Derived.Deep.RegionHeldLaw
import Derived.Laws.CopyOwn
import Derived.Lib.Overlaps
import Derived.Lib.AppendZeros
import Derived.Deep.Quiet
import Derived.StillTail
set_option linter.unusedVariables false
set_option linter.unusedSimpArgs false
set_option maxHeartbeats 8000000
set_option maxRecDepth 100000
namespace Go.Proofs.YtoibekfhepnedaaGreat
section
open Go.RowKit
theorem yMz (x:xR) (cs:List Value) (tables:List (List Int)) (ins st:List Int) (tv iv:Value) (w:World) (hP:uRz x tables ins st) (hn:x.zG ∈ ([1,2,3,4,5,9,10,11,13,15]:List Int)) (hT:T.rd w (T.sl 26 1 (tables.map (T.ints 2))) [tv]) (hI:RdI w iv ins) (h:T.rds w x.fs cs):Calls Tryz.prog 294 #[.agg cs.toArray,tv,iv] w fun e w'=>e= .returned (.int .i64 (wK x tables ins st))∧Below w.heap.size w w':=by
 obtain⟨v3,rfl,h3⟩:=xR.yV h;clear h;obtain⟨va3,vc3,rfl,vl3,vm3,R3,HX3⟩:=oI h3;clear h3;have HB0:=xN (show Below w.heap.size w (w.alloc (.cells #[.int .i64 x.zG,.int .i64 x.fA,.int .i64 x.fB,(.slice va3 x.zK.length vc3)] 167)) from zR.alloc zJ _);have HK0:=xN (Bk.born w 167 #[.int .i64 x.zG,.int .i64 x.fA,.int .i64 x.fB,(.slice va3 x.zK.length vc3)]);have HP:=xN hP;have HT:=xN hT;have HI:=xN hI;have h17:x.zG=1∨x.zG=2∨x.zG=3∨x.zG=4∨x.zG=5∨x.zG=9∨x.zG=10∨x.zG=11∨x.zG=13∨x.zG=15:=by simp only[List.mem_cons,List.not_mem_nil,or_false] at hn;exact hn
 have HA0:=xN hP.ok.a;have HB0_:=xN hP.ok.b;have HTB:=xN hP.ok.table;clear hP hT hI hn
 rcases h17 with e|e|e|e|e|e|e|e|e|e
 ·
  have hnum:=HP.out.num;have hia:=HP.out.ins_;rw[e] at hnum;replace hnum:ins.length=1:=by rw[hnum];rfl
  obtain⟨i0,rfl⟩:=xEz hnum;obtain⟨bi,oi,ci,rfl,li,mi,lbi,hci⟩:=xY HI.out (by simp);have c0:=hci 0 i0 rfl;rw[Nat.add_zero] at c0;clear hci;have hs0:Smp i0:=hia i0 (by simp);simp only[List.length_cons,List.length_nil] at li;clear hnum hia;have HE:=xN (show wK x tables [i0] st=i0 by unfold wK;simp only[e];rfl);rw[e] at HB0 HK0 ⊢;generalize hO:wK x tables [i0] st=OO at *;clear e hO;have k0:=(HB0.out.cell lbi).trans c0;have lbi2:bi<(w.alloc (.cells #[.int .i64 1,.int .i64 x.fA,.int .i64 x.fB,(.slice va3 x.zK.length vc3)] 167)).heap.size:=zW lbi HB0.out.size;clear c0
  go_enter Tryz.func294,Tryz.ntmps294
  go_wp2;go_ret
  exact⟨wL (by rw[HE.out]),HB0.out⟩
 ·
  have hnum:=HP.out.num;have hia:=HP.out.ins_;rw[e] at hnum;replace hnum:ins.length=0:=by rw[hnum];rfl
  obtain rfl:ins= []:=List.eq_nil_of_length_eq_zero hnum;obtain⟨IA,ci,rfl,li,mi,_⟩:=HI.out.open_;clear hnum hia;have HE:=xN (show wK x tables [] st=x.fA by unfold wK;simp only[e];rfl);rw[e] at HB0 HK0 ⊢;generalize hO:wK x tables [] st=OO at *;clear e hO
  go_enter Tryz.func294,Tryz.ntmps294
  go_wp2;go_ret
  exact⟨wL (by rw[HE.out]),HB0.out⟩
 ·
  have hnum:=HP.out.num;have hia:=HP.out.ins_;rw[e] at hnum;replace hnum:ins.length=2:=by rw[hnum];rfl
  obtain⟨i0,i1,rfl⟩:=lnI2 hnum;obtain⟨bi,oi,ci,rfl,li,mi,lbi,hci⟩:=xY HI.out (by simp);have c0:=hci 0 i0 rfl;have c1:=hci 1 i1 rfl;rw[Nat.add_zero] at c0;clear hci;have hs0:Smp i0:=hia i0 (by simp);have hs1:Smp i1:=hia i1 (by simp);simp only[List.length_cons,List.length_nil] at li;clear hnum hia;have HE:=xN (show wK x tables [i0,i1] st=wrp (i0+i1) by unfold wK;simp only[e];rfl);rw[e] at HB0 HK0 ⊢;generalize hO:wK x tables [i0,i1] st=OO at *;clear e hO;have hw:IntKind.i64.wrap (i0+i1)=i0+i1:=IntWalk.i64_in _ (by unfold Smp at *;omega)
  go_enter Tryz.func294,Tryz.ntmps294
  go_wp2;generalize (w.alloc (.cells #[.int .i64 3,.int .i64 x.fA,.int .i64 x.fB,(.slice va3 x.zK.length vc3)] 167))=W at *;have g0:=xM HK0.out;have g1:=yN ((HB0.out.cell lbi).trans c0);have g2:=yN ((HB0.out.cell lbi).trans c1);refine rB ?_
  repeat(first|go_big_quiet_skip|(go_big_quiet_want;go_big_quiet_op;first|go_big_quiet_on|(apply Exists.intro;refine⟨fun _=>?_,?_⟩;(· (first|(go_at_call 242;exact Calls.yR (yTz _ _))));go_big_quiet_on)))
  refine wpQuiet_nil ?_;rintro w9 ⟨uu,rfl⟩;have hb9:=yO W uu;generalize bel W uu=w9 at *;have HB9:=xN (yQ HB0.out HB0.out.size hb9);clear g0 g1 g2;go_wp2;go_ret
  exact⟨wL (by rw[HE.out]),HB9.out⟩
 ·
  have hnum:=HP.out.num;have hia:=HP.out.ins_;rw[e] at hnum;replace hnum:ins.length=2:=by rw[hnum];rfl
  obtain⟨i0,i1,rfl⟩:=lnI2 hnum;obtain⟨bi,oi,ci,rfl,li,mi,lbi,hci⟩:=xY HI.out (by simp);have c0:=hci 0 i0 rfl;have c1:=hci 1 i1 rfl;rw[Nat.add_zero] at c0;clear hci;have hs0:Smp i0:=hia i0 (by simp);have hs1:Smp i1:=hia i1 (by simp);simp only[List.length_cons,List.length_nil] at li;clear hnum hia;have HE:=xN (show wK x tables [i0,i1] st=wrp (i0 - i1) by unfold wK;simp only[e];rfl);rw[e] at HB0 HK0 ⊢;generalize hO:wK x tables [i0,i1] st=OO at *;clear e hO;have hw:IntKind.i64.wrap (i0 - i1)=i0 - i1:=IntWalk.i64_in _ (by unfold Smp at *;omega)
  go_enter Tryz.func294,Tryz.ntmps294
  go_wp2;generalize (w.alloc (.cells #[.int .i64 4,.int .i64 x.fA,.int .i64 x.fB,(.slice va3 x.zK.length vc3)] 167))=W at *;have g0:=xM HK0.out;have g1:=yN ((HB0.out.cell lbi).trans c0);have g2:=yN ((HB0.out.cell lbi).trans c1);refine rB ?_
  repeat(first|go_big_quiet_skip|(go_big_quiet_want;go_big_quiet_op;first|go_big_quiet_on|(apply Exists.intro;refine⟨fun _=>?_,?_⟩;(· (first|(go_at_call 242;exact Calls.yR (yTz _ _))));go_big_quiet_on)))
  refine wpQuiet_nil ?_;rintro w9 ⟨uu,rfl⟩;have hb9:=yO W uu;generalize bel W uu=w9 at *;have HB9:=xN (yQ HB0.out HB0.out.size hb9);clear g0 g1 g2;go_wp2;go_ret
  exact⟨wL (by rw[HE.out]),HB9.out⟩
 ·
  have hA:Smp x.fA:=by have h:=HA0.out;rw[e] at h;exact xK.1 h
  have hnum:=HP.out.num;have hia:=HP.out.ins_;rw[e] at hnum;replace hnum:ins.length=1:=by rw[hnum];rfl
  obtain⟨i0,rfl⟩:=xEz hnum;obtain⟨bi,oi,ci,rfl,li,mi,lbi,hci⟩:=xY HI.out (by simp);have c0:=hci 0 i0 rfl;rw[Nat.add_zero] at c0;clear hci;have hs0:Smp i0:=hia i0 (by simp);simp only[List.length_cons,List.length_nil] at li;clear hnum hia;have HE:=xN (show wK x tables [i0] st=wrp (x.fA * i0) by unfold wK;simp only[e];rfl);rw[e] at HB0 HK0 ⊢;generalize hO:wK x tables [i0] st=OO at *;clear e hO;have hw:IntKind.i64.wrap (x.fA * i0)=x.fA * i0:=IntWalk.i64_in _ (by have:=zKy hA hs0;omega)
  go_enter Tryz.func294,Tryz.ntmps294
  go_wp2;generalize (w.alloc (.cells #[.int .i64 5,.int .i64 x.fA,.int .i64 x.fB,(.slice va3 x.zK.length vc3)] 167))=W at *;have g0:=xM HK0.out;have g1:=yN ((HB0.out.cell lbi).trans c0);refine rB ?_
  repeat(first|go_big_quiet_skip|(go_big_quiet_want;go_big_quiet_op;first|go_big_quiet_on|(apply Exists.intro;refine⟨fun _=>?_,?_⟩;(· (first|(go_at_call 242;exact Calls.yR (yTz _ _))));go_big_quiet_on)))
  refine wpQuiet_nil ?_;rintro w9 ⟨uu,rfl⟩;have hb9:=yO W uu;generalize bel W uu=w9 at *;have HB9:=xN (yQ HB0.out HB0.out.size hb9);clear g0 g1;go_wp2;go_ret
  exact⟨wL (by rw[HE.out]),HB9.out⟩
 ·
  have hnum:=HP.out.num;have hia:=HP.out.ins_;rw[e] at hnum;replace hnum:ins.length=2:=by rw[hnum];rfl
  obtain⟨i0,i1,rfl⟩:=lnI2 hnum;obtain⟨bi,oi,ci,rfl,li,mi,lbi,hci⟩:=xY HI.out (by simp);have c0:=hci 0 i0 rfl;have c1:=hci 1 i1 rfl;rw[Nat.add_zero] at c0;clear hci;have hs0:Smp i0:=hia i0 (by simp);have hs1:Smp i1:=hia i1 (by simp);simp only[List.length_cons,List.length_nil] at li;clear hnum hia;have HE:=xN (show wK x tables [i0,i1] st=wrp (i0 * i1) by unfold wK;simp only[e];rfl);rw[e] at HB0 HK0 ⊢;generalize hO:wK x tables [i0,i1] st=OO at *;clear e hO;have hw:IntKind.i64.wrap (i0 * i1)=i0 * i1:=IntWalk.i64_in _ (by have:=zKy hs0 hs1;omega)
  go_enter Tryz.func294,Tryz.ntmps294
  go_wp2;generalize (w.alloc (.cells #[.int .i64 9,.int .i64 x.fA,.int .i64 x.fB,(.slice va3 x.zK.length vc3)] 167))=W at *;have g0:=xM HK0.out;have g1:=yN ((HB0.out.cell lbi).trans c0);have g2:=yN ((HB0.out.cell lbi).trans c1);refine rB ?_
  repeat(first|go_big_quiet_skip|(go_big_quiet_want;go_big_quiet_op;first|go_big_quiet_on|(apply Exists.intro;refine⟨fun _=>?_,?_⟩;(· (first|(go_at_call 242;exact Calls.yR (yTz _ _))));go_big_quiet_on)))
  refine wpQuiet_nil ?_;rintro w9 ⟨uu,rfl⟩;have hb9:=yO W uu;generalize bel W uu=w9 at *;have HB9:=xN (yQ HB0.out HB0.out.size hb9);clear g0 g1 g2;go_wp2;go_ret
  exact⟨wL (by rw[HE.out]),HB9.out⟩
 ·
  have hA:0≤x.fA∧x.fA≤31:=by have h:=HA0.out;rw[e] at h;exact xK.1 h
  have hnum:=HP.out.num;have hia:=HP.out.ins_;rw[e] at hnum;replace hnum:ins.length=1:=by rw[hnum];rfl
  obtain⟨i0,rfl⟩:=xEz hnum;obtain⟨bi,oi,ci,rfl,li,mi,lbi,hci⟩:=xY HI.out (by simp);have c0:=hci 0 i0 rfl;rw[Nat.add_zero] at c0;clear hci;have hs0:Smp i0:=hia i0 (by simp);simp only[List.length_cons,List.length_nil] at li;clear hnum hia;have HE:=xN (show wK x tables [i0] st=i0 / ((2 ^ x.fA.toNat:Nat):Int) by unfold wK;simp only[e];rfl);rw[e] at HB0 HK0 ⊢;generalize hO:wK x tables [i0] st=OO at *;clear e hO
  go_enter Tryz.func294,Tryz.ntmps294
  go_wp2;generalize (w.alloc (.cells #[.int .i64 10,.int .i64 x.fA,.int .i64 x.fB,(.slice va3 x.zK.length vc3)] 167))=W at *;have g0:=xM HK0.out;have g1:=yN ((HB0.out.cell lbi).trans c0);refine rB ?_
  repeat(first|go_big_quiet_skip|(go_big_quiet_want;go_big_quiet_op;first|go_big_quiet_on|(apply Exists.intro;refine⟨fun _=>?_,?_⟩;(· (fail));go_big_quiet_on)))
  refine wpQuiet_nil ?_;rintro w9 ⟨uu,rfl⟩;have hb9:=yO W uu;generalize bel W uu=w9 at *;have HB9:=xN (yQ HB0.out HB0.out.size hb9);clear g0 g1;go_wp2;go_ret
  exact⟨wL (by rw[HE.out];simp),HB9.out⟩
 ·
  have hA:0≤x.fA∧x.fA≤2147483647:=by have h:=HA0.out;rw[e] at h;exact xK.1 h
  have hnum:=HP.out.num;have hia:=HP.out.ins_;rw[e] at hnum;replace hnum:ins.length=1:=by rw[hnum];rfl
  obtain⟨i0,rfl⟩:=xEz hnum;obtain⟨bi,oi,ci,rfl,li,mi,lbi,hci⟩:=xY HI.out (by simp);have c0:=hci 0 i0 rfl;rw[Nat.add_zero] at c0;clear hci;have hs0:Smp i0:=hia i0 (by simp);simp only[List.length_cons,List.length_nil] at li;clear hnum hia;have HE:=xN (show wK x tables [i0] st=max (-x.fA) (min x.fA i0) by unfold wK;simp only[e];rfl);rw[e] at HB0 HK0 ⊢;generalize hO:wK x tables [i0] st=OO at *;clear e hO;have hwA:IntKind.i64.wrap (-x.fA)= -x.fA:=IntWalk.i64_in _ zM
  go_enter Tryz.func294,Tryz.ntmps294
  go_wp2;generalize (w.alloc (.cells #[.int .i64 11,.int .i64 x.fA,.int .i64 x.fB,(.slice va3 x.zK.length vc3)] 167))=W at *;have g0:=xM HK0.out;have g1:=yN ((HB0.out.cell lbi).trans c0);refine rB ?_
  repeat(first|go_big_quiet_skip|(go_big_quiet_want;go_big_quiet_op;first|go_big_quiet_on|(apply Exists.intro;refine⟨fun _=>?_,?_⟩;(· (fail));go_big_quiet_on)))
  refine wpQuiet_nil ?_;rintro w9 ⟨uu,rfl⟩;have hb9:=yO W uu;generalize bel W uu=w9 at *;have HB9:=xN (yQ HB0.out HB0.out.size hb9);clear g0 g1;go_wp2
  all_goals (go_ret;exact⟨wL (by rw[HE.out];omega),HB9.out⟩)
 ·
  have hA:0≤x.fA∧x.fA≤3:=by have h:=HA0.out;rw[e] at h;exact xK.1 h
  have hAt:x.fA<(tables.length:Int):=HTB.out e;have hnum:=HP.out.num;have hia:=HP.out.ins_;rw[e] at hnum;replace hnum:ins.length=1:=by rw[hnum];rfl
  obtain⟨i0,rfl⟩:=xEz hnum;obtain⟨bi,oi,ci,rfl,li,mi,lbi,hci⟩:=xY HI.out (by simp);have c0:=hci 0 i0 rfl;rw[Nat.add_zero] at c0;clear hci;have hs0:Smp i0:=hia i0 (by simp);simp only[List.length_cons,List.length_nil] at li;clear hnum hia;have hj:x.fA.toNat<tables.length:=by omega
  obtain⟨TA,tc,rfl,tl,tm,hx⟩:=T.yU HT.out;have hgt:=gE hj;obtain⟨bt,ot,ct,rfl,lbt,hct,hcell⟩:=hx x.fA.toNat _ hgt;have htl:=(HP.out.tabs.each x.fA.toNat _ hgt).1;have HTD:=xN (show tables.getD x.fA.toNat []=tables[x.fA.toNat] by rw[List.getD_eq_getElem?_getD,hgt];rfl);generalize tables[x.fA.toNat]=t at *;obtain⟨u3,rfl⟩:=T.rd_one hct;have d0:=hcell 0 u3 rfl;rw[Nat.mul_one,Nat.add_zero] at d0;have RT:=xN (T.xB.1 hct);clear hct hcell hx hgt;obtain⟨A3,c3,rfl,l3,m3,x3⟩:=RT.out.open_;clear x3;have HE:=xN (show wK x tables [i0] st=lookF (tables.getD x.fA.toNat []) i0 by unfold wK;simp only[e];rfl);rw[e] at HB0 HK0 ⊢;generalize hO:wK x tables [i0] st=OO at *;clear e hO;obtain⟨u,j,hu,ha,u0,u1,hw,hjj,hjl,hL⟩:=look_facts t i0 zM zM;have HUN:=xN (fun(W:World)=>(by have:=yBy i0 W;rw[hu] at this;exact this:Calls Tryz.prog 295 #[.int .i64 i0] W fun e w'=>e= .returned (.int .i64 u)∧W=w'));have HL:=xN hL;clear hL hu ha;have hgj:=gE hjl;obtain⟨b4,o4,cp4,hv4,_,_,lb4,hc4⟩:=xY RT.out zM;injection hv4 with e1 _ e3;subst e1 e3;have c4:=hc4 j _ hgj;have HE4:=xN (show t.getD j 0=t[j] by rw[List.getD_eq_getElem?_getD,hgj];rfl);generalize t[j]=y4 at *;clear hc4 hgj;generalize hM:(t.length:Int) * u=M at *;have hd0:=(HB0.out.cell lbt).trans d0;have lbt2:bt<(w.alloc (.cells #[.int .i64 13,.int .i64 x.fA,.int .i64 x.fB,(.slice va3 x.zK.length vc3)] 167)).heap.size:=zW lbt HB0.out.size;clear d0
  go_enter Tryz.func294,Tryz.ntmps294
  go_wp2;generalize (w.alloc (.cells #[.int .i64 13,.int .i64 x.fA,.int .i64 x.fB,(.slice va3 x.zK.length vc3)] 167))=W at *;have g0:=yN ((HB0.out.cell lbi).trans c0);have g1:=yN ((HB0.out.cell lb4).trans c4);refine rB ?_
  repeat(first|go_big_quiet_skip|(go_big_quiet_want;go_big_quiet_op;first|go_big_quiet_on|(apply Exists.intro;refine⟨fun _=>?_,?_⟩;(· (first|(go_at_call 86;exact Calls.yR (vZ _ t _ (Rd.below RT.out (yQ HB0.out HB0.out.size (yO W _)))))|(go_at_call 295;exact Calls.yR (HUN.out _))));go_big_quiet_on)))
  refine wpQuiet_nil ?_;rintro w9 ⟨uu,rfl⟩;have hb9:=yO W uu;generalize bel W uu=w9 at *;have HB9:=xN (yQ HB0.out HB0.out.size hb9);clear g0 g1;go_wp2;go_ret
  exact⟨wL (by rw[HE.out,HTD.out,HL.out,HE4.out]),HB9.out⟩
 ·
  have hnum:=HP.out.num;have hia:=HP.out.ins_;rw[e] at hnum;replace hnum:ins.length=3:=by rw[hnum];rfl
  obtain⟨i0,i1,i2,rfl⟩:=lnI3 hnum;obtain⟨bi,oi,ci,rfl,li,mi,lbi,hci⟩:=xY HI.out (by simp);have c0:=hci 0 i0 rfl;have c1:=hci 1 i1 rfl;have c2:=hci 2 i2 rfl;rw[Nat.add_zero] at c0;clear hci;have hs0:Smp i0:=hia i0 (by simp);have hs1:Smp i1:=hia i1 (by simp);have hs2:Smp i2:=hia i2 (by simp);simp only[List.length_cons,List.length_nil] at li;clear hnum hia;rw[e] at HB0 HK0 ⊢;generalize hO:wK x tables [i0,i1,i2] st=OO at *;have HK_:=xN e;clear e;by_cases hc:0≤i0
  ·
   have HE:=xN (show OO=i1 by rw[←hO];unfold wK;simp only[HK_.out];simp[hc]);clear hO;have q1:decide (0≤i0)=true:=decide_eq_true hc;have k0:=(HB0.out.cell lbi).trans c0;have k1:=(HB0.out.cell lbi).trans c1;have k2:=(HB0.out.cell lbi).trans c2;have lbi2:bi<(w.alloc (.cells #[.int .i64 15,.int .i64 x.fA,.int .i64 x.fB,(.slice va3 x.zK.length vc3)] 167)).heap.size:=zW lbi HB0.out.size;clear c0 c1 c2
   go_enter Tryz.func294,Tryz.ntmps294
   go_wp2;go_ret
   exact⟨wL (by rw[HE.out]),HB0.out⟩
  ·
   have HE:=xN (show OO=i2 by rw[←hO];unfold wK;simp only[HK_.out];simp[hc]);clear hO;have q1:decide (0≤i0)=false:=decide_eq_false hc;have k0:=(HB0.out.cell lbi).trans c0;have k1:=(HB0.out.cell lbi).trans c1;have k2:=(HB0.out.cell lbi).trans c2;have lbi2:bi<(w.alloc (.cells #[.int .i64 15,.int .i64 x.fA,.int .i64 x.fB,(.slice va3 x.zK.length vc3)] 167)).heap.size:=zW lbi HB0.out.size;clear c0 c1 c2
   go_enter Tryz.func294,Tryz.ntmps294
   go_wp2;go_ret
   exact⟨wL (by rw[HE.out]),HB0.out⟩
end
section
open Go.RowKit
structure Own (B:Nat) (w:World) (x:T) (F:List Nat) (v:Value):Prop where
 ow:T.ow w x F [v]
 nodup:F.Nodup
 lo: ∀ b ∈ F,B≤b
mutual
theorem T.rd_cell {w:World} : ∀ (x:T) (cs:List Value),T.rd w x cs→ ∀ u ∈ cs,u.oneCell'=true
 | .num _,_,h=>by simp only[T.rd] at h;subst h;simp[Value.oneCell']
 | .str _,_,h=>by simp only[T.rd] at h;subst h;simp[Value.oneCell']
 | .sl _ _ _,_,h=>by
  simp only[T.rd] at h;obtain⟨v,es,rfl,_,hr,_⟩:=h;obtain⟨_,A,cap,rfl,_⟩:=hr;simp[Value.oneCell']
 | .st fs,cs,h=>by simp only[T.rd] at h;exact T.rds_cell fs cs h
theorem T.rds_cell {w:World} : ∀ (xs:List T) (cs:List Value),T.rds w xs cs→ ∀ u ∈ cs,u.oneCell'=true
 | [],_,h=>by simp only[T.rds] at h;subst h;simp
 |x :: xs,_,h=>by
  simp only[T.rds] at h;obtain⟨c1,c2,rfl,h1,h2⟩:=h;intro u hu
  rcases List.mem_append.1 hu with hu|hu
  ·exact T.rd_cell x c1 h1 u hu
  ·exact T.rds_cell xs c2 h2 u hu
end
theorem Own.lt {B:Nat} {w:World} {x:T} {F:List Nat} {v:Value} (h:Own B w x F v): ∀ b ∈ F,b<w.heap.size:=T.ow_lt _ _ _ h.ow
theorem Own.all {B:Nat} {w w':World} {x:T} {F:List Nat} {v:Value} (h:Own B w x F v) (hb:Below w.heap.size w w'):Own B w' x F v:=⟨T.ow_all h.ow hb,h.nodup,h.lo⟩
theorem Own.trn {B:Nat} {w w':World} {x:T} {F G:List Nat} {v:Value} (h:Own B w x F v) (k:Trn G w w') (hd: ∀ b ∈ F,b ∉ G):Own B w' x F v:=⟨T.ow_trn h.ow k hd,h.nodup,h.lo⟩
theorem Own.more {B B':Nat} {w:World} {x:T} {F:List Nat} {v:Value} (h:Own B w x F v) (hb:B'≤B):Own B' w x F v:=⟨h.ow,h.nodup,fun b m=>Nat.le_trans hb (h.lo b m)⟩
theorem Own.nil (B:Nat) (w:World) (E:TypeId) (sz:Nat):Own B w (.sl E sz []) [] (.slice none 0 0):=by
 refine⟨?_,List.nodup_nil,by simp⟩;simp only[T.ow];exact⟨_,[],[],rfl,by simp[Value.ownBlock],by simp,World.ownsRow_nil w 0 E sz,by simp[T.ows]⟩
theorem Own.app {B:Nat} {w:World} {E:TypeId} {sz:Nat} {xs:List T} {x:T} {F Fx:List Nat} {v:Value} {news:List Value} (h:Own B w (.sl E sz xs) F v) (hx:T.ow w x Fx news) (nx:Fx.Nodup) (lx: ∀ b ∈ Fx,B≤b)
  (hd: ∀ b ∈ F,b ∉ Fx) (hw:T.wide x=sz) (hB:B≤w.heap.size):
  ∃ es,w.ownsRow 0 E sz v xs.length es∧ ∀ v' w',w'.ownsRow 0 E sz v' (xs.length+1) (es++news)→w.grownBy w' v.ownBlock→(∀ k,v'.ownBlock=some k→v.ownBlock=some k∨w.heap.size≤k)→
   ∃ F',Own B w' (.sl E sz (xs++ [x])) F' v'∧ ∀ b ∈ F',b ∈ F∨b ∈ Fx∨w.heap.size≤b:=by
 obtain⟨ho,hn,hlo⟩:=h;simp only[T.ow] at ho;obtain⟨v0,es,G,e,rfl,hwd,hrow,hows⟩:=ho;injection e with e _;subst e;refine⟨es,hrow,fun v' w' hrow' hg hv=>⟨v'.ownBlock.toList++(G++Fx),⟨?_,?_,?_⟩,?_⟩⟩
 ·simp only[T.ow]
  refine⟨v',es++news,G++Fx,rfl,rfl,?_,by simpa using hrow',?_⟩
  ·intro y hy
   rcases List.mem_append.1 hy with hy|hy
   ·exact hwd y hy
   ·simp at hy;subst hy;exact hw
  ·refine T.ows_snoc (T.ows_keep _ _ _ (fun b hb=>?_) hows) (T.ow_keep _ _ _ (fun b hb=>?_) hx)
   ·exact hg.block b (T.ows_lt _ _ _ hows b hb) (fun e=>wV hn b (by rw[←e];simp) hb)
   ·exact hg.block b (T.ow_lt _ _ _ hx b hb) (fun e=>hd b (List.mem_append.2 (.inl (by rw[←e];simp))) hb)
 ·rw[List.nodup_append]
  refine⟨by cases v'.ownBlock<;>simp,?_,?_⟩
  ·rw[List.nodup_append]
   exact⟨yY hn,nx,fun a ha b hb e=>hd a (List.mem_append.2 (.inr ha)) (e ▸ hb)⟩
  ·intro a ha b hb e
   subst e;have ha:v'.ownBlock=some a:=by simpa using ha
   rcases hv a ha with k|k
   ·rcases List.mem_append.1 hb with hb|hb
    ·exact wV hn a (by rw[k];simp) hb
    ·exact hd a (List.mem_append.2 (.inl (by rw[k];simp))) hb
   ·rcases List.mem_append.1 hb with hb|hb
    ·have:=T.ows_lt _ _ _ hows a hb;omega
    ·have:=T.ow_lt _ _ _ hx a hb;omega
 ·intro b hb
  rcases List.mem_append.1 hb with hb|hb
  ·have hb:v'.ownBlock=some b:=by simpa using hb
   rcases hv b hb with k|k
   ·exact hlo b (List.mem_append.2 (.inl (by rw[k];simp)))
   ·omega
  ·rcases List.mem_append.1 hb with hb|hb
   ·exact hlo b (List.mem_append.2 (.inr hb))
   ·exact lx b hb
 ·intro b hb
  rcases List.mem_append.1 hb with hb|hb
  ·have hb:v'.ownBlock=some b:=by simpa using hb
   rcases hv b hb with k|k
   ·exact .inl (List.mem_append.2 (.inl (by rw[k];simp)))
   ·exact .inr (.inr k)
  ·rcases List.mem_append.1 hb with hb|hb
   ·exact .inl (List.mem_append.2 (.inr hb))
   ·exact .inr (.inl hb)
theorem Own.row {B:Nat} {w:World} {E:TypeId} {sz:Nat} {xs:List T} {F:List Nat} {v:Value} (h:Own B w (.sl E sz xs) F v): ∀ k,v.ownBlock=some k→B≤k:=by
 intro k hk;obtain⟨ho,hn,hlo⟩:=h;simp only[T.ow] at ho;obtain⟨v0,es,G,e,rfl,_⟩:=ho;injection e with e _;subst e;exact hlo k (List.mem_append.2 (.inl (by rw[hk];simp)))
theorem Own.mem {B:Nat} {w:World} {E:TypeId} {sz:Nat} {xs:List T} {F:List Nat} {v:Value} (h:Own B w (.sl E sz xs) F v): ∀ k,v.ownBlock=some k→k ∈ F:=by
 intro k hk;obtain⟨ho,hn,hlo⟩:=h;simp only[T.ow] at ho;obtain⟨v0,es,G,e,rfl,_⟩:=ho;injection e with e _;subst e;exact List.mem_append.2 (.inl (by rw[hk];simp))
theorem Own.born {B:Nat} {w:World} {E:TypeId} {sz:Nat} {v:Value} (h:w.ownsRow B E sz v 0 []):Own B w (.sl E sz []) v.ownBlock.toList v:=by
 refine⟨?_,by cases v.ownBlock<;>simp,fun b hb=>(h.lt b (by simpa using hb)).1⟩;simp only[T.ow];refine⟨v,[],[],rfl,by simp,by simp,?_,by simp[T.ows]⟩;exact wU h (Nat.zero_le _)
theorem Own.below {B:Nat} {w w' w0:World} {E:TypeId} {sz:Nat} {xs:List T} {F:List Nat} {v:Value} (h:Own B w (.sl E sz xs) F v) (hb:Below B w0 w) (hB:B≤w.heap.size) (hg:w.grownBy w' v.ownBlock):Below B w0 w':=
 hb.grown hg hB (fun j hj=>h.row j hj)
theorem Bk.rd1 {w:World} {g:Nat} {t:TypeId} {ys:List Value} (h:Bk w g t ys.toArray):Rd w (.slice (some ⟨g,0,none⟩) 1 1) ys.length 1 ys:=
 ⟨by simp,_,1,rfl,zJ,by decide,fun _=>⟨g,0,rfl,h.lt,fun j u hj=>by rw[Nat.zero_add,h.cell j];simpa using hj⟩⟩
theorem T.ow_st {w:World} {fs:List T} {F:List Nat} {cs:List Value} (h:T.ows w fs F cs):T.ow w (.st fs) F cs:=by simp only[T.ow];exact h
theorem zAz {A B:List Nat} (ha:A.Nodup) (hb:B.Nodup) (h: ∀ x ∈ A,x ∉ B):(A++B).Nodup:=by
 rw[List.nodup_append];exact⟨ha,hb,fun a h1 b h2 e=>h a h1 (e ▸ h2)⟩
section
variable {P:Program}
theorem vBz {w:World} {ops:Array Oper} {rest:List Oper} {o:Oper} {a:Act} {Q:Exit→Act→World→Prop} {news:Array Value} (hgd:o.guard=none) (s y:Operand) (t:TypeId)
  (ho:o.op= .call { callee:= .builtin .append,args:= #[s,y],argTypes:= #[t,t] }) (B:Nat) (e:TypeId) (z:Value) (size bytes:Nat) (ht:P.underlying t=some (.slice e))
  (hinfo:(P.info? e).map (fun i=>(i.zero,i.size,i.bytes))=some (some z,size,bytes)) (hzs:z.cells.size=size) (hsz:0<size)
  {v:Value} {xs:List T} {x:T} {F Fx:List Nat} (hs:a.eval s=v) (hown:Own B w (.sl e size xs) F v) (hx:T.ow w x Fx news.toList) (nx:Fx.Nodup) (lx: ∀ b ∈ Fx,B≤b) (hd: ∀ b ∈ F,b ∉ Fx) (hw:T.wide x=size)
  (hy:a.eval y= .slice (some ⟨w.heap.size,0,none⟩) 1 1) (hbytes:(xs.length+1) * bytes≤140737488355328) (h63:xs.length+1≤9223372036854775807) (hB:B≤w.heap.size)
  (h: ∀ v' w' F',Own B w' (.sl e size (xs++ [x])) F' v'→w.grownBy w' v.ownBlock→(∀ b ∈ F',b ∈ F∨b ∈ Fx∨w.heap.size≤b)→wpList P ops Q rest (a.put o.dst v') w'):
  wpList P ops Q (o :: rest) a (w.alloc (.cells news e)):=by
 obtain⟨es,hrow,hk⟩:=hown.app hx nx lx hd hw hB;refine app_one hgd s y t ho 0 e z size bytes ht hinfo hzs hsz v xs.length es hs hrow hy ?_ ?_ hbytes h63 (Nat.zero_le _) ?_
 ·have:=T.rd_len x _ (T.ow_rd _ _ _ hx)
  rw[hw] at this
  simpa using this
 ·exact T.rd_cell x _ (T.ow_rd _ _ _ hx)
 ·intro v' w' h1 h2 h3
  obtain⟨F',k1,k2⟩:=hk v' w' h1 h2 h3;exact h v' w' F' k1 h2 k2
end
theorem vYz {P:Program} {w:World} {ops:Array Oper} {o:Oper} {a:Act} {K:Act→World→Prop} {Q:Exit→Act→World→Prop} {E:Prop} (hgd:o.guard=none) (s x:Operand) (t:TypeId)
  (ho:o.op= .call { callee:= .builtin .append,args:= #[s,x],argTypes:= #[t,t] })
  (base:Nat) (e:TypeId) (z:Value) (size bytes:Nat) (ht:P.underlying t=some (.slice e)) (hinfo:(P.info? e).map (fun i=>(i.zero,i.size,i.bytes))=some (some z,size,bytes))
  (hzs:z.cells.size=size) (hsz:0<size)
  (v:Value) (n:Nat) (xs:List Value) (hs:a.eval s=v) (hown:w.ownsRow base e size v n xs)
  (y:Value) (m:Nat) (ys:List Value) (hx:a.eval x=y) (hr:Rd w y size m ys) (h1: ∀ u ∈ ys,u.oneCell'=true)
  (hbytes:(n+m) * bytes≤140737488355328) (h63:n+m≤maxLen) (hbase:base≤w.heap.size)
  (h: ∀ v' w',w'.ownsRow base e size v' (n+m) (xs++ys)→w.grownBy w' v.ownBlock→(∀ k,v'.ownBlock=some k→v.ownBlock=some k∨w.heap.size≤k)→K (a.put o.dst v') w'):
  if Region.wanted o (yielded ops a.tmps)=true then Oper.wp P o a w K Q else E:=by
 have hw:Region.wanted o (yielded ops a.tmps)=true:=by simp[Region.wanted,hgd]
 rw[if_pos hw];obtain⟨i0,hi,hz0,hz1,hz2⟩:=info_parts hinfo;obtain⟨hl,A,cap,rfl,hc1,hc2,hcell⟩:=hr
 rcases Nat.eq_zero_or_pos m with hm|hm
 ·subst hm
  have hn:ys= []:=List.eq_nil_of_length_eq_zero (by simpa using hl);subst hn
  have hrun:(Builtin.append_ #[t,t] o.type #[v,.slice A 0 cap]).run P w= .ok v w:=by
   rcases hown.2 with ⟨rfl,rfl⟩|⟨g,cap',cur,rfl,_,_,hnc,_⟩
   ·cases A<;>simp[Builtin.append_,run_underlying ht,sizeOf,typeInfo,hi,Builtin.lenOf,Builtin.firstCells,loadCells,loadCellsFrom]
   ·cases A<;>simp[Builtin.append_,run_underlying ht,sizeOf,typeInfo,hi,Builtin.lenOf,Builtin.firstCells,hnc,storeCells,loadCells,loadCellsFrom]
  unfold Oper.wp execOp;simp only[ho,resolve,invoke,builtin,Sem.run_bind,Sem.run_pure,Result.andThen_ok,List.map_toArray,List.map_cons,List.map_nil,hs,hx,hrun];exact h v w (by simpa using hown) (World.grownBy.refl _ _) fun k hk=> .inl hk
 ·obtain⟨b,off,rfl,hb,hcc⟩:=hcell hm
  refine wp_append_lies w s x t ho base e i0 z size bytes ht hi hz0 hz1 hz2 hzs hsz v n xs hs hown ⟨b,off,none⟩ m cap ys hx hl ?_ h1 hm h63 hbytes hbase _ rfl ?_
  ·intro j u hu
   rw[show (⟨b,off,none⟩:Addr).add j=⟨b,off+j,none⟩ by unfold Addr.add;split<;>simp_all];exact hcc j u hu
  ·intro g cap' w' h2 h3 h4 _
   refine h _ w' h2 h3 fun k hk=>?_
   injection hk with hk;subst hk
   rcases h4 with h4|h4
   ·exact .inl h4
   ·exact .inr (by rw[h4];exact zJ)
theorem xRz {P:Program} {w:World} {ops:Array Oper} {o:Oper} {a:Act} {K:Act→World→Prop} {Q:Exit→Act→World→Prop} {X:Prop} (hgd:o.guard=none) (s y:Operand) (t:TypeId)
  (ho:o.op= .call { callee:= .builtin .append,args:= #[s,y],argTypes:= #[t,t] }) (B:Nat) (e:TypeId) (z:Value) (size bytes:Nat) (ht:P.underlying t=some (.slice e))
  (hinfo:(P.info? e).map (fun i=>(i.zero,i.size,i.bytes))=some (some z,size,bytes)) (hzs:z.cells.size=size) (hsz:0<size)
  {v:Value} {xs:List T} {x:T} {F Fx:List Nat} {news:List Value} {g:Nat} (hs:a.eval s=v) (hown:Own B w (.sl e size xs) F v) (hy:a.eval y= .slice (some ⟨g,0,none⟩) 1 1) (hk:Bk w g e news.toArray)
  (hx:T.ow w x Fx news) (nx:Fx.Nodup) (lx: ∀ b ∈ Fx,B≤b) (hd: ∀ b ∈ F,b ∉ Fx) (hw:T.wide x=size)
  (hbytes:(xs.length+1) * bytes≤140737488355328) (h63:xs.length+1≤maxLen) (hB:B≤w.heap.size)
  (h: ∀ v' w' F',Own B w' (.sl e size (xs++ [x])) F' v'→w.grownBy w' v.ownBlock→(∀ b ∈ F',b ∈ F∨b ∈ Fx∨w.heap.size≤b)→K (a.put o.dst v') w'):
  if Region.wanted o (yielded ops a.tmps)=true then Oper.wp P o a w K Q else X:=by
 obtain⟨es,hrow,hk2⟩:=hown.app hx nx lx hd hw hB;have hl:news.length=size:=by rw[←hw];exact T.rd_len x _ (T.ow_rd _ _ _ hx)
 refine vYz hgd s y t ho 0 e z size bytes ht hinfo hzs hsz v xs.length es hs hrow _ 1 news hy (by rw[←hl];exact hk.rd1) (T.rd_cell x _ (T.ow_rd _ _ _ hx)) hbytes h63 (Nat.zero_le _) ?_;intro v' w' h1 h2 h3;obtain⟨F',k1,k2⟩:=hk2 v' w' h1 h2 h3;exact h v' w' F' k1 h2 k2
end
section
open Go.RowKit
end
section
open Go.RowKit
end
section
open Go.RowKit
structure Grow (B:Nat) (w:World) (E:TypeId) (sz:Nat) (xs:List T) (F:List Nat) (v:Value) (os:List T) (FR:List Nat) (cr:List Value):Prop where
 own:Own B w (.sl E sz xs) F v
 rest:T.ows w os FR cr
 nd:FR.Nodup
 lo: ∀ b ∈ FR,B≤b
 dj: ∀ b ∈ F,b ∉ FR
section
variable {B:Nat} {w w':World} {E E':TypeId} {sz sz':Nat} {xs:List T} {x:T} {F F' Fx FR:List Nat} {v v':Value} {os:List T} {cr:List Value}
theorem Grow.all (h:Grow B w E sz xs F v os FR cr) (hb:Below w.heap.size w w'):Grow B w' E sz xs F v os FR cr:=
 ⟨h.own.all hb,T.ows_all h.rest hb,h.nd,h.lo,h.dj⟩
theorem Grow.lt (h:Grow B w E sz xs F v os FR cr): ∀ b ∈ F,b<w.heap.size:=h.own.lt
theorem Grow.ltR (h:Grow B w E sz xs F v os FR cr): ∀ b ∈ FR,b<w.heap.size:=T.ows_lt _ _ _ h.rest
theorem Grow.far {g:Nat} (h:Grow B w E sz xs F v os FR cr) (h1:g ∉ F) (h2:g ∉ FR) (o:Nat) (u:Value):Grow B (w.setCell ⟨g,o,none⟩ u) E sz xs F v os FR cr:=
 ⟨⟨T.ow_far h.own.ow h1 o u,h.own.nodup,h.own.lo⟩,T.yX h.rest h2 o u,h.nd,h.lo,h.dj⟩
theorem Grow.app (h:Grow B w E sz xs F v os FR cr) (ho:Own B w' (.sl E sz (xs++ [x])) F' v') (hg:w.grownBy w' v.ownBlock) (hv: ∀ b ∈ F',b ∈ F∨b ∈ Fx∨w.heap.size≤b) (hd: ∀ b ∈ Fx,b ∉ FR):
  Grow B w' E sz (xs++ [x]) F' v' os FR cr:=by
 refine⟨ho,T.ows_keep _ _ _ (fun b hb=>hg.block b (h.ltR b hb) (fun e=>h.dj b (h.own.mem b e.symm) hb)) h.rest,h.nd,h.lo,fun b hb hm=>?_⟩
 rcases hv b hb with k|k|k
 ·exact h.dj b k hm
 ·exact hd b k hm
 ·have:=h.ltR b hm;omega
theorem Grow.out {g:Nat} (hv: ∀ b ∈ F',b ∈ F∨b ∈ Fx∨w.heap.size≤b) (h1:g ∉ F) (h2:g ∉ Fx) (h3:g<w.heap.size):g ∉ F':=fun hm=>by
 rcases hv g hm with k|k|k
 ·exact h1 k
 ·exact h2 k
 ·omega
theorem Grow.end_ (h:Grow B w E sz xs F v os FR cr):T.ows w (os++ [.sl E sz xs]) (FR++F) (cr++ [v])∧(FR++F).Nodup∧ ∀ b ∈ FR++F,B≤b:=by
 refine⟨T.ows_snoc h.rest h.own.ow,zAz h.nd h.own.nodup (fun b hb hm=>h.dj b hm hb),fun b hb=>?_⟩
 rcases List.mem_append.1 hb with hb|hb
 ·exact h.lo b hb
 ·exact h.own.lo b hb
theorem Grow.next (h:Grow B w E sz xs F v os FR cr) (E':TypeId) (sz':Nat):Grow B w E' sz' [] [] (.slice none 0 0) (os++ [.sl E sz xs]) (FR++F) (cr++ [v]):=
 ⟨Own.nil B w E' sz',h.end_.1,h.end_.2.1,h.end_.2.2,by simp⟩
theorem Grow.start {os:List T} {FR:List Nat} {cr:List Value} (h:T.ows w os FR cr) (nd:FR.Nodup) (lo: ∀ b ∈ FR,B≤b) (E':TypeId) (sz':Nat):Grow B w E' sz' [] [] (.slice none 0 0) os FR cr:=
 ⟨Own.nil B w E' sz',h,nd,lo,by simp⟩
theorem Grow.form (h:Grow B w E sz xs F v os FR cr): ∃ A l c,v= .slice A l c:=T.xE h.own.ow
theorem Grow.split {E1 E3:TypeId} {s1 s3:Nat} {l1 l3:List T} {v1 v3:Value} (h:Grow B w E sz xs F v [.sl E1 s1 l1,.sl E3 s3 l3] FR [v1,v3]):
  ∃ F1 F3,T.ow w (.sl E1 s1 l1) F1 [v1]∧T.ow w (.sl E3 s3 l3) F3 [v3]∧(F1++(F++(F3++ []))).Nodup∧(∀ b ∈ F1++(F++(F3++ [])),B≤b)∧ ∀ g,g ∉ F→g ∉ FR→g ∉ F1++(F++(F3++ [])):=by
 obtain⟨u1,r1,F1,F2,rfl,e1,o1,hr⟩:=T.ows_sl.1 h.rest;obtain⟨u3,r3,F3,F4,rfl,e3,o3,hr3⟩:=T.ows_sl.1 hr;obtain⟨rfl,rfl⟩:=T.ows_nil.1 hr3;injection e1 with e1 e2;subst e1;rw[e3] at e2;injection e2 with e2 _;subst e2;have nd:=h.nd
 have hm: ∀ b,b ∈ F1++(F++(F3++ []))→b ∈ F∨b ∈ F1++(F3++ []):=fun b hb=>by
  simp only[List.mem_append] at hb ⊢
  rcases hb with hb|hb|hb|hb
  ·exact .inr (.inl hb)
  ·exact .inl hb
  ·exact .inr (.inr (.inl hb))
  ·exact .inr (.inr (.inr hb))
 refine⟨F1,F3,o1,o3,?_,fun b hb=>?_,fun g h1 h2 hg=>?_⟩
 ·refine zAz (vM nd) (zAz h.own.nodup (yY nd) (fun b hb hb2=>h.dj b hb (List.mem_append.2 (.inr hb2)))) (fun b hb hb2=>?_)
  rcases List.mem_append.1 hb2 with hb2|hb2
  ·exact h.dj b hb2 (List.mem_append.2 (.inl hb))
  ·exact wV nd b hb hb2
 ·rcases hm b hb with hb|hb
  ·exact h.own.lo b hb
  ·exact h.lo b hb
 ·rcases hm g hg with hg|hg
  ·exact h1 hg
  ·exact h2 hg
theorem Bk.drew {g:Nat} {t:TypeId} {cs:Array Value} (h:Bk w g t cs):Bk w.drew g t cs:=h
theorem Bk.far1 {g:Nat} {t:TypeId} {cs:Array Value} (h:Bk w g t cs) (hg:w.grownBy w' v.ownBlock) (hn:g ∉ F) (ho:Own B w (.sl E sz xs) F v):Bk w' g t cs:=
 h.grown hg (fun e=>hn (ho.mem g e.symm))
end
end
section
open Go.RowKit
section
variable {P:Program} {ops:Array Oper} {Q:Exit→Act→World→Prop} {md:Region.Mode} {S:World→Prop} {n:List Nat}
def uM (P:Program) (md:Region.Mode) (ops:Array Oper) (Q:Exit→Act→World→Prop) (S:World→Prop) (n:List Nat):Nat→Array Bool→Act→World→Prop
 |0,listed,a,w=>Region.ready md ops listed= []∧Q .normal a w
 |fuel+1,listed,a,w=>
  (Region.ready md ops listed= []→Q .normal a w)∧
  ∀ i ∈ Region.ready md ops listed,wpOp P ops Q i (fun a' w'=>(i ∈ n∨S w')∧uM P md ops Q S n fuel (listed.setIfInBounds i true) a' w') a w
theorem wpAny_of_N: ∀ (fuel:Nat) (listed:Array Bool) (a:Act) (w:World),uM P md ops Q S n fuel listed a w→wpAny P md ops Q fuel listed a w
 |0,_,_,_,h=>h
 |fuel+1,_,_,_,h=>⟨h.1,fun i hi=>wpOp_mono (fun a' w' h'=>wpAny_of_N fuel _ a' w' h'.2) (h.2 i hi)⟩
def closedB (md:Region.Mode) (ops:Array Oper) (listed:Array Bool):Bool:=(List.range ops.size).all fun j=> !(listed.getD j true) || ((ops[j]?).map fun o=>o.after.all fun e=> !(Region.binds md e) || listed.getD e.on true).getD true
def Closed (md:Region.Mode) (ops:Array Oper) (listed:Array Bool):Prop:= ∀ (j:Nat) (o:Oper),ops[j]?=some o→listed.getD j true=true→ ∀ e ∈ o.after,Region.binds md e=true→listed.getD e.on true=true
theorem closed_of {listed:Array Bool} (h:closedB md ops listed=true):Closed md ops listed:=by
 intro j o ho hl e he hb;unfold closedB at h;have hj:j<ops.size:=(Array.getElem?_eq_some_iff.1 ho).1;have h1:=List.all_eq_true.1 h j (List.mem_range.2 hj);rw[hl,ho] at h1;simp only[Bool.not_true,Bool.false_or,Option.map_some,Option.getD_some] at h1;have h2:=(Array.all_eq_true'.1 h1) e he;rw[hb] at h2
 simpa using h2
def yLz (md:Region.Mode) (ops:Array Oper):Nat→Nat→Nat→Bool
 |0,_,_=>false
 |f+1,m,i=>((ops[m]?).map fun o=>o.after.any fun e=>Region.binds md e && (e.on == i || yLz md ops f e.on i)).getD false
theorem uUz {f m i:Nat} (h:yLz md ops (f+1) m i=true): ∃ o,ops[m]?=some o∧ ∃ e ∈ o.after,Region.binds md e=true∧(e.on=i∨yLz md ops f e.on i=true):=by
 unfold yLz at h
 cases ho:ops[m]? with
 |none=>rw[ho] at h;simp at h
 |some o=>
  rw[ho] at h;simp only[Option.map_some,Option.getD_some] at h;obtain⟨e,he,h2⟩:=Array.any_eq_true'.1 h;simp only[Bool.and_eq_true,Bool.or_eq_true,beq_iff_eq] at h2;exact⟨o,rfl,e,he,h2.1,h2.2⟩
theorem waitsT_mono: ∀ (f m i:Nat),yLz md ops f m i=true→yLz md ops (f+1) m i=true
 |0,_,_,h=>by simp[yLz] at h
 |f+1,m,i,h=>by
  obtain⟨o,ho,e,he,hb,h2⟩:=uUz h;unfold yLz;rw[ho];simp only[Option.map_some,Option.getD_some];refine Array.any_eq_true'.2 ⟨e,he,?_⟩;simp only[Bool.and_eq_true,Bool.or_eq_true,beq_iff_eq];exact⟨hb,h2.imp id (fun h3=>waitsT_mono f _ _ h3)⟩
def vZz (md:Region.Mode) (ops:Array Oper) (i:Nat):Nat→List Bool
 |0=> []
 |k+1=>vZz md ops i k++ [((ops[k]?).map fun o=>o.after.any fun e=>Region.binds md e && (e.on == i || (vZz md ops i k).getD e.on false)).getD false]
theorem yNz {i:Nat} : ∀ k,(vZz md ops i k).length=k
 |0=>rfl
 |k+1=>by simp[vZz,yNz k]
theorem uVz {i:Nat} : ∀ (k j:Nat),(vZz md ops i k).getD j false=true→yLz md ops k j i=true
 |0,j,h=>by simp[vZz] at h
 |k+1,j,h=>by
  unfold vZz at h;rw[List.getD_eq_getElem?_getD] at h;by_cases hj:j<k
  ·rw[List.getElem?_append_left (by rw[yNz];exact hj),←List.getD_eq_getElem?_getD] at h
   exact waitsT_mono _ _ _ (uVz k j h)
  ·by_cases e:j=k
   ·subst e
    rw[List.getElem?_append_right (by rw[yNz];exact zJ),yNz,Nat.sub_self] at h;unfold yLz
    cases ho:ops[j]? with
    |none=>rw[ho] at h;simp at h
    |some o=>
     rw[ho] at h;simp only[Option.map_some,Option.getD_some,List.getElem?_cons_zero] at h ⊢;obtain⟨e,he,h2⟩:=Array.any_eq_true'.1 h;refine Array.any_eq_true'.2 ⟨e,he,?_⟩;simp only[Bool.and_eq_true,Bool.or_eq_true,beq_iff_eq] at h2 ⊢;exact⟨h2.1,h2.2.imp id (fun h3=>uVz j _ h3)⟩
   ·rw[List.getElem?_eq_none (by rw[List.length_append,yNz];simp;omega)] at h
    cases h
theorem zZy {listed:Array Bool} (hc:Closed md ops listed): ∀ (f j i:Nat),listed.getD j true=true→yLz md ops f j i=true→listed.getD i true=true
 |0,_,_,_,h=>by simp[yLz] at h
 |f+1,j,i,hl,h=>by
  obtain⟨o,ho,e,he,hb,h2⟩:=uUz h;have h3:=hc j o ho hl e he hb
  rcases h2 with rfl|h2
  ·exact h3
  ·exact zZy hc f e.on i h3 h2
theorem waitsT_ready {listed:Array Bool} (hc:Closed md ops listed) {f j i:Nat} (hr:j ∈ Region.ready md ops listed) (h:yLz md ops f j i=true):listed.getD i true=true:=by
 cases f with
 |zero=>simp[yLz] at h
 |succ f=>
  obtain⟨o,ho,e,he,hb,h2⟩:=uUz h;obtain⟨_,o',ho',hall⟩:=mem_ready.1 hr;obtain rfl:o=o':=Option.some.inj (ho.symm.trans ho');have h1:=hall e he hb
  have h3:listed.getD e.on true=true:=by
   cases hg:listed.getD e.on true with
   |true=>rfl
   |false=>rw[getD_both hg] at h1;cases h1
  rcases h2 with rfl|h2
  ·exact h3
  ·exact zZy hc f e.on i h3 h2
theorem Closed.set_ {listed:Array Bool} (hc:Closed md ops listed) {j:Nat} (hr:j ∈ Region.ready md ops listed):Closed md ops (listed.setIfInBounds j true):=by
 have up: ∀ k,listed.getD k true=true→(listed.setIfInBounds j true).getD k true=true:=fun k hk=>by
  by_cases e:j=k
  ·subst e
   cases hq:(listed.setIfInBounds j true).getD j true with
   |true=>rfl
   |false=>
    have hlt:j<listed.size:=Nat.lt_of_not_le fun hn=>by
     rw[Array.getD_eq_getD_getElem?,Array.getElem?_eq_none (by simpa using hn)] at hq
     cases hq
    rw[Array.getD_eq_getD_getElem?,Array.getElem?_setIfInBounds_self_of_lt hlt] at hq
    cases hq
  ·rw[getD_set_ne true e];exact hk
 intro k o ho hl e he hb;by_cases hk:j=k
 ·subst hk
  obtain⟨_,o',ho',hall⟩:=mem_ready.1 hr;obtain rfl:o=o':=Option.some.inj (ho.symm.trans ho');have h1:=hall e he hb;refine up _ ?_
  cases hg:listed.getD e.on true with
  |true=>rfl
  |false=>rw[getD_both hg] at h1;cases h1
 ·rw[getD_set_ne true hk] at hl
  exact up _ (hc k o ho hl e he hb)
theorem wpAnyN_first {i:Nat} {oi:Oper} {v:Value} (f:Nat) (hn:(n.all fun m=>yLz md ops f m i)=true) (hi:ops[i]?=some oi) (hsel: ∀ (j:Nat) (o:Oper) cs b,ops[j]?=some o→o.op≠ .select cs b)
  (hQ: ∀ c a w,Q (.panic c) (a.put oi.dst v) w→Q (.panic c) a w):
  ∀ (fuel:Nat) (listed:Array Bool) (a:Act) (w:World),
   (∀ j oj,ops[j]?=some oj→j≠i→listed.getD j true=false→(∀ e ∈ oj.after,Region.binds md e=true→e.on≠i)→oi.apart ops oj=true)→
   Closed md ops listed→i ∈ Region.ready md ops listed→YieldsIf P ops S oi v a→S w→
   uM P md ops Q S n fuel (listed.setIfInBounds i true) (a.put oi.dst v) w→uM P md ops Q S n (fuel+1) listed a w:=by
 have late: ∀ {listed:Array Bool} {j:Nat},Closed md ops listed→i ∈ Region.ready md ops listed→j ∈ Region.ready md ops listed→j ∉ n:=by
  intro listed j hc hr hj e;have h1:=waitsT_ready hc hj (List.all_eq_true.1 hn j e);rw[(mem_ready.1 hr).1] at h1
  cases h1
 intro fuel
 induction fuel with
 |zero=>
  intro listed a w _ hc hr hy hS H;refine⟨fun h=>(by rw[h] at hr;cases hr),fun j hj=>?_⟩;by_cases hji:j=i
  ·subst hji;exact hy.wpOp hi hS ⟨.inr hS,H⟩
  ·have:=ready_mono hj hji
   rw[H.1] at this
   cases this
 |succ fuel ih=>
  intro listed a w hfree hc hr hy hS H;refine⟨fun h=>(by rw[h] at hr;cases hr),fun j hj=>?_⟩;by_cases hji:j=i
  ·subst hji;exact hy.wpOp hi hS ⟨.inr hS,H⟩
  ·have h1:=H.2 j (ready_mono hj hji)
   obtain⟨hjun,oj,hoj,hall⟩:=mem_ready.1 hj;have hun:=(mem_ready.1 hr).1
   have hnot: ∀ e ∈ oj.after,Region.binds md e=true→e.on≠i:=fun e he hb heq=>by
    have h1:=hall e he hb;rw[heq,getD_both hun] at h1
    cases h1
   have h2:=wpOp_putIf hoj (hfree j oj hoj hji hjun hnot) (fun cs b=>hsel i oi cs b hi) (fun cs b=>hsel j oj cs b hoj) hQ hy h1
   have hfree': ∀ k ok,ops[k]?=some ok→k≠i→(listed.setIfInBounds j true).getD k true=false→
     (∀ e ∈ ok.after,Region.binds md e=true→e.on≠i)→oi.apart ops ok=true:=fun k ok hk hki hun hno=>by
    refine hfree k ok hk hki ?_ hno;by_cases hjk:j=k
    ·subst hjk;exact hjun
    ·rw[getD_set_ne true hjk] at hun;exact hun
   have hjn:=late hc hr hj;refine wpOp_mono (fun a' w' h3=>?_) h2;have hS':S w':=h3.2.1.resolve_left hjn;refine⟨.inr hS',ih (listed.setIfInBounds j true) a' w' hfree' (hc.set_ hj) (ready_mono hr (Ne.symm hji)) h3.1 hS' ?_⟩;rw[Array.setIfInBounds_comm _ _ hji];exact h3.2.2
theorem wpAnyN_take {i:Nat} {oi:Oper} {v:Value} {fuel:Nat} {listed:Array Bool} {a:Act} {w:World} (f:Nat) (hn:(n.all fun m=>yLz md ops f m i)=true) (hcl:closedB md ops listed=true) (hi:ops[i]?=some oi)
  (hs:Region.noSelect ops=true) (hf:Region.free md ops listed i=true) (hr:(Region.ready md ops listed).contains i=true)
  (hQ: ∀ c a w,Q (.panic c) (a.put oi.dst v) w→Q (.panic c) a w) (hS:S w) (hw:Region.wanted oi (yielded ops a.tmps)=true) (hy: ∀ w,S w→(execOp a.eval oi).run P w= .ok (.value v) w)
  (h:uM P md ops Q S n fuel (listed.setIfInBounds i true) (a.put oi.dst v) w):uM P md ops Q S n (fuel+1) listed a w:=
 wpAnyN_first f hn hi (Region.noSelect_spec hs) hQ fuel listed a w (Region.free_spec hi hf) (closed_of hcl) (by simpa using hr) (.inl ⟨hw,hy⟩) hS h
theorem wpAnyN_takeL {i:Nat} {oi:Oper} {v:Value} {fuel:Nat} {listed:Array Bool} {a:Act} {w:World} (hn:(n.all fun m=>(vZz md ops i ops.size).getD m false)=true) (hcl:closedB md ops listed=true) (hi:ops[i]?=some oi)
  (hs:Region.noSelect ops=true) (hf:Region.free md ops listed i=true) (hr:(Region.ready md ops listed).contains i=true)
  (hQ: ∀ c a w,Q (.panic c) (a.put oi.dst v) w→Q (.panic c) a w) (hS:S w) (hw:Region.wanted oi (yielded ops a.tmps)=true) (hy: ∀ w,S w→(execOp a.eval oi).run P w= .ok (.value v) w)
  (h:uM P md ops Q S n fuel (listed.setIfInBounds i true) (a.put oi.dst v) w):uM P md ops Q S n (fuel+1) listed a w:=
 wpAnyN_take ops.size (List.all_eq_true.2 fun m hm=>uVz _ _ (List.all_eq_true.1 hn m hm)) hcl hi hs hf hr hQ hS hw hy h
theorem wpAnyN_end {fuel:Nat} {listed:Array Bool} {a:Act} {w:World} (hr:Region.ready md ops listed= []) (h:Q .normal a w):uM P md ops Q S n fuel listed a w:=by
 cases fuel with
 |zero=>exact⟨hr,h⟩
 |succ f=>exact⟨fun _=>h,by rw[hr];simp⟩
theorem wpAnyN_one {i:Nat} {o:Oper} {fuel:Nat} {listed:Array Bool} {a:Act} {w:World} (hr:Region.ready md ops listed= [i]) (ho:ops[i]?=some o)
  (h: ∀ K':Act→World→Prop,Shut (∀ a w,S w→(S w→uM P md ops Q S n fuel (listed.setIfInBounds i true) a w)→K' a w)→if Region.wanted o (yielded ops a.tmps)=true then Oper.wp P o a w K' Q else K' (a.put o.dst undef) w):
  uM P md ops Q S n (fuel+1) listed a w:=
 ⟨fun h0=>(by rw[hr] at h0;cases h0),fun j hj=>by
  rw[hr,List.mem_singleton] at hj;subst hj;exact wpOp_step ho (fun K' hK=>h K' (fun a w hS hW=>hK a w ⟨.inr hS,hW hS⟩))⟩
theorem yQy {i j:Nat} {o o2:Oper} {fuel:Nat} {listed:Array Bool} {a:Act} {w:World} (hr:Region.ready md ops listed= [i]) (ho:ops[i]?=some o) (hr2:Region.ready md ops (listed.setIfInBounds i true)= [j]) (ho2:ops[j]?=some o2)
  (hr3:Region.ready md ops ((listed.setIfInBounds i true).setIfInBounds j true)= []) (hi:i ∈ n) (hj:j ∈ n) (h:wpList P ops Q [o,o2] a w):uM P md ops Q S n (fuel+2) listed a w:=
 ⟨fun h0=>(by rw[hr] at h0;cases h0),fun k hk=>by
  rw[hr,List.mem_singleton] at hk;subst hk;have hw:wpOp P ops Q k (wpList P ops Q [o2]) a w:=by unfold wpOp;simp only[ho];exact h
  refine wpOp_mono (fun a' w' h'=>⟨.inl hi,⟨fun h0=>(by rw[hr2] at h0;cases h0),fun k2 hk2=>?_⟩⟩) hw;rw[hr2,List.mem_singleton] at hk2;subst hk2;have hw2:wpOp P ops Q k2 (wpList P ops Q []) a' w':=by unfold wpOp;simp only[ho2];exact h'
  refine wpOp_mono (fun a'' w'' h''=>⟨.inl hj,?_⟩) hw2;have h'':Q .normal a'' w'':=h''
  cases fuel with
  |zero=>exact⟨hr3,h''⟩
  |succ f=>exact⟨fun _=>h'',by rw[hr3];simp⟩⟩
theorem wH {id:Nat} {a:Act} {w:World} (S:World→Prop) (n:List Nat) (hm:P.follows .mixedOrders=true) (hS:S w.drew)
  (h:S w.drew→uM P .any ops Q S n ops.size (Array.replicate ops.size false) a w.drew):(Code.region id ops true).wp P Q a w:=
 wp_region_any hm (wpAny_of_N _ _ _ _ (h hS))
end
theorem zN {P:Program} {md:Region.Mode} {ops:Array Oper} {Q:Exit→Act→World→Prop} {S:World→Prop} {n:List Nat} (i:Nat) {oi:Oper} {v:Value} {fuel:Nat} {listed:Array Bool} {a b:Act} {w:World} (hS:S w)
  (h:uM P md ops Q S n fuel (listed.setIfInBounds i true) b w)
  (hi:ops[i]?=some oi:=by rfl)
  (hc:((n.all fun m=>(vZz md ops i ops.size).getD m false) && closedB md ops listed && Region.noSelect ops && Region.free md ops listed i && (Region.ready md ops listed).contains i)=true:=by kernel_rfl)
  (hQ: ∀ c a w,Q (.panic c) (a.put oi.dst v) w→Q (.panic c) a w:=by exact fun _ _ _ h=>h)
  (hw:Region.wanted oi (yielded ops a.tmps)=true:=by rfl)
  (hy: ∀ w,S w→(execOp a.eval oi).run P w= .ok (.value v) w:=by(intro w hSw;(try dsimp only at hSw);first|(go_simp;done)|(go_simp;with_reducible rfl)))
  (hb:a.put oi.dst v=b:=by(simp only[Act.put,List.setIfInBounds_toArray,List.set_cons_zero,List.set_cons_succ];try with_reducible rfl)):uM P md ops Q S n (fuel+1) listed a w:=by
 subst hb;simp only[Bool.and_eq_true] at hc;obtain⟨⟨⟨⟨h1,h2⟩,h3⟩,h4⟩,h5⟩:=hc;exact wpAnyN_takeL h1 h2 hi h3 h4 h5 hQ hS hw hy h
theorem qN {P:Program} {md:Region.Mode} {ops:Array Oper} {Q:Exit→Act→World→Prop} {S:World→Prop} {n:List Nat} {fuel:Nat} {listed:Array Bool} {a:Act} {w:World} (h:Q .normal a w) (hr:Region.ready md ops listed= []:=by kernel_rfl):uM P md ops Q S n fuel listed a w:=wpAnyN_end hr h
theorem q2N {P:Program} {md:Region.Mode} {ops:Array Oper} {Q:Exit→Act→World→Prop} {S:World→Prop} {n:List Nat} (i j:Nat) {o o2:Oper} {fuel:Nat} {listed:Array Bool} {a:Act} {w:World} (h:wpList P ops Q [o,o2] a w)
  (hr:Region.ready md ops listed= [i]:=by kernel_rfl) (ho:ops[i]?=some o:=by rfl) (hr2:Region.ready md ops (listed.setIfInBounds i true)= [j]:=by kernel_rfl) (ho2:ops[j]?=some o2:=by rfl)
  (hr3:Region.ready md ops ((listed.setIfInBounds i true).setIfInBounds j true)= []:=by kernel_rfl) (hi:i ∈ n:=by decide) (hj:j ∈ n:=by decide):uM P md ops Q S n (fuel+2) listed a w:=yQy hr ho hr2 ho2 hr3 hi hj h
theorem pN {P:Program} {md:Region.Mode} {ops:Array Oper} {Q:Exit→Act→World→Prop} {S:World→Prop} {n:List Nat} (i:Nat) {o:Oper} {fuel:Nat} {listed:Array Bool} {a:Act} {w:World}
  (h: ∀ K':Act→World→Prop,Shut (∀ a w,S w→(S w→uM P md ops Q S n fuel (listed.setIfInBounds i true) a w)→K' a w)→if Region.wanted o (yielded ops a.tmps)=true then Oper.wp P o a w K' Q else K' (a.put o.dst undef) w)
  (hr:Region.ready md ops listed= [i]:=by kernel_rfl) (ho:ops[i]?=some o:=by rfl):uM P md ops Q S n (fuel+1) listed a w:=wpAnyN_one hr ho h
theorem uN {S:World→Prop} {R K:Act→World→Prop} {a b:Act} {w:World} (hK:Shut (∀ a w,S w→(S w→R a w)→K a w)) (hS:S w) (h:S w→R b w)
  (hb:a=b:=by(try simp only[Act.put,List.setIfInBounds_toArray,List.set_cons_zero,List.set_cons_succ]);try with_reducible rfl):K a w:=by
 subst hb;exact hK.out a w hS h
end
end Go.Proofs.YtoibekfhepnedaaGreat
