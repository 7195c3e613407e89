/- Contract: what a node gives out, by the reference. Regions that draw their order and end in some operations, each behind all others, that store over cells which the region has loaded. No program is named here. -/
import Derived.Test.YtdcofkabaigjpaaGreatQAjEdits
import Derived.Deep.Quiet
import Derived.StillTail
set_option linter.unusedVariables false
set_option linter.unusedSimpArgs false
set_option maxHeartbeats 8000000
set_option maxRecDepth 100000
namespace Go.Proofs.YtdcofkabaigjpaaGreat
section
open Go.RowKit
structure PlayIn (x:xR) (tables:List (List Int)) (ins st:List Int):Prop where
 ok:yCz x (tables.length:Int)
 tabs:vAz tables
 num:ins.length=if x.zD=1 then 1 else (uF x.zD).inputs.toNat
 state:st.length=(wW x).length
 ins_: ∀ y ∈ ins,Smp y
 st_: ∀ y ∈ st,Smp y
theorem wP {w:World} {v:Value} {xs:List Int} (h:RdI w v xs) (hn:0<xs.length): ∃ b off cap,v= .slice (some ⟨b,off,none⟩) xs.length cap∧xs.length≤cap∧cap≤9223372036854775807∧b<w.heap.size∧ ∀ j x,xs[j]?=some x→w.cell? ⟨b,off+j,none⟩=some (.int .i64 x):=by
 obtain⟨A,cap,rfl,h1,h2,hx⟩:=h.open_;obtain⟨b,off,rfl,hb,_⟩:=hx 0 xs[0] (gE hn);refine⟨b,off,cap,rfl,h1,h2,hb,fun j x hj=>?_⟩;obtain⟨b',off',e,_,hc⟩:=hx j x hj;injection e with e;injection e with e1 e2;subst e1 e2;exact hc
theorem lnI1 {l:List Int} (h:l.length=1): ∃ a,l= [a]:=by
 match l,h with
 | [a],_=>exact⟨a,rfl⟩
theorem lnI2 {l:List Int} (h:l.length=2): ∃ a b,l= [a,b]:=by
 match l,h with
 | [a,b],_=>exact⟨a,b,rfl⟩
theorem lnI3 {l:List Int} (h:l.length=3): ∃ a b c,l= [a,b,c]:=by
 match l,h with
 | [a,b,c],_=>exact⟨a,b,c,rfl⟩
theorem wrp_mul_add (a b:Int):wrp (a+wrp b)=wrp (a+b):=wrp_mod (by unfold wrp;omega)
theorem c_l06Out (x:xR) (b o:Nat) (tables:List (List Int)) (ins st:List Int) (tv iv sv:Value) (w:World) (hP:PlayIn x tables ins st) (hT:T.rd w (T.sl 26 1 (tables.map (T.ints 2))) [tv]) (hI:RdI w iv ins) (hS:RdI w sv st) (h:T.at w x.fs b o):Calls Tryz.prog 173 #[.pointer (some ⟨b,o,none⟩),tv,iv,sv] w fun e w'=>e= .returned (.int .i64 (uB x tables ins st))∧Below w.heap.size w w':=by
 have HAT:=xN h;obtain⟨hlt0,cs,hr,hc⟩:=h;obtain⟨v3,rfl,h3⟩:=xR.yT hr;clear hr;obtain⟨va3,vc3,rfl,vl3,vm3,R3,HX3⟩:=oI h3;clear h3;have HL:=xN hlt0;have HCC:=xN hc;have HB0:=xN (Below.refl w.heap.size w);clear hlt0 hc;have HP:=xN hP;have HT:=xN hT;have HI:=xN hI;have HS:=xN hS;have hk:=xK.1 hP.ok.kind;have h17:x.zD=1∨x.zD=2∨x.zD=3∨x.zD=4∨x.zD=5∨x.zD=6∨x.zD=7∨x.zD=8∨x.zD=9∨x.zD=10∨x.zD=11∨x.zD=12∨x.zD=13∨x.zD=14∨x.zD=15∨x.zD=16∨x.zD=17:=by omega
 have ha:=hP.ok.a;have hb:=hP.ok.b;have htb:=hP.ok.table;have HA0:=xN ha;have HB0_:=xN hb;have HTB:=xN htb;clear hP hT hI hS hk ha hb htb;obtain⟨p0,p1,p2,p3⟩:=pc4 HB0.o HL.o HCC.o;have lb:b<w.heap.size:=zW HL.o HB0.o.size
 rcases h17 with e|e|e|e|e|e|e|e|e|e|e|e|e|e|e|e|e
 ·
  have hnum:=HP.o.num;have hst:=HP.o.state;have hia:=HP.o.ins_;have hsa:=HP.o.st_;rw[e] at hnum;replace hnum:ins.length=1:=by rw[hnum];rfl
  obtain⟨i0,rfl⟩:=lnI1 hnum;obtain⟨bi,oi,ci,rfl,li,mi,lbi,hci⟩:=wP HI.o (by simp);have c0:=hci 0 i0 rfl;rw[Nat.add_zero] at c0;clear hci;have hs0:Smp i0:=hia i0 (by simp);simp only[List.length_cons,List.length_nil] at li;obtain⟨SA,cs_,rfl,ls,ms,_⟩:=HS.o.open_;clear hnum hst hia hsa;have HE:=xN (show uB x tables [i0] st=i0 by unfold uB;simp only[e];rfl);rw[e] at p0;generalize hO:uB x tables [i0] st=OO at *;clear e hO
  go_enter Tryz.func173,Tryz.ntmps173
  go_wp2;go_ret
  exact⟨vN (by rw[HE.o]),HB0.o⟩
 ·
  have hnum:=HP.o.num;have hst:=HP.o.state;have hia:=HP.o.ins_;have hsa:=HP.o.st_;rw[e] at hnum;replace hnum:ins.length=0:=by rw[hnum];rfl
  obtain rfl:ins= []:=List.eq_nil_of_length_eq_zero hnum;obtain⟨IA,ci,rfl,li,mi,_⟩:=HI.o.open_;obtain⟨SA,cs_,rfl,ls,ms,_⟩:=HS.o.open_;clear hnum hst hia hsa;have HE:=xN (show uB x tables [] st=x.fA by unfold uB;simp only[e];rfl);rw[e] at p0;generalize hO:uB x tables [] st=OO at *;clear e hO
  go_enter Tryz.func173,Tryz.ntmps173
  go_wp2;go_ret
  exact⟨vN (by rw[HE.o]),HB0.o⟩
 ·
  have hnum:=HP.o.num;have hst:=HP.o.state;have hia:=HP.o.ins_;have hsa:=HP.o.st_;rw[e] at hnum;replace hnum:ins.length=2:=by rw[hnum];rfl
  obtain⟨i0,i1,rfl⟩:=lnI2 hnum;obtain⟨bi,oi,ci,rfl,li,mi,lbi,hci⟩:=wP HI.o (by simp);have c0:=hci 0 i0 rfl;have c1:=hci 1 i1 rfl;rw[Nat.add_zero] at c0;clear hci;have hs0:Smp i0:=hia i0 (by simp);have hs1:Smp i1:=hia i1 (by simp);simp only[List.length_cons,List.length_nil] at li;obtain⟨SA,cs_,rfl,ls,ms,_⟩:=HS.o.open_;clear hnum hst hia hsa;have HE:=xN (show uB x tables [i0,i1] st=wrp (i0+i1) by unfold uB;simp only[e];rfl);rw[e] at p0;generalize hO:uB x tables [i0,i1] st=OO at *;clear e hO
  go_enter Tryz.func173,Tryz.ntmps173
  go_wp2;have g0:=yK c0;have g1:=yK c1;refine rB ?_
  repeat(first|go_big_quiet_skip|(go_big_quiet_want;go_big_quiet_op;first|go_big_quiet_on|(apply Exists.intro;refine⟨fun _=>?_,?_⟩;(· (first|(go_at_call 142;exact Calls.yP (c_mAdd _ _ _ hs0 hs1))));go_big_quiet_on)))
  refine wpQuiet_nil ?_;rintro w9 ⟨uu,rfl⟩;have hb9:=yM w uu;generalize bel w uu=w9 at *;have HB9:=xN (yO HB0.o HB0.o.size hb9);clear g0 g1;go_wp2;go_ret
  exact⟨vN (by rw[HE.o]),HB9.o⟩
 ·
  have hnum:=HP.o.num;have hst:=HP.o.state;have hia:=HP.o.ins_;have hsa:=HP.o.st_;rw[e] at hnum;replace hnum:ins.length=2:=by rw[hnum];rfl
  obtain⟨i0,i1,rfl⟩:=lnI2 hnum;obtain⟨bi,oi,ci,rfl,li,mi,lbi,hci⟩:=wP HI.o (by simp);have c0:=hci 0 i0 rfl;have c1:=hci 1 i1 rfl;rw[Nat.add_zero] at c0;clear hci;have hs0:Smp i0:=hia i0 (by simp);have hs1:Smp i1:=hia i1 (by simp);simp only[List.length_cons,List.length_nil] at li;obtain⟨SA,cs_,rfl,ls,ms,_⟩:=HS.o.open_;clear hnum hst hia hsa;have HE:=xN (show uB x tables [i0,i1] st=wrp (i0 - i1) by unfold uB;simp only[e];rfl);rw[e] at p0;generalize hO:uB x tables [i0,i1] st=OO at *;clear e hO
  go_enter Tryz.func173,Tryz.ntmps173
  go_wp2;have g0:=yK c0;have g1:=yK c1;refine rB ?_
  repeat(first|go_big_quiet_skip|(go_big_quiet_want;go_big_quiet_op;first|go_big_quiet_on|(apply Exists.intro;refine⟨fun _=>?_,?_⟩;(· (first|(go_at_call 176;exact Calls.yP (c_l01Sub _ _ _))));go_big_quiet_on)))
  refine wpQuiet_nil ?_;rintro w9 ⟨uu,rfl⟩;have hb9:=yM w uu;generalize bel w uu=w9 at *;have HB9:=xN (yO HB0.o HB0.o.size hb9);clear g0 g1;go_wp2;go_ret
  exact⟨vN (by rw[HE.o]),HB9.o⟩
 ·
  have hA:Smp x.fA:=by have h:=HA0.o;rw[e] at h;exact xK.1 h
  have hnum:=HP.o.num;have hst:=HP.o.state;have hia:=HP.o.ins_;have hsa:=HP.o.st_;rw[e] at hnum;replace hnum:ins.length=1:=by rw[hnum];rfl
  obtain⟨i0,rfl⟩:=lnI1 hnum;obtain⟨bi,oi,ci,rfl,li,mi,lbi,hci⟩:=wP HI.o (by simp);have c0:=hci 0 i0 rfl;rw[Nat.add_zero] at c0;clear hci;have hs0:Smp i0:=hia i0 (by simp);simp only[List.length_cons,List.length_nil] at li;obtain⟨SA,cs_,rfl,ls,ms,_⟩:=HS.o.open_;clear hnum hst hia hsa;have HE:=xN (show uB x tables [i0] st=wrp (x.fA * i0) by unfold uB;simp only[e];rfl);rw[e] at p0;generalize hO:uB x tables [i0] st=OO at *;clear e hO
  go_enter Tryz.func173,Tryz.ntmps173
  go_wp2;have g0:=yK p1;have g1:=yK c0;refine rB ?_
  repeat(first|go_big_quiet_skip|(go_big_quiet_want;go_big_quiet_op;first|go_big_quiet_on|(apply Exists.intro;refine⟨fun _=>?_,?_⟩;(· (first|(go_at_call 143;exact Calls.yP (zBy _ _ _ hA hs0))));go_big_quiet_on)))
  refine wpQuiet_nil ?_;rintro w9 ⟨uu,rfl⟩;have hb9:=yM w uu;generalize bel w uu=w9 at *;have HB9:=xN (yO HB0.o HB0.o.size hb9);clear g0 g1;go_wp2;go_ret
  exact⟨vN (by rw[HE.o]),HB9.o⟩
 ·
  have HA:=xN (show 1≤x.fA∧x.fA≤16 by have h:=HA0.o;rw[e] at h;exact xK.1 h);have hnum:=HP.o.num;have hst:=HP.o.state;have hia:=HP.o.ins_;have hsa:=HP.o.st_;rw[e] at hnum;replace hnum:ins.length=1:=by rw[hnum];rfl
  obtain⟨i0,rfl⟩:=lnI1 hnum;obtain⟨IA,ci,rfl,li,mi,_⟩:=HI.o.open_;have hs0:Smp i0:=hia i0 (by simp);simp only[List.length_cons,List.length_nil] at li;have hst0:0<st.length:=by rw[hst];unfold wW;simp only[e];simp;have:=HA.o;omega
  obtain⟨bs,os,cs_,rfl,ls,ms,lbs,hcs_⟩:=wP HS.o hst0;have hgs:=gE hst0;have s0:=hcs_ 0 _ hgs;rw[Nat.add_zero] at s0;have hss:Smp st[0]:=hsa _ (List.getElem_mem hst0);have HSD:=xN (show st.getD 0 0=st[0] by rw[List.getD_eq_getElem?_getD,hgs];rfl);generalize st[0]=y0 at *;clear hcs_ hgs;clear hnum hst hia hsa;have HE:=xN (show uB x tables [i0] st=y0 by unfold uB;simp only[e];rw[HSD.o];rfl);rw[e] at p0;generalize hO:uB x tables [i0] st=OO at *;clear e hO
  go_enter Tryz.func173,Tryz.ntmps173
  go_wp2;go_ret
  exact⟨vN (by rw[HE.o]),HB0.o⟩
 ·
  have hnum:=HP.o.num;have hst:=HP.o.state;have hia:=HP.o.ins_;have hsa:=HP.o.st_;rw[e] at hnum;replace hnum:ins.length=1:=by rw[hnum];rfl
  obtain⟨i0,rfl⟩:=lnI1 hnum;obtain⟨bi,oi,ci,rfl,li,mi,lbi,hci⟩:=wP HI.o (by simp);have c0:=hci 0 i0 rfl;rw[Nat.add_zero] at c0;clear hci;have hs0:Smp i0:=hia i0 (by simp);simp only[List.length_cons,List.length_nil] at li;have hst0:0<st.length:=by rw[hst];unfold wW;simp only[e];simp
  obtain⟨bs,os,cs_,rfl,ls,ms,lbs,hcs_⟩:=wP HS.o hst0;have hgs:=gE hst0;have s0:=hcs_ 0 _ hgs;rw[Nat.add_zero] at s0;have hss:Smp st[0]:=hsa _ (List.getElem_mem hst0);have HSD:=xN (show st.getD 0 0=st[0] by rw[List.getD_eq_getElem?_getD,hgs];rfl);generalize st[0]=y0 at *;clear hcs_ hgs;clear hnum hst hia hsa;have HE:=xN (show uB x tables [i0] st=wrp (y0+i0) by unfold uB;simp only[e];rw[HSD.o];rfl);rw[e] at p0;generalize hO:uB x tables [i0] st=OO at *;clear e hO
  go_enter Tryz.func173,Tryz.ntmps173
  go_wp2;have g0:=yK s0;have g1:=yK c0;refine rB ?_
  repeat(first|go_big_quiet_skip|(go_big_quiet_want;go_big_quiet_op;first|go_big_quiet_on|(apply Exists.intro;refine⟨fun _=>?_,?_⟩;(· (first|(go_at_call 142;exact Calls.yP (c_mAdd _ _ _ hss hs0))));go_big_quiet_on)))
  refine wpQuiet_nil ?_;rintro w9 ⟨uu,rfl⟩;have hb9:=yM w uu;generalize bel w uu=w9 at *;have HB9:=xN (yO HB0.o HB0.o.size hb9);clear g0 g1;go_wp2;go_ret
  exact⟨vN (by rw[HE.o]),HB9.o⟩
 ·
  have hnum:=HP.o.num;have hst:=HP.o.state;have hia:=HP.o.ins_;have hsa:=HP.o.st_;rw[e] at hnum;replace hnum:ins.length=1:=by rw[hnum];rfl
  obtain⟨i0,rfl⟩:=lnI1 hnum;obtain⟨bi,oi,ci,rfl,li,mi,lbi,hci⟩:=wP HI.o (by simp);have c0:=hci 0 i0 rfl;rw[Nat.add_zero] at c0;clear hci;have hs0:Smp i0:=hia i0 (by simp);simp only[List.length_cons,List.length_nil] at li;have hst0:0<st.length:=by rw[hst];unfold wW;simp only[e];simp
  obtain⟨bs,os,cs_,rfl,ls,ms,lbs,hcs_⟩:=wP HS.o hst0;have hgs:=gE hst0;have s0:=hcs_ 0 _ hgs;rw[Nat.add_zero] at s0;have hss:Smp st[0]:=hsa _ (List.getElem_mem hst0);have HSD:=xN (show st.getD 0 0=st[0] by rw[List.getD_eq_getElem?_getD,hgs];rfl);generalize st[0]=y0 at *;clear hcs_ hgs;clear hnum hst hia hsa;have HE:=xN (show uB x tables [i0] st=wrp (i0 - y0) by unfold uB;simp only[e];rw[HSD.o];rfl);rw[e] at p0;generalize hO:uB x tables [i0] st=OO at *;clear e hO
  go_enter Tryz.func173,Tryz.ntmps173
  go_wp2;have g0:=yK s0;have g1:=yK c0;refine rB ?_
  repeat(first|go_big_quiet_skip|(go_big_quiet_want;go_big_quiet_op;first|go_big_quiet_on|(apply Exists.intro;refine⟨fun _=>?_,?_⟩;(· (first|(go_at_call 176;exact Calls.yP (c_l01Sub _ _ _))));go_big_quiet_on)))
  refine wpQuiet_nil ?_;rintro w9 ⟨uu,rfl⟩;have hb9:=yM w uu;generalize bel w uu=w9 at *;have HB9:=xN (yO HB0.o HB0.o.size hb9);clear g0 g1;go_wp2;go_ret
  exact⟨vN (by rw[HE.o]),HB9.o⟩
 ·
  have hnum:=HP.o.num;have hst:=HP.o.state;have hia:=HP.o.ins_;have hsa:=HP.o.st_;rw[e] at hnum;replace hnum:ins.length=2:=by rw[hnum];rfl
  obtain⟨i0,i1,rfl⟩:=lnI2 hnum;obtain⟨bi,oi,ci,rfl,li,mi,lbi,hci⟩:=wP HI.o (by simp);have c0:=hci 0 i0 rfl;have c1:=hci 1 i1 rfl;rw[Nat.add_zero] at c0;clear hci;have hs0:Smp i0:=hia i0 (by simp);have hs1:Smp i1:=hia i1 (by simp);simp only[List.length_cons,List.length_nil] at li;obtain⟨SA,cs_,rfl,ls,ms,_⟩:=HS.o.open_;clear hnum hst hia hsa;have HE:=xN (show uB x tables [i0,i1] st=wrp (i0 * i1) by unfold uB;simp only[e];rfl);rw[e] at p0;generalize hO:uB x tables [i0,i1] st=OO at *;clear e hO
  go_enter Tryz.func173,Tryz.ntmps173
  go_wp2;have g0:=yK c0;have g1:=yK c1;refine rB ?_
  repeat(first|go_big_quiet_skip|(go_big_quiet_want;go_big_quiet_op;first|go_big_quiet_on|(apply Exists.intro;refine⟨fun _=>?_,?_⟩;(· (first|(go_at_call 143;exact Calls.yP (zBy _ _ _ hs0 hs1))));go_big_quiet_on)))
  refine wpQuiet_nil ?_;rintro w9 ⟨uu,rfl⟩;have hb9:=yM w uu;generalize bel w uu=w9 at *;have HB9:=xN (yO HB0.o HB0.o.size hb9);clear g0 g1;go_wp2;go_ret
  exact⟨vN (by rw[HE.o]),HB9.o⟩
 ·
  have hA:0≤x.fA∧x.fA≤31:=by have h:=HA0.o;rw[e] at h;exact xK.1 h
  have hnum:=HP.o.num;have hst:=HP.o.state;have hia:=HP.o.ins_;have hsa:=HP.o.st_;rw[e] at hnum;replace hnum:ins.length=1:=by rw[hnum];rfl
  obtain⟨i0,rfl⟩:=lnI1 hnum;obtain⟨bi,oi,ci,rfl,li,mi,lbi,hci⟩:=wP HI.o (by simp);have c0:=hci 0 i0 rfl;rw[Nat.add_zero] at c0;clear hci;have hs0:Smp i0:=hia i0 (by simp);simp only[List.length_cons,List.length_nil] at li;obtain⟨SA,cs_,rfl,ls,ms,_⟩:=HS.o.open_;clear hnum hst hia hsa;have HE:=xN (show uB x tables [i0] st=i0 / ((2 ^ x.fA.toNat:Nat):Int) by unfold uB;simp only[e];rfl);rw[e] at p0;generalize hO:uB x tables [i0] st=OO at *;clear e hO
  go_enter Tryz.func173,Tryz.ntmps173
  go_wp2;have g0:=yK c0;have g1:=yK p1;refine rB ?_
  repeat(first|go_big_quiet_skip|(go_big_quiet_want;go_big_quiet_op;go_big_quiet_on))
  refine wpQuiet_nil ?_;rintro w9 ⟨uu,rfl⟩;have hb9:=yM w uu;generalize bel w uu=w9 at *;have HB9:=xN (yO HB0.o HB0.o.size hb9);clear g0 g1;go_wp2;go_ret
  exact⟨vN (by rw[HE.o];simp),HB9.o⟩
 ·
  have hA:0≤x.fA∧x.fA≤2147483647:=by have h:=HA0.o;rw[e] at h;exact xK.1 h
  have hnum:=HP.o.num;have hst:=HP.o.state;have hia:=HP.o.ins_;have hsa:=HP.o.st_;rw[e] at hnum;replace hnum:ins.length=1:=by rw[hnum];rfl
  obtain⟨i0,rfl⟩:=lnI1 hnum;obtain⟨bi,oi,ci,rfl,li,mi,lbi,hci⟩:=wP HI.o (by simp);have c0:=hci 0 i0 rfl;rw[Nat.add_zero] at c0;clear hci;have hs0:Smp i0:=hia i0 (by simp);simp only[List.length_cons,List.length_nil] at li;obtain⟨SA,cs_,rfl,ls,ms,_⟩:=HS.o.open_;clear hnum hst hia hsa;have HE:=xN (show uB x tables [i0] st=max (-x.fA) (min x.fA i0) by unfold uB;simp only[e];rfl);rw[e] at p0;generalize hO:uB x tables [i0] st=OO at *;clear e hO
  go_enter Tryz.func173,Tryz.ntmps173
  have hwA:IntKind.i64.wrap (-x.fA)= -x.fA:=IntWalk.i64_in _ zM;go_wp2;have g0:=yK c0;have g1:=yK p1;refine rB ?_
  repeat(first|go_big_quiet_skip|(go_big_quiet_want;go_big_quiet_op;first|go_big_quiet_on|(apply Exists.intro;refine⟨fun _=>?_,?_⟩;(· (first|(go_at_call 172;exact Calls.yP (c_qMin _ _ _))|(go_at_call 116;exact Calls.yP (c_qMax _ _ _))));go_big_quiet_on)))
  refine wpQuiet_nil ?_;rintro w9 ⟨uu,rfl⟩;have hb9:=yM w uu;generalize bel w uu=w9 at *;have HB9:=xN (yO HB0.o HB0.o.size hb9);clear g0 g1;go_wp2;go_ret
  exact⟨vN (by rw[HE.o,Int.min_comm]),HB9.o⟩
 ·
  have hnum:=HP.o.num;have hst:=HP.o.state;have hia:=HP.o.ins_;have hsa:=HP.o.st_;rw[e] at hnum;replace hnum:ins.length=1:=by rw[hnum];rfl
  obtain⟨i0,rfl⟩:=lnI1 hnum;obtain⟨IA,ci,rfl,li,mi,_⟩:=HI.o.open_;have hs0:Smp i0:=hia i0 (by simp);simp only[List.length_cons,List.length_nil] at li;have hst0:0<st.length:=by rw[hst];unfold wW;simp only[e];simp
  obtain⟨bs,os,cs_,rfl,ls,ms,lbs,hcs_⟩:=wP HS.o hst0;have hgs:=gE hst0;have s0:=hcs_ 0 _ hgs;rw[Nat.add_zero] at s0;have hss:Smp st[0]:=hsa _ (List.getElem_mem hst0);have HSD:=xN (show st.getD 0 0=st[0] by rw[List.getD_eq_getElem?_getD,hgs];rfl);generalize st[0]=y0 at *;clear hcs_ hgs;clear hnum hst hia hsa;have HE:=xN (show uB x tables [i0] st=y0 by unfold uB;simp only[e];rw[HSD.o];rfl);rw[e] at p0;generalize hO:uB x tables [i0] st=OO at *;clear e hO
  go_enter Tryz.func173,Tryz.ntmps173
  go_wp2;go_ret
  exact⟨vN (by rw[HE.o]),HB0.o⟩
 ·
  have hA:0≤x.fA∧x.fA≤3:=by have h:=HA0.o;rw[e] at h;exact xK.1 h
  have hAt:x.fA<(tables.length:Int):=HTB.o e;have hnum:=HP.o.num;have hst:=HP.o.state;have hia:=HP.o.ins_;have hsa:=HP.o.st_;rw[e] at hnum;replace hnum:ins.length=1:=by rw[hnum];rfl
  obtain⟨i0,rfl⟩:=lnI1 hnum;obtain⟨bi,oi,ci,rfl,li,mi,lbi,hci⟩:=wP HI.o (by simp);have c0:=hci 0 i0 rfl;rw[Nat.add_zero] at c0;clear hci;have hs0:Smp i0:=hia i0 (by simp);simp only[List.length_cons,List.length_nil] at li;obtain⟨SA,cs_,rfl,ls,ms,_⟩:=HS.o.open_;clear hnum hst hia hsa;have hj:x.fA.toNat<tables.length:=by omega
  obtain⟨TA,tc,rfl,tl,tm,hx⟩:=T.yS HT.o;have hgt:=gE hj;obtain⟨bt,ot,ct,rfl,lbt,hct,hcell⟩:=hx x.fA.toNat _ hgt;have htl:=(HP.o.tabs.each x.fA.toNat _ hgt).1;have HTD:=xN (show tables.getD x.fA.toNat []=tables[x.fA.toNat] by rw[List.getD_eq_getElem?_getD,hgt];rfl);generalize tables[x.fA.toNat]=t at *;obtain⟨u3,rfl⟩:=T.rd_one hct;have d0:=hcell 0 u3 rfl;rw[Nat.mul_one,Nat.add_zero] at d0;have RT:=xN (T.xB.1 hct);clear hct hcell hx hgt;obtain⟨A3,c3,rfl,l3,m3,x3⟩:=RT.o.open_;clear x3;have HE:=xN (show uB x tables [i0] st=lookF (tables.getD x.fA.toNat []) i0 by unfold uB;simp only[e];rfl);rw[e] at p0;generalize hO:uB x tables [i0] st=OO at *;clear e hO
  go_enter Tryz.func173,Tryz.ntmps173
  go_wp2;have g0:=yK c0;have g1:=yK p1;have g2:=yK d0;refine rB ?_
  repeat(first|go_big_quiet_skip|(go_big_quiet_want;go_big_quiet_op;first|go_big_quiet_on|(apply Exists.intro;refine⟨fun _=>?_,?_⟩;(· (first|(go_at_call 177;exact Calls.yP (c_l06Look _ t _ _ (Rd.below RT.o (yM w _)) zM zM))));go_big_quiet_on)))
  refine wpQuiet_nil ?_;rintro w9 ⟨uu,rfl⟩;have hb9:=yM w uu;generalize bel w uu=w9 at *;have HB9:=xN (yO HB0.o HB0.o.size hb9);clear g0 g1 g2;go_wp2;go_ret
  exact⟨vN (by rw[HE.o,HTD.o]),HB9.o⟩
 ·
  have hnum:=HP.o.num;have hst:=HP.o.state;have hia:=HP.o.ins_;have hsa:=HP.o.st_;rw[e] at hnum;replace hnum:ins.length=0:=by rw[hnum];rfl
  obtain rfl:ins= []:=List.eq_nil_of_length_eq_zero hnum;obtain⟨IA,ci,rfl,li,mi,_⟩:=HI.o.open_;have hst0:0<st.length:=by rw[hst];unfold wW;simp only[e];simp
  obtain⟨bs,os,cs_,rfl,ls,ms,lbs,hcs_⟩:=wP HS.o hst0;have hgs:=gE hst0;have s0:=hcs_ 0 _ hgs;rw[Nat.add_zero] at s0;have hss:Smp st[0]:=hsa _ (List.getElem_mem hst0);have HSD:=xN (show st.getD 0 0=st[0] by rw[List.getD_eq_getElem?_getD,hgs];rfl);generalize st[0]=y0 at *;clear hcs_ hgs;clear hnum hst hia hsa;have HE:=xN (show uB x tables [] st=y0 by unfold uB;simp only[e];rw[HSD.o];rfl);rw[e] at p0;generalize hO:uB x tables [] st=OO at *;clear e hO
  go_enter Tryz.func173,Tryz.ntmps173
  go_wp2;go_ret
  exact⟨vN (by rw[HE.o]),HB0.o⟩
 ·
  have hnum:=HP.o.num;have hst:=HP.o.state;have hia:=HP.o.ins_;have hsa:=HP.o.st_;rw[e] at hnum;replace hnum:ins.length=3:=by rw[hnum];rfl
  obtain⟨i0,i1,i2,rfl⟩:=lnI3 hnum;obtain⟨bi,oi,ci,rfl,li,mi,lbi,hci⟩:=wP HI.o (by simp);have c0:=hci 0 i0 rfl;have c1:=hci 1 i1 rfl;have c2:=hci 2 i2 rfl;rw[Nat.add_zero] at c0;clear hci;have hs0:Smp i0:=hia i0 (by simp);have hs1:Smp i1:=hia i1 (by simp);have hs2:Smp i2:=hia i2 (by simp);simp only[List.length_cons,List.length_nil] at li;obtain⟨SA,cs_,rfl,ls,ms,_⟩:=HS.o.open_;clear hnum hst hia hsa;rw[e] at p0;generalize hO:uB x tables [i0,i1,i2] st=OO at *;have HK_:=xN e;clear e;by_cases hc:0≤i0
  ·
   have HE:=xN (show OO=i1 by rw[←hO];unfold uB;simp only[HK_.o];simp[hc]);clear hO;have q1:decide (0≤i0)=true:=decide_eq_true hc
   go_enter Tryz.func173,Tryz.ntmps173
   go_wp2;go_ret
   exact⟨vN (by rw[HE.o]),HB0.o⟩
  ·
   have HE:=xN (show OO=i2 by rw[←hO];unfold uB;simp only[HK_.o];simp[hc]);clear hO;have q1:decide (0≤i0)=false:=decide_eq_false hc
   go_enter Tryz.func173,Tryz.ntmps173
   go_wp2;go_ret
   exact⟨vN (by rw[HE.o]),HB0.o⟩
 ·
  have hnum:=HP.o.num;have hst:=HP.o.state;have hia:=HP.o.ins_;have hsa:=HP.o.st_;rw[e] at hnum;replace hnum:ins.length=2:=by rw[hnum];rfl
  obtain⟨i0,i1,rfl⟩:=lnI2 hnum;obtain⟨bi,oi,ci,rfl,li,mi,lbi,hci⟩:=wP HI.o (by simp);have c0:=hci 0 i0 rfl;have c1:=hci 1 i1 rfl;rw[Nat.add_zero] at c0;clear hci;have hs0:Smp i0:=hia i0 (by simp);have hs1:Smp i1:=hia i1 (by simp);simp only[List.length_cons,List.length_nil] at li;have hst0:0<st.length:=by rw[hst];unfold wW;simp only[e];simp
  obtain⟨bs,os,cs_,rfl,ls,ms,lbs,hcs_⟩:=wP HS.o hst0;have hgs:=gE hst0;have s0:=hcs_ 0 _ hgs;rw[Nat.add_zero] at s0;have hss:Smp st[0]:=hsa _ (List.getElem_mem hst0);have HSD:=xN (show st.getD 0 0=st[0] by rw[List.getD_eq_getElem?_getD,hgs];rfl);generalize st[0]=y0 at *;clear hcs_ hgs;clear hnum hst hia hsa;rw[e] at p0;generalize hO:uB x tables [i0,i1] st=OO at *;have HK_:=xN e;clear e;by_cases hc:0<i1
  ·
   have HE:=xN (show OO=i0 by rw[←hO];unfold uB;simp only[HK_.o];simp[hc]);clear hO;have q1:decide (0<i1)=true:=decide_eq_true hc
   go_enter Tryz.func173,Tryz.ntmps173
   go_wp2;go_ret
   exact⟨vN (by rw[HE.o]),HB0.o⟩
  ·
   have HE:=xN (show OO=y0 by rw[←hO];unfold uB;simp only[HK_.o];have hgd:=HSD.o;rw[List.getD_eq_getElem?_getD] at hgd;simp[hc,hgd]);clear hO;have q1:decide (0<i1)=false:=decide_eq_false hc
   go_enter Tryz.func173,Tryz.ntmps173
   go_wp2;go_ret
   exact⟨vN (by rw[HE.o]),HB0.o⟩
 ·
  have hA:Smp x.fA:=by have h:=HA0.o;rw[e] at h;exact xK.1 h
  have HA:=xN (show 1≤x.fB∧x.fB≤16 by have h:=HB0_.o;rw[e] at h;exact xK.1 h);have hnum:=HP.o.num;have hst:=HP.o.state;have hia:=HP.o.ins_;have hsa:=HP.o.st_;rw[e] at hnum;replace hnum:ins.length=1:=by rw[hnum];rfl
  obtain⟨i0,rfl⟩:=lnI1 hnum;obtain⟨bi,oi,ci,rfl,li,mi,lbi,hci⟩:=wP HI.o (by simp);have c0:=hci 0 i0 rfl;rw[Nat.add_zero] at c0;clear hci;have hs0:Smp i0:=hia i0 (by simp);simp only[List.length_cons,List.length_nil] at li;have hst0:0<st.length:=by rw[hst];unfold wW;simp only[e];simp;have:=HA.o;omega
  obtain⟨bs,os,cs_,rfl,ls,ms,lbs,hcs_⟩:=wP HS.o hst0;have hgs:=gE hst0;have s0:=hcs_ 0 _ hgs;rw[Nat.add_zero] at s0;have hss:Smp st[0]:=hsa _ (List.getElem_mem hst0);have HSD:=xN (show st.getD 0 0=st[0] by rw[List.getD_eq_getElem?_getD,hgs];rfl);generalize st[0]=y0 at *;clear hcs_ hgs;clear hnum hst hia hsa;have HE:=xN (show uB x tables [i0] st=wrp (i0+x.fA * y0) by unfold uB;simp only[e];rw[HSD.o];rfl);rw[e] at p0;generalize hO:uB x tables [i0] st=OO at *;clear e hO
  go_enter Tryz.func173,Tryz.ntmps173
  go_wp2;have g0:=yK c0;have g1:=yK p1;have g2:=yK s0;refine rB ?_
  repeat(first|go_big_quiet_skip|(go_big_quiet_want;go_big_quiet_op;first|go_big_quiet_on|(apply Exists.intro;refine⟨fun _=>?_,?_⟩;(· (first|(go_at_call 143;exact Calls.yP (zBy _ _ _ hA hss))|(go_at_call 142;exact Calls.yP (c_mAdd _ _ _ hs0 (zRz _)))));go_big_quiet_on)))
  refine wpQuiet_nil ?_;rintro w9 ⟨uu,rfl⟩;have hb9:=yM w uu;generalize bel w uu=w9 at *;have HB9:=xN (yO HB0.o HB0.o.size hb9);clear g0 g1 g2;go_wp2;go_ret
  exact⟨vN (by rw[HE.o];exact wrp_mul_add _ _),HB9.o⟩
end
section
open Go.RowKit
section
variable {P:Program} {ops:Array Oper} {Q:Exit→Act→World→Prop} {md:Region.Mode} {S:World→Prop} {n:List Nat}
def zNz (P:Program) (md:Region.Mode) (ops:Array Oper) (Q:Exit→Act→World→Prop) (S:World→Prop) (n:List Nat):Nat→Array Bool→Act→World→Prop
 |0,listed,a,w=>Region.ready md ops listed= []∧Q .normal a w
 |fuel+1,listed,a,w=>
  (Region.ready md ops listed= []→Q .normal a w)∧
  ∀ i ∈ Region.ready md ops listed,wpOp P ops Q i (fun a' w'=>(i ∈ n∨S w')∧zNz P md ops Q S n fuel (listed.setIfInBounds i true) a' w') a w
theorem wpAny_of_N: ∀ (fuel:Nat) (listed:Array Bool) (a:Act) (w:World),zNz P md ops Q S n fuel listed a w→wpAny P md ops Q fuel listed a w
 |0,_,_,_,h=>h
 |fuel+1,_,_,_,h=>⟨h.1,fun i hi=>wpOp_mono (fun a' w' h'=>wpAny_of_N fuel _ a' w' h'.2) (h.2 i hi)⟩
def closedB (md:Region.Mode) (ops:Array Oper) (listed:Array Bool):Bool:=(List.range ops.size).all fun j=> !(listed.getD j true) || ((ops[j]?).map fun o=>o.after.all fun e=> !(Region.binds md e) || listed.getD e.on true).getD true
def Closed (md:Region.Mode) (ops:Array Oper) (listed:Array Bool):Prop:= ∀ (j:Nat) (o:Oper),ops[j]?=some o→listed.getD j true=true→ ∀ e ∈ o.after,Region.binds md e=true→listed.getD e.on true=true
theorem closed_of {listed:Array Bool} (h:closedB md ops listed=true):Closed md ops listed:=by
 intro j o ho hl e he hb;unfold closedB at h;have hj:j<ops.size:=(Array.getElem?_eq_some_iff.1 ho).1;have h1:=List.all_eq_true.1 h j (List.mem_range.2 hj);rw[hl,ho] at h1;simp only[Bool.not_true,Bool.false_or,Option.map_some,Option.getD_some] at h1;have h2:=(Array.all_eq_true'.1 h1) e he;rw[hb] at h2
 simpa using h2
def yVz (md:Region.Mode) (ops:Array Oper):Nat→Nat→Nat→Bool
 |0,_,_=>false
 |f+1,m,i=>((ops[m]?).map fun o=>o.after.any fun e=>Region.binds md e && (e.on == i || yVz md ops f e.on i)).getD false
theorem zCy {f m i:Nat} (h:yVz md ops (f+1) m i=true): ∃ o,ops[m]?=some o∧ ∃ e ∈ o.after,Region.binds md e=true∧(e.on=i∨yVz md ops f e.on i=true):=by
 unfold yVz at h
 cases ho:ops[m]? with
 |none=>rw[ho] at h;simp at h
 |some o=>
  rw[ho] at h;simp only[Option.map_some,Option.getD_some] at h;obtain⟨e,he,h2⟩:=Array.any_eq_true'.1 h;simp only[Bool.and_eq_true,Bool.or_eq_true,beq_iff_eq] at h2;exact⟨o,rfl,e,he,h2.1,h2.2⟩
theorem waitsT_mono: ∀ (f m i:Nat),yVz md ops f m i=true→yVz md ops (f+1) m i=true
 |0,_,_,h=>by simp[yVz] at h
 |f+1,m,i,h=>by
  obtain⟨o,ho,e,he,hb,h2⟩:=zCy h;unfold yVz;rw[ho];simp only[Option.map_some,Option.getD_some];refine Array.any_eq_true'.2 ⟨e,he,?_⟩;simp only[Bool.and_eq_true,Bool.or_eq_true,beq_iff_eq];exact⟨hb,h2.imp id (fun h3=>waitsT_mono f _ _ h3)⟩
def uIz (md:Region.Mode) (ops:Array Oper) (i:Nat):Nat→List Bool
 |0=> []
 |k+1=>uIz md ops i k++ [((ops[k]?).map fun o=>o.after.any fun e=>Region.binds md e && (e.on == i || (uIz md ops i k).getD e.on false)).getD false]
theorem xAz {i:Nat} : ∀ k,(uIz md ops i k).length=k
 |0=>rfl
 |k+1=>by simp[uIz,xAz k]
theorem zDy {i:Nat} : ∀ (k j:Nat),(uIz md ops i k).getD j false=true→yVz md ops k j i=true
 |0,j,h=>by simp[uIz] at h
 |k+1,j,h=>by
  unfold uIz at h;rw[List.getD_eq_getElem?_getD] at h;by_cases hj:j<k
  ·rw[List.getElem?_append_left (by rw[xAz];exact hj),←List.getD_eq_getElem?_getD] at h
   exact waitsT_mono _ _ _ (zDy k j h)
  ·by_cases e:j=k
   ·subst e
    rw[List.getElem?_append_right (by rw[xAz];exact zJ),xAz,Nat.sub_self] at h;unfold yVz
    cases ho:ops[j]? with
    |none=>rw[ho] at h;simp at h
    |some o=>
     rw[ho] at h;simp only[Option.map_some,Option.getD_some,List.getElem?_cons_zero] at h ⊢;obtain⟨e,he,h2⟩:=Array.any_eq_true'.1 h;refine Array.any_eq_true'.2 ⟨e,he,?_⟩;simp only[Bool.and_eq_true,Bool.or_eq_true,beq_iff_eq] at h2 ⊢;exact⟨h2.1,h2.2.imp id (fun h3=>zDy j _ h3)⟩
   ·rw[List.getElem?_eq_none (by rw[List.length_append,xAz];simp;omega)] at h
    cases h
theorem yCy {listed:Array Bool} (hc:Closed md ops listed): ∀ (f j i:Nat),listed.getD j true=true→yVz md ops f j i=true→listed.getD i true=true
 |0,_,_,_,h=>by simp[yVz] at h
 |f+1,j,i,hl,h=>by
  obtain⟨o,ho,e,he,hb,h2⟩:=zCy h;have h3:=hc j o ho hl e he hb
  rcases h2 with rfl|h2
  ·exact h3
  ·exact yCy hc f e.on i h3 h2
theorem waitsT_ready {listed:Array Bool} (hc:Closed md ops listed) {f j i:Nat} (hr:j ∈ Region.ready md ops listed) (h:yVz md ops f j i=true):listed.getD i true=true:=by
 cases f with
 |zero=>simp[yVz] at h
 |succ f=>
  obtain⟨o,ho,e,he,hb,h2⟩:=zCy h;obtain⟨_,o',ho',hall⟩:=mem_ready.1 hr;obtain rfl:o=o':=Option.some.inj (ho.symm.trans ho');have h1:=hall e he hb
  have h3:listed.getD e.on true=true:=by
   cases hg:listed.getD e.on true with
   |true=>rfl
   |false=>rw[getD_both hg] at h1;cases h1
  rcases h2 with rfl|h2
  ·exact h3
  ·exact yCy hc f e.on i h3 h2
theorem Closed.set_ {listed:Array Bool} (hc:Closed md ops listed) {j:Nat} (hr:j ∈ Region.ready md ops listed):Closed md ops (listed.setIfInBounds j true):=by
 have up: ∀ k,listed.getD k true=true→(listed.setIfInBounds j true).getD k true=true:=fun k hk=>by
  by_cases e:j=k
  ·subst e
   cases hq:(listed.setIfInBounds j true).getD j true with
   |true=>rfl
   |false=>
    have hlt:j<listed.size:=Nat.lt_of_not_le fun hn=>by
     rw[Array.getD_eq_getD_getElem?,Array.getElem?_eq_none (by simpa using hn)] at hq
     cases hq
    rw[Array.getD_eq_getD_getElem?,Array.getElem?_setIfInBounds_self_of_lt hlt] at hq
    cases hq
  ·rw[getD_set_ne true e];exact hk
 intro k o ho hl e he hb;by_cases hk:j=k
 ·subst hk
  obtain⟨_,o',ho',hall⟩:=mem_ready.1 hr;obtain rfl:o=o':=Option.some.inj (ho.symm.trans ho');have h1:=hall e he hb;refine up _ ?_
  cases hg:listed.getD e.on true with
  |true=>rfl
  |false=>rw[getD_both hg] at h1;cases h1
 ·rw[getD_set_ne true hk] at hl
  exact up _ (hc k o ho hl e he hb)
theorem wpAnyN_first {i:Nat} {oi:Oper} {v:Value} (f:Nat) (hn:(n.all fun m=>yVz md ops f m i)=true) (hi:ops[i]?=some oi) (hsel: ∀ (j:Nat) (o:Oper) cs b,ops[j]?=some o→o.op≠ .select cs b)
  (hQ: ∀ c a w,Q (.panic c) (a.put oi.dst v) w→Q (.panic c) a w):
  ∀ (fuel:Nat) (listed:Array Bool) (a:Act) (w:World),
   (∀ j oj,ops[j]?=some oj→j≠i→listed.getD j true=false→(∀ e ∈ oj.after,Region.binds md e=true→e.on≠i)→oi.apart ops oj=true)→
   Closed md ops listed→i ∈ Region.ready md ops listed→YieldsIf P ops S oi v a→S w→
   zNz P md ops Q S n fuel (listed.setIfInBounds i true) (a.put oi.dst v) w→zNz P md ops Q S n (fuel+1) listed a w:=by
 have late: ∀ {listed:Array Bool} {j:Nat},Closed md ops listed→i ∈ Region.ready md ops listed→j ∈ Region.ready md ops listed→j ∉ n:=by
  intro listed j hc hr hj e;have h1:=waitsT_ready hc hj (List.all_eq_true.1 hn j e);rw[(mem_ready.1 hr).1] at h1
  cases h1
 intro fuel
 induction fuel with
 |zero=>
  intro listed a w _ hc hr hy hS H;refine⟨fun h=>(by rw[h] at hr;cases hr),fun j hj=>?_⟩;by_cases hji:j=i
  ·subst hji;exact hy.wpOp hi hS ⟨.inr hS,H⟩
  ·have:=ready_mono hj hji
   rw[H.1] at this
   cases this
 |succ fuel ih=>
  intro listed a w hfree hc hr hy hS H;refine⟨fun h=>(by rw[h] at hr;cases hr),fun j hj=>?_⟩;by_cases hji:j=i
  ·subst hji;exact hy.wpOp hi hS ⟨.inr hS,H⟩
  ·have h1:=H.2 j (ready_mono hj hji)
   obtain⟨hjun,oj,hoj,hall⟩:=mem_ready.1 hj;have hun:=(mem_ready.1 hr).1
   have hnot: ∀ e ∈ oj.after,Region.binds md e=true→e.on≠i:=fun e he hb heq=>by
    have h1:=hall e he hb;rw[heq,getD_both hun] at h1
    cases h1
   have h2:=wpOp_putIf hoj (hfree j oj hoj hji hjun hnot) (fun cs b=>hsel i oi cs b hi) (fun cs b=>hsel j oj cs b hoj) hQ hy h1
   have hfree': ∀ k ok,ops[k]?=some ok→k≠i→(listed.setIfInBounds j true).getD k true=false→
     (∀ e ∈ ok.after,Region.binds md e=true→e.on≠i)→oi.apart ops ok=true:=fun k ok hk hki hun hno=>by
    refine hfree k ok hk hki ?_ hno;by_cases hjk:j=k
    ·subst hjk;exact hjun
    ·rw[getD_set_ne true hjk] at hun;exact hun
   have hjn:=late hc hr hj;refine wpOp_mono (fun a' w' h3=>?_) h2;have hS':S w':=h3.2.1.resolve_left hjn;refine⟨.inr hS',ih (listed.setIfInBounds j true) a' w' hfree' (hc.set_ hj) (ready_mono hr (Ne.symm hji)) h3.1 hS' ?_⟩;rw[Array.setIfInBounds_comm _ _ hji];exact h3.2.2
theorem wpAnyN_take {i:Nat} {oi:Oper} {v:Value} {fuel:Nat} {listed:Array Bool} {a:Act} {w:World} (f:Nat) (hn:(n.all fun m=>yVz md ops f m i)=true) (hcl:closedB md ops listed=true) (hi:ops[i]?=some oi)
  (hs:Region.noSelect ops=true) (hf:Region.free md ops listed i=true) (hr:(Region.ready md ops listed).contains i=true)
  (hQ: ∀ c a w,Q (.panic c) (a.put oi.dst v) w→Q (.panic c) a w) (hS:S w) (hw:Region.wanted oi (yielded ops a.tmps)=true) (hy: ∀ w,S w→(execOp a.eval oi).run P w= .ok (.value v) w)
  (h:zNz P md ops Q S n fuel (listed.setIfInBounds i true) (a.put oi.dst v) w):zNz P md ops Q S n (fuel+1) listed a w:=
 wpAnyN_first f hn hi (Region.noSelect_spec hs) hQ fuel listed a w (Region.free_spec hi hf) (closed_of hcl) (by simpa using hr) (.inl ⟨hw,hy⟩) hS h
theorem wpAnyN_takeL {i:Nat} {oi:Oper} {v:Value} {fuel:Nat} {listed:Array Bool} {a:Act} {w:World} (hn:(n.all fun m=>(uIz md ops i ops.size).getD m false)=true) (hcl:closedB md ops listed=true) (hi:ops[i]?=some oi)
  (hs:Region.noSelect ops=true) (hf:Region.free md ops listed i=true) (hr:(Region.ready md ops listed).contains i=true)
  (hQ: ∀ c a w,Q (.panic c) (a.put oi.dst v) w→Q (.panic c) a w) (hS:S w) (hw:Region.wanted oi (yielded ops a.tmps)=true) (hy: ∀ w,S w→(execOp a.eval oi).run P w= .ok (.value v) w)
  (h:zNz P md ops Q S n fuel (listed.setIfInBounds i true) (a.put oi.dst v) w):zNz P md ops Q S n (fuel+1) listed a w:=
 wpAnyN_take ops.size (List.all_eq_true.2 fun m hm=>zDy _ _ (List.all_eq_true.1 hn m hm)) hcl hi hs hf hr hQ hS hw hy h
theorem wpAnyN_end {fuel:Nat} {listed:Array Bool} {a:Act} {w:World} (hr:Region.ready md ops listed= []) (h:Q .normal a w):zNz P md ops Q S n fuel listed a w:=by
 cases fuel with
 |zero=>exact⟨hr,h⟩
 |succ f=>exact⟨fun _=>h,by rw[hr];simp⟩
theorem wpAnyN_one {i:Nat} {o:Oper} {fuel:Nat} {listed:Array Bool} {a:Act} {w:World} (hr:Region.ready md ops listed= [i]) (ho:ops[i]?=some o)
  (h: ∀ K':Act→World→Prop,Shut (∀ a w,S w→(S w→zNz P md ops Q S n fuel (listed.setIfInBounds i true) a w)→K' a w)→if Region.wanted o (yielded ops a.tmps)=true then Oper.wp P o a w K' Q else K' (a.put o.dst undef) w):
  zNz P md ops Q S n (fuel+1) listed a w:=
 ⟨fun h0=>(by rw[hr] at h0;cases h0),fun j hj=>by
  rw[hr,List.mem_singleton] at hj;subst hj;exact wpOp_step ho (fun K' hK=>h K' (fun a w hS hW=>hK a w ⟨.inr hS,hW hS⟩))⟩
theorem wpAnyN_tail2 {i j:Nat} {o o2:Oper} {fuel:Nat} {listed:Array Bool} {a:Act} {w:World} (hr:Region.ready md ops listed= [i]) (ho:ops[i]?=some o) (hr2:Region.ready md ops (listed.setIfInBounds i true)= [j]) (ho2:ops[j]?=some o2)
  (hr3:Region.ready md ops ((listed.setIfInBounds i true).setIfInBounds j true)= []) (hi:i ∈ n) (hj:j ∈ n) (h:wpList P ops Q [o,o2] a w):zNz P md ops Q S n (fuel+2) listed a w:=
 ⟨fun h0=>(by rw[hr] at h0;cases h0),fun k hk=>by
  rw[hr,List.mem_singleton] at hk;subst hk;have hw:wpOp P ops Q k (wpList P ops Q [o2]) a w:=by unfold wpOp;simp only[ho];exact h
  refine wpOp_mono (fun a' w' h'=>⟨.inl hi,⟨fun h0=>(by rw[hr2] at h0;cases h0),fun k2 hk2=>?_⟩⟩) hw;rw[hr2,List.mem_singleton] at hk2;subst hk2;have hw2:wpOp P ops Q k2 (wpList P ops Q []) a' w':=by unfold wpOp;simp only[ho2];exact h'
  refine wpOp_mono (fun a'' w'' h''=>⟨.inl hj,?_⟩) hw2;have h'':Q .normal a'' w'':=h''
  cases fuel with
  |zero=>exact⟨hr3,h''⟩
  |succ f=>exact⟨fun _=>h'',by rw[hr3];simp⟩⟩
theorem wG {id:Nat} {a:Act} {w:World} (S:World→Prop) (n:List Nat) (hm:P.follows .mixedOrders=true) (hS:S w.drew)
  (h:S w.drew→zNz P .any ops Q S n ops.size (Array.replicate ops.size false) a w.drew):(Code.region id ops true).wp P Q a w:=
 wp_region_any hm (wpAny_of_N _ _ _ _ (h hS))
end
theorem zN {P:Program} {md:Region.Mode} {ops:Array Oper} {Q:Exit→Act→World→Prop} {S:World→Prop} {n:List Nat} (i:Nat) {oi:Oper} {v:Value} {fuel:Nat} {listed:Array Bool} {a b:Act} {w:World} (hS:S w)
  (h:zNz P md ops Q S n fuel (listed.setIfInBounds i true) b w)
  (hi:ops[i]?=some oi:=by rfl)
  (hc:((n.all fun m=>(uIz md ops i ops.size).getD m false) && closedB md ops listed && Region.noSelect ops && Region.free md ops listed i && (Region.ready md ops listed).contains i)=true:=by kernel_rfl)
  (hQ: ∀ c a w,Q (.panic c) (a.put oi.dst v) w→Q (.panic c) a w:=by exact fun _ _ _ h=>h)
  (hw:Region.wanted oi (yielded ops a.tmps)=true:=by rfl)
  (hy: ∀ w,S w→(execOp a.eval oi).run P w= .ok (.value v) w:=by(intro w hSw;(try dsimp only at hSw);first|(go_simp;done)|(go_simp;with_reducible rfl)))
  (hb:a.put oi.dst v=b:=by(simp only[Act.put,List.setIfInBounds_toArray,List.set_cons_zero,List.set_cons_succ];try with_reducible rfl)):zNz P md ops Q S n (fuel+1) listed a w:=by
 subst hb;simp only[Bool.and_eq_true] at hc;obtain⟨⟨⟨⟨h1,h2⟩,h3⟩,h4⟩,h5⟩:=hc;exact wpAnyN_takeL h1 h2 hi h3 h4 h5 hQ hS hw hy h
theorem qN {P:Program} {md:Region.Mode} {ops:Array Oper} {Q:Exit→Act→World→Prop} {S:World→Prop} {n:List Nat} {fuel:Nat} {listed:Array Bool} {a:Act} {w:World} (h:Q .normal a w) (hr:Region.ready md ops listed= []:=by kernel_rfl):zNz P md ops Q S n fuel listed a w:=wpAnyN_end hr h
theorem q2N {P:Program} {md:Region.Mode} {ops:Array Oper} {Q:Exit→Act→World→Prop} {S:World→Prop} {n:List Nat} (i j:Nat) {o o2:Oper} {fuel:Nat} {listed:Array Bool} {a:Act} {w:World} (h:wpList P ops Q [o,o2] a w)
  (hr:Region.ready md ops listed= [i]:=by kernel_rfl) (ho:ops[i]?=some o:=by rfl) (hr2:Region.ready md ops (listed.setIfInBounds i true)= [j]:=by kernel_rfl) (ho2:ops[j]?=some o2:=by rfl)
  (hr3:Region.ready md ops ((listed.setIfInBounds i true).setIfInBounds j true)= []:=by kernel_rfl) (hi:i ∈ n:=by decide) (hj:j ∈ n:=by decide):zNz P md ops Q S n (fuel+2) listed a w:=wpAnyN_tail2 hr ho hr2 ho2 hr3 hi hj h
theorem pN {P:Program} {md:Region.Mode} {ops:Array Oper} {Q:Exit→Act→World→Prop} {S:World→Prop} {n:List Nat} (i:Nat) {o:Oper} {fuel:Nat} {listed:Array Bool} {a:Act} {w:World}
  (h: ∀ K':Act→World→Prop,Shut (∀ a w,S w→(S w→zNz P md ops Q S n fuel (listed.setIfInBounds i true) a w)→K' a w)→if Region.wanted o (yielded ops a.tmps)=true then Oper.wp P o a w K' Q else K' (a.put o.dst undef) w)
  (hr:Region.ready md ops listed= [i]:=by kernel_rfl) (ho:ops[i]?=some o:=by rfl):zNz P md ops Q S n (fuel+1) listed a w:=wpAnyN_one hr ho h
theorem uN {S:World→Prop} {R K:Act→World→Prop} {a b:Act} {w:World} (hK:Shut (∀ a w,S w→(S w→R a w)→K a w)) (hS:S w) (h:S w→R b w)
  (hb:a=b:=by(try simp only[Act.put,List.setIfInBounds_toArray,List.set_cons_zero,List.set_cons_succ]);try with_reducible rfl):K a w:=by
 subst hb;exact hK.out a w hS h
end
end Go.Proofs.YtdcofkabaigjpaaGreat
