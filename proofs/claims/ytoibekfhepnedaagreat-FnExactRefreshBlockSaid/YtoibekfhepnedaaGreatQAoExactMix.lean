/- Contract: what a node gives out, by the reference. Playing a patch stays within samples; states after some nodes. -/
import Derived.Test.YtoibekfhepnedaaGreatQAnExactMix
import Derived.Test.YtoibekfhepnedaaGreatQAcExactMix
set_option linter.unusedVariables false
set_option linter.unusedSimpArgs false
set_option maxHeartbeats 8000000
set_option maxRecDepth 100000
namespace Go.Proofs.YtoibekfhepnedaaGreat
section
open Go.RowKit
structure uRz (x:xR) (tables:List (List Int)) (ins st:List Int):Prop where
 ok:yPz x (tables.length:Int)
 tabs:wMz tables
 num:ins.length=if x.zG=1 then 1 else (uX x.zG).inputs.toNat
 state:st.length=(wO x).length
 ins_: ∀ y ∈ ins,Smp y
 st_: ∀ y ∈ st,Smp y
theorem xY {w:World} {v:Value} {xs:List Int} (h:RdI w v xs) (hn:0<xs.length): ∃ b off cap,v= .slice (some ⟨b,off,none⟩) xs.length cap∧xs.length≤cap∧cap≤9223372036854775807∧b<w.heap.size∧ ∀ j x,xs[j]?=some x→w.cell? ⟨b,off+j,none⟩=some (.int .i64 x):=by
 obtain⟨A,cap,rfl,h1,h2,hx⟩:=h.open_;obtain⟨b,off,rfl,hb,_⟩:=hx 0 xs[0] (gE hn);refine⟨b,off,cap,rfl,h1,h2,hb,fun j x hj=>?_⟩;obtain⟨b',off',e,_,hc⟩:=hx j x hj;injection e with e;injection e with e1 e2;subst e1 e2;exact hc
theorem xEz {l:List Int} (h:l.length=1): ∃ a,l= [a]:=by
 match l,h with
 | [a],_=>exact⟨a,rfl⟩
theorem lnI2 {l:List Int} (h:l.length=2): ∃ a b,l= [a,b]:=by
 match l,h with
 | [a,b],_=>exact⟨a,b,rfl⟩
theorem lnI3 {l:List Int} (h:l.length=3): ∃ a b c,l= [a,b,c]:=by
 match l,h with
 | [a,b,c],_=>exact⟨a,b,c,rfl⟩
theorem wrp_mul_add (a b:Int):wrp (a+wrp b)=wrp (a+b):=wrp_mod (by unfold wrp;omega)
theorem c_l06Out (x:xR) (b o:Nat) (tables:List (List Int)) (ins st:List Int) (tv iv sv:Value) (w:World) (hP:uRz x tables ins st) (hT:T.rd w (T.sl 26 1 (tables.map (T.ints 2))) [tv]) (hI:RdI w iv ins) (hS:RdI w sv st) (h:T.at w x.fs b o):Calls Tryz.prog 283 #[.pointer (some ⟨b,o,none⟩),tv,iv,sv] w fun e w'=>e= .returned (.int .i64 (wK x tables ins st))∧Below w.heap.size w w':=by
 have HAT:=xN h;obtain⟨hlt0,cs,hr,hc⟩:=h;obtain⟨v3,rfl,h3⟩:=xR.yV hr;clear hr;obtain⟨va3,vc3,rfl,vl3,vm3,R3,HX3⟩:=oI h3;clear h3;have HL:=xN hlt0;have HCC:=xN hc;have HB0:=xN (Below.refl w.heap.size w);clear hlt0 hc;have HP:=xN hP;have HT:=xN hT;have HI:=xN hI;have HS:=xN hS;have hk:=xK.1 hP.ok.kind;have h17:x.zG=1∨x.zG=2∨x.zG=3∨x.zG=4∨x.zG=5∨x.zG=6∨x.zG=7∨x.zG=8∨x.zG=9∨x.zG=10∨x.zG=11∨x.zG=12∨x.zG=13∨x.zG=14∨x.zG=15∨x.zG=16∨x.zG=17:=by omega
 have ha:=hP.ok.a;have hb:=hP.ok.b;have htb:=hP.ok.table;have HA0:=xN ha;have HB0_:=xN hb;have HTB:=xN htb;clear hP hT hI hS hk ha hb htb;have p0:w.cell? ⟨b,o,none⟩=some (.int .i64 x.zG):=(HB0.out.cell HL.out).trans (HCC.out 0 _ rfl);have p1:w.cell? ⟨b,o+1,none⟩=some (.int .i64 x.fA):=(HB0.out.cell HL.out).trans (HCC.out 1 _ rfl);have p2:w.cell? ⟨b,o+2,none⟩=some (.int .i64 x.fB):=(HB0.out.cell HL.out).trans (HCC.out 2 _ rfl);have p3:w.cell? ⟨b,o+3,none⟩=some (.slice va3 x.zK.length vc3):=(HB0.out.cell HL.out).trans (HCC.out 3 _ rfl);have lb:b<w.heap.size:=zW HL.out HB0.out.size
 rcases h17 with e|e|e|e|e|e|e|e|e|e|e|e|e|e|e|e|e
 ·
  have hnum:=HP.out.num;have hst:=HP.out.state;have hia:=HP.out.ins_;have hsa:=HP.out.st_;rw[e] at hnum;replace hnum:ins.length=1:=by rw[hnum];rfl
  obtain⟨i0,rfl⟩:=xEz hnum;obtain⟨bi,oi,ci,rfl,li,mi,lbi,hci⟩:=xY HI.out (by simp);have c0:=hci 0 i0 rfl;rw[Nat.add_zero] at c0;clear hci;have hs0:Smp i0:=hia i0 (by simp);simp only[List.length_cons,List.length_nil] at li;obtain⟨SA,cs_,rfl,ls,ms,_⟩:=HS.out.open_;clear hnum hst hia hsa;have HE:=xN (show wK x tables [i0] st=i0 by unfold wK;simp only[e];rfl);rw[e] at p0;generalize hO:wK x tables [i0] st=OO at *;clear e hO
  go_enter Tryz.func283,Tryz.ntmps283
  go_wp2;go_ret
  exact⟨wL (by rw[HE.out]),HB0.out⟩
 ·
  have hnum:=HP.out.num;have hst:=HP.out.state;have hia:=HP.out.ins_;have hsa:=HP.out.st_;rw[e] at hnum;replace hnum:ins.length=0:=by rw[hnum];rfl
  obtain rfl:ins= []:=List.eq_nil_of_length_eq_zero hnum;obtain⟨IA,ci,rfl,li,mi,_⟩:=HI.out.open_;obtain⟨SA,cs_,rfl,ls,ms,_⟩:=HS.out.open_;clear hnum hst hia hsa;have HE:=xN (show wK x tables [] st=x.fA by unfold wK;simp only[e];rfl);rw[e] at p0;generalize hO:wK x tables [] st=OO at *;clear e hO
  go_enter Tryz.func283,Tryz.ntmps283
  go_wp2;go_ret
  exact⟨wL (by rw[HE.out]),HB0.out⟩
 ·
  have hnum:=HP.out.num;have hst:=HP.out.state;have hia:=HP.out.ins_;have hsa:=HP.out.st_;rw[e] at hnum;replace hnum:ins.length=2:=by rw[hnum];rfl
  obtain⟨i0,i1,rfl⟩:=lnI2 hnum;obtain⟨bi,oi,ci,rfl,li,mi,lbi,hci⟩:=xY HI.out (by simp);have c0:=hci 0 i0 rfl;have c1:=hci 1 i1 rfl;rw[Nat.add_zero] at c0;clear hci;have hs0:Smp i0:=hia i0 (by simp);have hs1:Smp i1:=hia i1 (by simp);simp only[List.length_cons,List.length_nil] at li;obtain⟨SA,cs_,rfl,ls,ms,_⟩:=HS.out.open_;clear hnum hst hia hsa;have HE:=xN (show wK x tables [i0,i1] st=wrp (i0+i1) by unfold wK;simp only[e];rfl);rw[e] at p0;generalize hO:wK x tables [i0,i1] st=OO at *;clear e hO
  go_enter Tryz.func283,Tryz.ntmps283
  go_wp2;have g0:=yN c0;have g1:=yN c1;refine rB ?_
  repeat(first|go_big_quiet_skip|(go_big_quiet_want;go_big_quiet_op;first|go_big_quiet_on|(apply Exists.intro;refine⟨fun _=>?_,?_⟩;(· (first|(go_at_call 238;exact Calls.yR (c_mAdd _ _ _ hs0 hs1))));go_big_quiet_on)))
  refine wpQuiet_nil ?_;rintro w9 ⟨uu,rfl⟩;have hb9:=yO w uu;generalize bel w uu=w9 at *;have HB9:=xN (yQ HB0.out HB0.out.size hb9);clear g0 g1;go_wp2;go_ret
  exact⟨wL (by rw[HE.out]),HB9.out⟩
 ·
  have hnum:=HP.out.num;have hst:=HP.out.state;have hia:=HP.out.ins_;have hsa:=HP.out.st_;rw[e] at hnum;replace hnum:ins.length=2:=by rw[hnum];rfl
  obtain⟨i0,i1,rfl⟩:=lnI2 hnum;obtain⟨bi,oi,ci,rfl,li,mi,lbi,hci⟩:=xY HI.out (by simp);have c0:=hci 0 i0 rfl;have c1:=hci 1 i1 rfl;rw[Nat.add_zero] at c0;clear hci;have hs0:Smp i0:=hia i0 (by simp);have hs1:Smp i1:=hia i1 (by simp);simp only[List.length_cons,List.length_nil] at li;obtain⟨SA,cs_,rfl,ls,ms,_⟩:=HS.out.open_;clear hnum hst hia hsa;have HE:=xN (show wK x tables [i0,i1] st=wrp (i0 - i1) by unfold wK;simp only[e];rfl);rw[e] at p0;generalize hO:wK x tables [i0,i1] st=OO at *;clear e hO
  go_enter Tryz.func283,Tryz.ntmps283
  go_wp2;have g0:=yN c0;have g1:=yN c1;refine rB ?_
  repeat(first|go_big_quiet_skip|(go_big_quiet_want;go_big_quiet_op;first|go_big_quiet_on|(apply Exists.intro;refine⟨fun _=>?_,?_⟩;(· (first|(go_at_call 289;exact Calls.yR (c_l01Sub _ _ _))));go_big_quiet_on)))
  refine wpQuiet_nil ?_;rintro w9 ⟨uu,rfl⟩;have hb9:=yO w uu;generalize bel w uu=w9 at *;have HB9:=xN (yQ HB0.out HB0.out.size hb9);clear g0 g1;go_wp2;go_ret
  exact⟨wL (by rw[HE.out]),HB9.out⟩
 ·
  have hA:Smp x.fA:=by have h:=HA0.out;rw[e] at h;exact xK.1 h
  have hnum:=HP.out.num;have hst:=HP.out.state;have hia:=HP.out.ins_;have hsa:=HP.out.st_;rw[e] at hnum;replace hnum:ins.length=1:=by rw[hnum];rfl
  obtain⟨i0,rfl⟩:=xEz hnum;obtain⟨bi,oi,ci,rfl,li,mi,lbi,hci⟩:=xY HI.out (by simp);have c0:=hci 0 i0 rfl;rw[Nat.add_zero] at c0;clear hci;have hs0:Smp i0:=hia i0 (by simp);simp only[List.length_cons,List.length_nil] at li;obtain⟨SA,cs_,rfl,ls,ms,_⟩:=HS.out.open_;clear hnum hst hia hsa;have HE:=xN (show wK x tables [i0] st=wrp (x.fA * i0) by unfold wK;simp only[e];rfl);rw[e] at p0;generalize hO:wK x tables [i0] st=OO at *;clear e hO
  go_enter Tryz.func283,Tryz.ntmps283
  go_wp2;have g0:=yN p1;have g1:=yN c0;refine rB ?_
  repeat(first|go_big_quiet_skip|(go_big_quiet_want;go_big_quiet_op;first|go_big_quiet_on|(apply Exists.intro;refine⟨fun _=>?_,?_⟩;(· (first|(go_at_call 239;exact Calls.yR (uQz _ _ _ hA hs0))));go_big_quiet_on)))
  refine wpQuiet_nil ?_;rintro w9 ⟨uu,rfl⟩;have hb9:=yO w uu;generalize bel w uu=w9 at *;have HB9:=xN (yQ HB0.out HB0.out.size hb9);clear g0 g1;go_wp2;go_ret
  exact⟨wL (by rw[HE.out]),HB9.out⟩
 ·
  have HA:=xN (show 1≤x.fA∧x.fA≤16 by have h:=HA0.out;rw[e] at h;exact xK.1 h);have hnum:=HP.out.num;have hst:=HP.out.state;have hia:=HP.out.ins_;have hsa:=HP.out.st_;rw[e] at hnum;replace hnum:ins.length=1:=by rw[hnum];rfl
  obtain⟨i0,rfl⟩:=xEz hnum;obtain⟨IA,ci,rfl,li,mi,_⟩:=HI.out.open_;have hs0:Smp i0:=hia i0 (by simp);simp only[List.length_cons,List.length_nil] at li;have hst0:0<st.length:=by rw[hst];unfold wO;simp only[e];simp;have:=HA.out;omega
  obtain⟨bs,os,cs_,rfl,ls,ms,lbs,hcs_⟩:=xY HS.out hst0;have hgs:=gE hst0;have s0:=hcs_ 0 _ hgs;rw[Nat.add_zero] at s0;have hss:Smp st[0]:=hsa _ (List.getElem_mem hst0);have HSD:=xN (show st.getD 0 0=st[0] by rw[List.getD_eq_getElem?_getD,hgs];rfl);generalize st[0]=y0 at *;clear hcs_ hgs;clear hnum hst hia hsa;have HE:=xN (show wK x tables [i0] st=y0 by unfold wK;simp only[e];rw[HSD.out];rfl);rw[e] at p0;generalize hO:wK x tables [i0] st=OO at *;clear e hO
  go_enter Tryz.func283,Tryz.ntmps283
  go_wp2;go_ret
  exact⟨wL (by rw[HE.out]),HB0.out⟩
 ·
  have hnum:=HP.out.num;have hst:=HP.out.state;have hia:=HP.out.ins_;have hsa:=HP.out.st_;rw[e] at hnum;replace hnum:ins.length=1:=by rw[hnum];rfl
  obtain⟨i0,rfl⟩:=xEz hnum;obtain⟨bi,oi,ci,rfl,li,mi,lbi,hci⟩:=xY HI.out (by simp);have c0:=hci 0 i0 rfl;rw[Nat.add_zero] at c0;clear hci;have hs0:Smp i0:=hia i0 (by simp);simp only[List.length_cons,List.length_nil] at li;have hst0:0<st.length:=by rw[hst];unfold wO;simp only[e];simp
  obtain⟨bs,os,cs_,rfl,ls,ms,lbs,hcs_⟩:=xY HS.out hst0;have hgs:=gE hst0;have s0:=hcs_ 0 _ hgs;rw[Nat.add_zero] at s0;have hss:Smp st[0]:=hsa _ (List.getElem_mem hst0);have HSD:=xN (show st.getD 0 0=st[0] by rw[List.getD_eq_getElem?_getD,hgs];rfl);generalize st[0]=y0 at *;clear hcs_ hgs;clear hnum hst hia hsa;have HE:=xN (show wK x tables [i0] st=wrp (y0+i0) by unfold wK;simp only[e];rw[HSD.out];rfl);rw[e] at p0;generalize hO:wK x tables [i0] st=OO at *;clear e hO
  go_enter Tryz.func283,Tryz.ntmps283
  go_wp2;have g0:=yN s0;have g1:=yN c0;refine rB ?_
  repeat(first|go_big_quiet_skip|(go_big_quiet_want;go_big_quiet_op;first|go_big_quiet_on|(apply Exists.intro;refine⟨fun _=>?_,?_⟩;(· (first|(go_at_call 238;exact Calls.yR (c_mAdd _ _ _ hss hs0))));go_big_quiet_on)))
  refine wpQuiet_nil ?_;rintro w9 ⟨uu,rfl⟩;have hb9:=yO w uu;generalize bel w uu=w9 at *;have HB9:=xN (yQ HB0.out HB0.out.size hb9);clear g0 g1;go_wp2;go_ret
  exact⟨wL (by rw[HE.out]),HB9.out⟩
 ·
  have hnum:=HP.out.num;have hst:=HP.out.state;have hia:=HP.out.ins_;have hsa:=HP.out.st_;rw[e] at hnum;replace hnum:ins.length=1:=by rw[hnum];rfl
  obtain⟨i0,rfl⟩:=xEz hnum;obtain⟨bi,oi,ci,rfl,li,mi,lbi,hci⟩:=xY HI.out (by simp);have c0:=hci 0 i0 rfl;rw[Nat.add_zero] at c0;clear hci;have hs0:Smp i0:=hia i0 (by simp);simp only[List.length_cons,List.length_nil] at li;have hst0:0<st.length:=by rw[hst];unfold wO;simp only[e];simp
  obtain⟨bs,os,cs_,rfl,ls,ms,lbs,hcs_⟩:=xY HS.out hst0;have hgs:=gE hst0;have s0:=hcs_ 0 _ hgs;rw[Nat.add_zero] at s0;have hss:Smp st[0]:=hsa _ (List.getElem_mem hst0);have HSD:=xN (show st.getD 0 0=st[0] by rw[List.getD_eq_getElem?_getD,hgs];rfl);generalize st[0]=y0 at *;clear hcs_ hgs;clear hnum hst hia hsa;have HE:=xN (show wK x tables [i0] st=wrp (i0 - y0) by unfold wK;simp only[e];rw[HSD.out];rfl);rw[e] at p0;generalize hO:wK x tables [i0] st=OO at *;clear e hO
  go_enter Tryz.func283,Tryz.ntmps283
  go_wp2;have g0:=yN s0;have g1:=yN c0;refine rB ?_
  repeat(first|go_big_quiet_skip|(go_big_quiet_want;go_big_quiet_op;first|go_big_quiet_on|(apply Exists.intro;refine⟨fun _=>?_,?_⟩;(· (first|(go_at_call 289;exact Calls.yR (c_l01Sub _ _ _))));go_big_quiet_on)))
  refine wpQuiet_nil ?_;rintro w9 ⟨uu,rfl⟩;have hb9:=yO w uu;generalize bel w uu=w9 at *;have HB9:=xN (yQ HB0.out HB0.out.size hb9);clear g0 g1;go_wp2;go_ret
  exact⟨wL (by rw[HE.out]),HB9.out⟩
 ·
  have hnum:=HP.out.num;have hst:=HP.out.state;have hia:=HP.out.ins_;have hsa:=HP.out.st_;rw[e] at hnum;replace hnum:ins.length=2:=by rw[hnum];rfl
  obtain⟨i0,i1,rfl⟩:=lnI2 hnum;obtain⟨bi,oi,ci,rfl,li,mi,lbi,hci⟩:=xY HI.out (by simp);have c0:=hci 0 i0 rfl;have c1:=hci 1 i1 rfl;rw[Nat.add_zero] at c0;clear hci;have hs0:Smp i0:=hia i0 (by simp);have hs1:Smp i1:=hia i1 (by simp);simp only[List.length_cons,List.length_nil] at li;obtain⟨SA,cs_,rfl,ls,ms,_⟩:=HS.out.open_;clear hnum hst hia hsa;have HE:=xN (show wK x tables [i0,i1] st=wrp (i0 * i1) by unfold wK;simp only[e];rfl);rw[e] at p0;generalize hO:wK x tables [i0,i1] st=OO at *;clear e hO
  go_enter Tryz.func283,Tryz.ntmps283
  go_wp2;have g0:=yN c0;have g1:=yN c1;refine rB ?_
  repeat(first|go_big_quiet_skip|(go_big_quiet_want;go_big_quiet_op;first|go_big_quiet_on|(apply Exists.intro;refine⟨fun _=>?_,?_⟩;(· (first|(go_at_call 239;exact Calls.yR (uQz _ _ _ hs0 hs1))));go_big_quiet_on)))
  refine wpQuiet_nil ?_;rintro w9 ⟨uu,rfl⟩;have hb9:=yO w uu;generalize bel w uu=w9 at *;have HB9:=xN (yQ HB0.out HB0.out.size hb9);clear g0 g1;go_wp2;go_ret
  exact⟨wL (by rw[HE.out]),HB9.out⟩
 ·
  have hA:0≤x.fA∧x.fA≤31:=by have h:=HA0.out;rw[e] at h;exact xK.1 h
  have hnum:=HP.out.num;have hst:=HP.out.state;have hia:=HP.out.ins_;have hsa:=HP.out.st_;rw[e] at hnum;replace hnum:ins.length=1:=by rw[hnum];rfl
  obtain⟨i0,rfl⟩:=xEz hnum;obtain⟨bi,oi,ci,rfl,li,mi,lbi,hci⟩:=xY HI.out (by simp);have c0:=hci 0 i0 rfl;rw[Nat.add_zero] at c0;clear hci;have hs0:Smp i0:=hia i0 (by simp);simp only[List.length_cons,List.length_nil] at li;obtain⟨SA,cs_,rfl,ls,ms,_⟩:=HS.out.open_;clear hnum hst hia hsa;have HE:=xN (show wK x tables [i0] st=i0 / ((2 ^ x.fA.toNat:Nat):Int) by unfold wK;simp only[e];rfl);rw[e] at p0;generalize hO:wK x tables [i0] st=OO at *;clear e hO
  go_enter Tryz.func283,Tryz.ntmps283
  go_wp2;have g0:=yN c0;have g1:=yN p1;refine rB ?_
  repeat(first|go_big_quiet_skip|(go_big_quiet_want;go_big_quiet_op;first|go_big_quiet_on|(apply Exists.intro;refine⟨fun _=>?_,?_⟩;(· (fail));go_big_quiet_on)))
  refine wpQuiet_nil ?_;rintro w9 ⟨uu,rfl⟩;have hb9:=yO w uu;generalize bel w uu=w9 at *;have HB9:=xN (yQ HB0.out HB0.out.size hb9);clear g0 g1;go_wp2;go_ret
  exact⟨wL (by rw[HE.out];simp),HB9.out⟩
 ·
  have hA:0≤x.fA∧x.fA≤2147483647:=by have h:=HA0.out;rw[e] at h;exact xK.1 h
  have hnum:=HP.out.num;have hst:=HP.out.state;have hia:=HP.out.ins_;have hsa:=HP.out.st_;rw[e] at hnum;replace hnum:ins.length=1:=by rw[hnum];rfl
  obtain⟨i0,rfl⟩:=xEz hnum;obtain⟨bi,oi,ci,rfl,li,mi,lbi,hci⟩:=xY HI.out (by simp);have c0:=hci 0 i0 rfl;rw[Nat.add_zero] at c0;clear hci;have hs0:Smp i0:=hia i0 (by simp);simp only[List.length_cons,List.length_nil] at li;obtain⟨SA,cs_,rfl,ls,ms,_⟩:=HS.out.open_;clear hnum hst hia hsa;have HE:=xN (show wK x tables [i0] st=max (-x.fA) (min x.fA i0) by unfold wK;simp only[e];rfl);rw[e] at p0;generalize hO:wK x tables [i0] st=OO at *;clear e hO
  go_enter Tryz.func283,Tryz.ntmps283
  have hwA:IntKind.i64.wrap (-x.fA)= -x.fA:=IntWalk.i64_in _ zM;go_wp2;have g0:=yN c0;have g1:=yN p1;refine rB ?_
  repeat(first|go_big_quiet_skip|(go_big_quiet_want;go_big_quiet_op;first|go_big_quiet_on|(apply Exists.intro;refine⟨fun _=>?_,?_⟩;(· (first|(go_at_call 282;exact Calls.yR (c_qMin _ _ _))|(go_at_call 213;exact Calls.yR (c_qMax _ _ _))));go_big_quiet_on)))
  refine wpQuiet_nil ?_;rintro w9 ⟨uu,rfl⟩;have hb9:=yO w uu;generalize bel w uu=w9 at *;have HB9:=xN (yQ HB0.out HB0.out.size hb9);clear g0 g1;go_wp2;go_ret
  exact⟨wL (by rw[HE.out,Int.min_comm]),HB9.out⟩
 ·
  have hnum:=HP.out.num;have hst:=HP.out.state;have hia:=HP.out.ins_;have hsa:=HP.out.st_;rw[e] at hnum;replace hnum:ins.length=1:=by rw[hnum];rfl
  obtain⟨i0,rfl⟩:=xEz hnum;obtain⟨IA,ci,rfl,li,mi,_⟩:=HI.out.open_;have hs0:Smp i0:=hia i0 (by simp);simp only[List.length_cons,List.length_nil] at li;have hst0:0<st.length:=by rw[hst];unfold wO;simp only[e];simp
  obtain⟨bs,os,cs_,rfl,ls,ms,lbs,hcs_⟩:=xY HS.out hst0;have hgs:=gE hst0;have s0:=hcs_ 0 _ hgs;rw[Nat.add_zero] at s0;have hss:Smp st[0]:=hsa _ (List.getElem_mem hst0);have HSD:=xN (show st.getD 0 0=st[0] by rw[List.getD_eq_getElem?_getD,hgs];rfl);generalize st[0]=y0 at *;clear hcs_ hgs;clear hnum hst hia hsa;have HE:=xN (show wK x tables [i0] st=y0 by unfold wK;simp only[e];rw[HSD.out];rfl);rw[e] at p0;generalize hO:wK x tables [i0] st=OO at *;clear e hO
  go_enter Tryz.func283,Tryz.ntmps283
  go_wp2;go_ret
  exact⟨wL (by rw[HE.out]),HB0.out⟩
 ·
  have hA:0≤x.fA∧x.fA≤3:=by have h:=HA0.out;rw[e] at h;exact xK.1 h
  have hAt:x.fA<(tables.length:Int):=HTB.out e;have hnum:=HP.out.num;have hst:=HP.out.state;have hia:=HP.out.ins_;have hsa:=HP.out.st_;rw[e] at hnum;replace hnum:ins.length=1:=by rw[hnum];rfl
  obtain⟨i0,rfl⟩:=xEz hnum;obtain⟨bi,oi,ci,rfl,li,mi,lbi,hci⟩:=xY HI.out (by simp);have c0:=hci 0 i0 rfl;rw[Nat.add_zero] at c0;clear hci;have hs0:Smp i0:=hia i0 (by simp);simp only[List.length_cons,List.length_nil] at li;obtain⟨SA,cs_,rfl,ls,ms,_⟩:=HS.out.open_;clear hnum hst hia hsa;have hj:x.fA.toNat<tables.length:=by omega
  obtain⟨TA,tc,rfl,tl,tm,hx⟩:=T.yU HT.out;have hgt:=gE hj;obtain⟨bt,ot,ct,rfl,lbt,hct,hcell⟩:=hx x.fA.toNat _ hgt;have htl:=(HP.out.tabs.each x.fA.toNat _ hgt).1;have HTD:=xN (show tables.getD x.fA.toNat []=tables[x.fA.toNat] by rw[List.getD_eq_getElem?_getD,hgt];rfl);generalize tables[x.fA.toNat]=t at *;obtain⟨u3,rfl⟩:=T.rd_one hct;have d0:=hcell 0 u3 rfl;rw[Nat.mul_one,Nat.add_zero] at d0;have RT:=xN (T.xB.1 hct);clear hct hcell hx hgt;obtain⟨A3,c3,rfl,l3,m3,x3⟩:=RT.out.open_;clear x3;have HE:=xN (show wK x tables [i0] st=lookF (tables.getD x.fA.toNat []) i0 by unfold wK;simp only[e];rfl);rw[e] at p0;generalize hO:wK x tables [i0] st=OO at *;clear e hO
  go_enter Tryz.func283,Tryz.ntmps283
  go_wp2;have g0:=yN c0;have g1:=yN p1;have g2:=yN d0;refine rB ?_
  repeat(first|go_big_quiet_skip|(go_big_quiet_want;go_big_quiet_op;first|go_big_quiet_on|(apply Exists.intro;refine⟨fun _=>?_,?_⟩;(· (first|(go_at_call 290;exact Calls.yR (c_l06Look _ t _ _ (Rd.below RT.out (yO w _)) zM zM))));go_big_quiet_on)))
  refine wpQuiet_nil ?_;rintro w9 ⟨uu,rfl⟩;have hb9:=yO w uu;generalize bel w uu=w9 at *;have HB9:=xN (yQ HB0.out HB0.out.size hb9);clear g0 g1 g2;go_wp2;go_ret
  exact⟨wL (by rw[HE.out,HTD.out]),HB9.out⟩
 ·
  have hnum:=HP.out.num;have hst:=HP.out.state;have hia:=HP.out.ins_;have hsa:=HP.out.st_;rw[e] at hnum;replace hnum:ins.length=0:=by rw[hnum];rfl
  obtain rfl:ins= []:=List.eq_nil_of_length_eq_zero hnum;obtain⟨IA,ci,rfl,li,mi,_⟩:=HI.out.open_;have hst0:0<st.length:=by rw[hst];unfold wO;simp only[e];simp
  obtain⟨bs,os,cs_,rfl,ls,ms,lbs,hcs_⟩:=xY HS.out hst0;have hgs:=gE hst0;have s0:=hcs_ 0 _ hgs;rw[Nat.add_zero] at s0;have hss:Smp st[0]:=hsa _ (List.getElem_mem hst0);have HSD:=xN (show st.getD 0 0=st[0] by rw[List.getD_eq_getElem?_getD,hgs];rfl);generalize st[0]=y0 at *;clear hcs_ hgs;clear hnum hst hia hsa;have HE:=xN (show wK x tables [] st=y0 by unfold wK;simp only[e];rw[HSD.out];rfl);rw[e] at p0;generalize hO:wK x tables [] st=OO at *;clear e hO
  go_enter Tryz.func283,Tryz.ntmps283
  go_wp2;go_ret
  exact⟨wL (by rw[HE.out]),HB0.out⟩
 ·
  have hnum:=HP.out.num;have hst:=HP.out.state;have hia:=HP.out.ins_;have hsa:=HP.out.st_;rw[e] at hnum;replace hnum:ins.length=3:=by rw[hnum];rfl
  obtain⟨i0,i1,i2,rfl⟩:=lnI3 hnum;obtain⟨bi,oi,ci,rfl,li,mi,lbi,hci⟩:=xY HI.out (by simp);have c0:=hci 0 i0 rfl;have c1:=hci 1 i1 rfl;have c2:=hci 2 i2 rfl;rw[Nat.add_zero] at c0;clear hci;have hs0:Smp i0:=hia i0 (by simp);have hs1:Smp i1:=hia i1 (by simp);have hs2:Smp i2:=hia i2 (by simp);simp only[List.length_cons,List.length_nil] at li;obtain⟨SA,cs_,rfl,ls,ms,_⟩:=HS.out.open_;clear hnum hst hia hsa;rw[e] at p0;generalize hO:wK x tables [i0,i1,i2] st=OO at *;have HK_:=xN e;clear e;by_cases hc:0≤i0
  ·
   have HE:=xN (show OO=i1 by rw[←hO];unfold wK;simp only[HK_.out];simp[hc]);clear hO;have q1:decide (0≤i0)=true:=decide_eq_true hc
   go_enter Tryz.func283,Tryz.ntmps283
   go_wp2;go_ret
   exact⟨wL (by rw[HE.out]),HB0.out⟩
  ·
   have HE:=xN (show OO=i2 by rw[←hO];unfold wK;simp only[HK_.out];simp[hc]);clear hO;have q1:decide (0≤i0)=false:=decide_eq_false hc
   go_enter Tryz.func283,Tryz.ntmps283
   go_wp2;go_ret
   exact⟨wL (by rw[HE.out]),HB0.out⟩
 ·
  have hnum:=HP.out.num;have hst:=HP.out.state;have hia:=HP.out.ins_;have hsa:=HP.out.st_;rw[e] at hnum;replace hnum:ins.length=2:=by rw[hnum];rfl
  obtain⟨i0,i1,rfl⟩:=lnI2 hnum;obtain⟨bi,oi,ci,rfl,li,mi,lbi,hci⟩:=xY HI.out (by simp);have c0:=hci 0 i0 rfl;have c1:=hci 1 i1 rfl;rw[Nat.add_zero] at c0;clear hci;have hs0:Smp i0:=hia i0 (by simp);have hs1:Smp i1:=hia i1 (by simp);simp only[List.length_cons,List.length_nil] at li;have hst0:0<st.length:=by rw[hst];unfold wO;simp only[e];simp
  obtain⟨bs,os,cs_,rfl,ls,ms,lbs,hcs_⟩:=xY HS.out hst0;have hgs:=gE hst0;have s0:=hcs_ 0 _ hgs;rw[Nat.add_zero] at s0;have hss:Smp st[0]:=hsa _ (List.getElem_mem hst0);have HSD:=xN (show st.getD 0 0=st[0] by rw[List.getD_eq_getElem?_getD,hgs];rfl);generalize st[0]=y0 at *;clear hcs_ hgs;clear hnum hst hia hsa;rw[e] at p0;generalize hO:wK x tables [i0,i1] st=OO at *;have HK_:=xN e;clear e;by_cases hc:0<i1
  ·
   have HE:=xN (show OO=i0 by rw[←hO];unfold wK;simp only[HK_.out];simp[hc]);clear hO;have q1:decide (0<i1)=true:=decide_eq_true hc
   go_enter Tryz.func283,Tryz.ntmps283
   go_wp2;go_ret
   exact⟨wL (by rw[HE.out]),HB0.out⟩
  ·
   have HE:=xN (show OO=y0 by rw[←hO];unfold wK;simp only[HK_.out];have hgd:=HSD.out;rw[List.getD_eq_getElem?_getD] at hgd;simp[hc,hgd]);clear hO;have q1:decide (0<i1)=false:=decide_eq_false hc
   go_enter Tryz.func283,Tryz.ntmps283
   go_wp2;go_ret
   exact⟨wL (by rw[HE.out]),HB0.out⟩
 ·
  have hA:Smp x.fA:=by have h:=HA0.out;rw[e] at h;exact xK.1 h
  have HA:=xN (show 1≤x.fB∧x.fB≤16 by have h:=HB0_.out;rw[e] at h;exact xK.1 h);have hnum:=HP.out.num;have hst:=HP.out.state;have hia:=HP.out.ins_;have hsa:=HP.out.st_;rw[e] at hnum;replace hnum:ins.length=1:=by rw[hnum];rfl
  obtain⟨i0,rfl⟩:=xEz hnum;obtain⟨bi,oi,ci,rfl,li,mi,lbi,hci⟩:=xY HI.out (by simp);have c0:=hci 0 i0 rfl;rw[Nat.add_zero] at c0;clear hci;have hs0:Smp i0:=hia i0 (by simp);simp only[List.length_cons,List.length_nil] at li;have hst0:0<st.length:=by rw[hst];unfold wO;simp only[e];simp;have:=HA.out;omega
  obtain⟨bs,os,cs_,rfl,ls,ms,lbs,hcs_⟩:=xY HS.out hst0;have hgs:=gE hst0;have s0:=hcs_ 0 _ hgs;rw[Nat.add_zero] at s0;have hss:Smp st[0]:=hsa _ (List.getElem_mem hst0);have HSD:=xN (show st.getD 0 0=st[0] by rw[List.getD_eq_getElem?_getD,hgs];rfl);generalize st[0]=y0 at *;clear hcs_ hgs;clear hnum hst hia hsa;have HE:=xN (show wK x tables [i0] st=wrp (i0+x.fA * y0) by unfold wK;simp only[e];rw[HSD.out];rfl);rw[e] at p0;generalize hO:wK x tables [i0] st=OO at *;clear e hO
  go_enter Tryz.func283,Tryz.ntmps283
  go_wp2;have g0:=yN c0;have g1:=yN p1;have g2:=yN s0;refine rB ?_
  repeat(first|go_big_quiet_skip|(go_big_quiet_want;go_big_quiet_op;first|go_big_quiet_on|(apply Exists.intro;refine⟨fun _=>?_,?_⟩;(· (first|(go_at_call 239;exact Calls.yR (uQz _ _ _ hA hss))|(go_at_call 238;exact Calls.yR (c_mAdd _ _ _ hs0 (zCz _)))));go_big_quiet_on)))
  refine wpQuiet_nil ?_;rintro w9 ⟨uu,rfl⟩;have hb9:=yO w uu;generalize bel w uu=w9 at *;have HB9:=xN (yQ HB0.out HB0.out.size hb9);clear g0 g1 g2;go_wp2;go_ret
  exact⟨wL (by rw[HE.out];exact wrp_mul_add _ _),HB9.out⟩
end
section
open Go.RowKit
theorem uSz:Smp 0:=⟨by decide,by decide⟩
theorem wBz {l:List Int} (h: ∀ y ∈ l,Smp y) (i:Nat):Smp (l.getD i 0):=by
 rw[List.getD_eq_getElem?_getD]
 cases hg:l[i]? with
 |none=>exact uSz
 |some y=>exact h y (List.mem_of_getElem? hg)
theorem pow2_pos (k:Nat):(1:Int)≤((2 ^ k:Nat):Int):=by
 have:0<2 ^ k:=Nat.pow_pos (by decide)
 omega
theorem ediv_smp {a:Int} (h:Smp a) {m:Int} (hm:1≤m):Smp (a / m):=by
 unfold Smp at *;have h1:a / m * m≤a:=Int.ediv_mul_le a zM
 constructor
 ·exact Int.le_ediv_of_mul_le zM zM
 ·have h2:a / m<2147483648:=Int.ediv_lt_of_lt_mul zM zM
  omega
theorem look_smp {t:List Int} (h: ∀ y ∈ t,Smp y) (a:Int):Smp (lookF t a):=wBz h _
section
variable {x:xR} {tables:List (List Int)} {ins st:List Int}
theorem tab_smp (h:wMz tables) (j:Nat): ∀ y ∈ tables.getD j [],Smp y:=by
 rw[List.getD_eq_getElem?_getD]
 cases hg:tables[j]? with
 |none=>simp
 |some t=>exact smpB_true.1 (h.each j t hg).2
theorem xOz {n:Int} (h:yPz x n) (k:Int) (e:x.zG=k) {lo hi:Int} (h1:(uX k).low=lo) (h2:(uX k).high=hi) (h3:lo≤hi):lo≤x.fA∧x.fA≤hi:=by
 have ha:=h.a;rw[e,h1,h2,if_pos h3] at ha;exact xK.1 ha
theorem node_a {n:Int} (h:yPz x n) (hk:x.zG=2∨x.zG=11∨x.zG=12∨x.zG=14):Smp x.fA:=by
 unfold Smp
 rcases hk with e|e|e|e
 ·have:=xOz h 2 e (lo:= -2147483648) (hi:=2147483647) rfl rfl (by decide);omega
 ·have:=xOz h 11 e (lo:=0) (hi:=2147483647) rfl rfl (by decide);omega
 ·have:=xOz h 12 e (lo:= -2147483648) (hi:=2147483647) rfl rfl (by decide);omega
 ·have:=xOz h 14 e (lo:= -2147483648) (hi:=2147483647) rfl rfl (by decide);omega
theorem uW {c:Prop} [Decidable c] {a b:Int} (h1:c→Smp a) (h2: ¬ c→Smp b):Smp (if c then a else b):=by
 by_cases h:c
 ·rw[if_pos h];exact h1 h
 ·rw[if_neg h];exact h2 h
theorem outF_smp (h:uRz x tables ins st):Smp (wK x tables ins st):=by
 have hi:=fun i=>wBz h.ins_ i
 have hs:=fun i=>wBz h.st_ i
 unfold wK;refine uW (fun _=>hi 0) fun _=>?_
 refine uW (fun e=>node_a h.ok (.inl e)) fun _=>?_
 refine uW (fun _=>zCz _) fun _=>?_
 refine uW (fun _=>zCz _) fun _=>?_
 refine uW (fun _=>zCz _) fun _=>?_
 refine uW (fun _=>hs 0) fun _=>?_
 refine uW (fun _=>zCz _) fun _=>?_
 refine uW (fun _=>zCz _) fun _=>?_
 refine uW (fun _=>zCz _) fun _=>?_
 refine uW (fun _=>ediv_smp (hi 0) (pow2_pos _)) fun _=>?_
 refine uW (fun e=>?_) fun _=>?_
 ·have h1:=xOz h.ok 11 e (lo:=0) (hi:=2147483647) rfl rfl (by decide)
  have h2:=hi 0;unfold Smp at *
  omega
 refine uW (fun _=>hs 0) fun _=>?_
 refine uW (fun _=>look_smp (tab_smp h.tabs _) _) fun _=>?_
 refine uW (fun _=>hs 0) fun _=>?_
 refine uW (fun _=>uW (fun _=>hi 1) fun _=>hi 2) fun _=>?_
 refine uW (fun _=>uW (fun _=>hi 0) fun _=>hs 0) fun _=>?_
 exact zCz _
theorem noise_smp (s:Int):Smp (wOz s):=by
 unfold wOz
 split<;>exact zCz _
theorem drop1_smp (h: ∀ y ∈ st,Smp y) {z:Int} (hz:Smp z): ∀ y ∈ st.drop 1++ [z],Smp y:=by
 intro y hy
 rcases List.mem_append.1 hy with hy|hy
 ·exact h y (List.mem_of_mem_drop hy)
 ·simp at hy;subst hy;exact hz
theorem nextSt_ok (h:uRz x tables ins st) {out:Int} (ho:Smp out):(xW x ins st out).length=(wO x).length∧ ∀ y ∈ xW x ins st out,Smp y:=by
 have hi:=fun i=>wBz h.ins_ i
 have hl:=h.state;have ha:=h.ok.a;have hb:=h.ok.b;have hk:=xK.1 h.ok.kind;have one: ∀ {z:Int},Smp z→ ∀ y ∈ [z],Smp y:=fun hz y hy=>by simp at hy;subst hy;exact hz
 by_cases e6:x.zG=6
 ·have h1:=xOz h.ok 6 e6 (lo:=1) (hi:=16) rfl rfl (by decide)
  unfold wO at hl ⊢;unfold xW;rw[if_pos e6] at hl ⊢;rw[if_pos e6];rw[List.length_replicate] at hl ⊢;refine⟨?_,drop1_smp h.st_ (hi 0)⟩;rw[List.length_append,List.length_drop,List.length_singleton]
  omega
 by_cases e17:x.zG=17
 ·have h1:1≤x.fB∧x.fB≤16:=by
   rw[e17,if_pos (by rfl)] at hb;exact xK.1 hb
  unfold wO at hl ⊢;unfold xW;rw[if_neg e6,if_pos e17] at hl ⊢;rw[if_neg e6,if_pos e17];rw[List.length_replicate] at hl ⊢;refine⟨?_,drop1_smp h.st_ ho⟩;rw[List.length_append,List.length_drop,List.length_singleton]
  omega
 by_cases e7:x.zG=7
 ·unfold wO xW;simp[e7];exact ho
 by_cases e16:x.zG=16
 ·unfold wO xW;simp[e16];exact ho
 by_cases e8:x.zG=8
 ·unfold wO xW;simp[e8];have:=hi 0;rwa [List.getD_eq_getElem?_getD] at this
 by_cases e12:x.zG=12
 ·unfold wO xW;simp[e12];exact zCz _
 by_cases e14:x.zG=14
 ·unfold wO xW;simp[e14];exact noise_smp _
 ·unfold wO xW;simp[e6,e7,e8,e12,e14,e16,e17]
end
structure StOk (p:xO) (cells:List (List Int)):Prop where
 len:cells.length=p.zC.length
 each: ∀ (i:Nat) (x:xR) (st:List Int),p.zC[i]?=some x→cells[i]?=some st→st.length=(wO x).length∧ ∀ y ∈ st,Smp y
theorem start_smp {x:xR} {n:Int} (h:yPz x n): ∀ y ∈ wO x,Smp y:=by
 unfold wO;have rep: ∀ n,∀ y ∈ List.replicate n (0:Int),Smp y:=fun n y hy=>by rw[(List.mem_replicate.1 hy).2];exact uSz
 split
 ·exact rep _
 split
 ·exact rep _
 split
 ·intro y hy;simp at hy;subst hy;exact uSz
 split
 ·next e=>
  intro y hy;simp at hy;subst hy
  rcases e with e|e
  ·exact node_a h (.inr (.inr (.inl e)))
  ·exact node_a h (.inr (.inr (.inr e)))
 ·simp
theorem st_start {p:xO} (h:vN p):StOk p (p.zC.map wO):=by
 refine⟨by simp,fun i x st hx hs=>?_⟩;rw[List.getElem?_map,hx] at hs;injection hs with hs;subst hs;exact⟨rfl,start_smp (h.formed.nodes i x hx).1⟩
section
variable {p:xO} {cells:List (List Int)} {frame vals:List Int}
theorem inF_smp {n:xR} (hf: ∀ y ∈ frame,Smp y) (hv: ∀ y ∈ vals,Smp y): ∀ y ∈ inF n frame vals,Smp y:=by
 unfold inF
 split
 ·intro y hy;simp at hy;subst hy;have:=wBz hf n.fA.toNat;rwa [List.getD_eq_getElem?_getD] at this
 ·intro y hy
  obtain⟨i,_,rfl⟩:=List.mem_map.1 hy;exact wBz hv _
theorem zLy (h:vN p) (hs:StOk p cells) (hf: ∀ y ∈ frame,Smp y) (hv: ∀ y ∈ vals,Smp y) {i:Nat} {x:xR} {st:List Int} (hx:p.zC[i]?=some x) (hst:cells[i]?=some st):uRz x p.zV (inF x frame vals) st:=by
 obtain⟨h1,_,_⟩:=h.formed.nodes i x hx;obtain⟨h4,h5⟩:=hs.each i x st hx hst;refine⟨h1,h.formed.tables,?_,h4,inF_smp hf hv,h5⟩;unfold inF
 split
 ·rfl
 ·have:=h1.arity
  rw[List.length_map]
  omega
theorem st_get (hs:StOk p cells) {i:Nat} {x:xR} (hx:p.zC[i]?=some x): ∃ st,cells[i]?=some st∧cells.getD i []=st:=by
 have hi:i<cells.length:=by rw[hs.len];exact(List.getElem?_eq_some_iff.1 hx).1
 have hg:=gE hi;exact⟨_,hg,by rw[List.getD_eq_getElem?_getD,hg];rfl⟩
theorem smp_set {l:List Int} (h: ∀ y ∈ l,Smp y) {i:Nat} {z:Int} (hz:Smp z): ∀ y ∈ l.set i z,Smp y:=by
 intro y hy
 rcases List.mem_or_eq_of_mem_set hy with h1|h1
 ·exact h y h1
 ·subst h1;exact hz
theorem valStep_smp (h:vN p) (hs:StOk p cells) (hf: ∀ y ∈ frame,Smp y) (hv: ∀ y ∈ vals,Smp y) (i:Int): ∀ y ∈ yGz p cells frame vals i,Smp y:=by
 unfold yGz
 split
 ·next x hx=>
  obtain⟨st,h1,h2⟩:=st_get hs hx;rw[h2];exact smp_set hv (outF_smp (zLy h hs hf hv hx h1))
 ·exact hv
theorem vXz (h:vN p) (hs:StOk p cells) (hf: ∀ y ∈ frame,Smp y): ∀ (l:List Int) (v:List Int),(∀ y ∈ v,Smp y)→ ∀ y ∈ vQ p cells frame l v,Smp y
 | [],v,hv=>hv
 |i :: l,v,hv=>vXz h hs hf l (yGz p cells frame v i) (valStep_smp h hs hf hv i)
theorem valsF_smp (h:vN p) (hs:StOk p cells) (hf: ∀ y ∈ frame,Smp y): ∀ y ∈ uK p cells frame,Smp y:=
 vXz h hs hf _ _ (fun y hy=>by rw[(List.mem_replicate.1 hy).2];exact uSz)
theorem vAz:(uJ p cells frame vals).length=p.zC.length:=by simp[uJ]
theorem zMy {i:Nat} {x:xR} (hx:p.zC[i]?=some x):(uJ p cells frame vals)[i]?=some (xW x (inF x frame vals) (cells.getD i []) (vals.getD i 0)):=by
 unfold uJ;rw[List.getElem?_mapIdx,hx];rfl
theorem st_next (h:vN p) (hs:StOk p cells) (hf: ∀ y ∈ frame,Smp y) (hv: ∀ y ∈ vals,Smp y):StOk p (uJ p cells frame vals):=by
 refine⟨vAz,fun i x st hx hst=>?_⟩;rw[zMy hx] at hst;injection hst with hst;subst hst;obtain⟨st,h1,h2⟩:=st_get hs hx;rw[h2];exact nextSt_ok (zLy h hs hf hv hx h1) (wBz hv i)
end
def xHz (S:Nat→Bool) (cells news:List (List Int)):List (List Int):=cells.mapIdx fun i c=>if S i then news.getD i [] else c
section
variable {S S':Nat→Bool} {cells news:List (List Int)}
theorem wUz:(xHz S cells news).length=cells.length:=by simp[xHz]
theorem uTz {i:Nat} {c:List Int} (h:cells[i]?=some c):(xHz S cells news)[i]?=some (if S i then news.getD i [] else c):=by
 unfold xHz;rw[List.getElem?_mapIdx,h];rfl
theorem updC_none (h: ∀ i,S i=false):xHz S cells news=cells:=by
 apply List.ext_getElem?
 intro i;unfold xHz;rw[List.getElem?_mapIdx]
 cases cells[i]?<;>simp[h]
theorem updC_all (hl:cells.length=news.length) (h: ∀ i,i<cells.length→S i=true):xHz S cells news=news:=by
 apply List.ext_getElem?
 intro i;by_cases hi:i<cells.length
 ·rw[uTz (gE hi),h i hi,if_pos rfl,List.getD_eq_getElem?_getD,gE (show i<news.length by omega)]
  rfl
 ·rw[List.getElem?_eq_none (by rw[wUz];omega),List.getElem?_eq_none zM]
theorem updC_set {i:Nat} (h: ∀ j,S' j=(S j || decide (j=i))):(xHz S cells news).set i (news.getD i [])=xHz S' cells news:=by
 apply List.ext_getElem?
 intro j;by_cases hj:j<cells.length
 ·have hg:=gE hj
  rw[uTz hg,h j];by_cases e:i=j
  ·subst e
   rw[List.getElem?_set_self (by rw[wUz];exact hj)];simp
  ·rw[List.getElem?_set_ne e,uTz hg]
   have: ¬ j=i:=fun e'=>e e'.symm
   simp[this]
 ·rw[List.getElem?_eq_none (by rw[List.length_set,wUz];omega),List.getElem?_eq_none (by rw[wUz];omega)]
theorem updC_same (h: ∀ j,S j=S' j):xHz S cells news=xHz S' cells news:=by
 rw[show S=S' from funext h]
end
def yZz (p:xO) (k:Nat) (i:Nat):Bool:=decide ((i:Int) ∈ (wD p.zC).take k) && ((p.zC[i]?).map fun x=>decide (x.zG≠6)).getD false
def yKz (p:xO) (k:Nat) (i:Nat):Bool:=((p.zC[i]?).map fun x=>decide (x.zG≠6∨i<k)).getD false
section
variable {p:xO}
theorem doneA_zero (i:Nat):yZz p 0 i=false:=by simp[yZz]
theorem doneA_skip {k:Nat} {i:Int} {x:xR} (hk:(wD p.zC)[k]?=some i) (hi:0≤i) (hx:p.zC[i.toNat]?=some x) (h6:x.zG=6) (j:Nat):yZz p (k+1) j=yZz p k j:=by
 unfold yZz;rw[List.take_add_one,hk];by_cases e:(j:Int)=i
 ·have:j=i.toNat:=by omega
  subst this;rw[hx];simp[h6]
 ·simp[e]
theorem doneA_next {k:Nat} {i:Int} {x:xR} (hk:(wD p.zC)[k]?=some i) (hi:0≤i) (hx:p.zC[i.toNat]?=some x) (h6:x.zG≠6) (j:Nat):yZz p (k+1) j=(yZz p k j || decide (j=i.toNat)):=by
 unfold yZz;rw[List.take_add_one,hk];by_cases e:(j:Int)=i
 ·have:j=i.toNat:=by omega
  subst this;rw[hx];simp[h6,e]
 ·have: ¬ j=i.toNat:=by omega
  simp[e,this]
theorem doneA_all (h:(wD p.zC).length=p.zC.length) (j:Nat):yZz p p.zC.length j=yKz p 0 j:=by
 unfold yZz yKz;rw[←h,List.take_length]
 cases hx:p.zC[j]? with
 |none=>simp
 |some x=>
  have hm:(j:Int) ∈ wD p.zC:=order_all h (List.getElem?_eq_some_iff.1 hx).1;simp[hm]
theorem doneB_skip {k:Nat} {x:xR} (hx:p.zC[k]?=some x) (h6:x.zG≠6) (j:Nat):yKz p (k+1) j=yKz p k j:=by
 unfold yKz;by_cases e:j=k
 ·subst e;rw[hx];simp[h6]
 ·rw[show (fun x:xR=>decide (x.zG≠6∨j<k+1))=fun x=>decide (x.zG≠6∨j<k) from funext fun x=>decide_eq_decide.2 zM]
theorem doneB_next {k:Nat} {x:xR} (hx:p.zC[k]?=some x) (h6:x.zG=6) (j:Nat):yKz p (k+1) j=(yKz p k j || decide (j=k)):=by
 unfold yKz;by_cases e:j=k
 ·subst e;rw[hx];simp
 ·rw[show (fun x:xR=>decide (x.zG≠6∨j<k+1))=fun x=>decide (x.zG≠6∨j<k) from funext fun x=>decide_eq_decide.2 zM]
  simp[e]
theorem doneB_all (j:Nat) (hj:j<p.zC.length):yKz p p.zC.length j=true:=by
 unfold yKz;rw[gE hj];simp[hj]
theorem doneB_false {k:Nat} {x:xR} (hx:p.zC[k]?=some x) (h6:x.zG=6):yKz p k k=false:=by
 unfold yKz;rw[hx];simp[h6]
theorem doneA_false (h:(wD p.zC).length=p.zC.length) {k:Nat} {i:Int} (hk:(wD p.zC)[k]?=some i) (hi:0≤i):yZz p k i.toNat=false:=by
 obtain⟨n,_,_,h2,_⟩:=yPy h hk;unfold yZz;have:((i.toNat:Nat):Int)=i:=by omega
 rw[this];simp[h2]
end
section
variable {p:xO} {cells:List (List Int)} {frame vals:List Int}
theorem turn_facts (h:vN p) (hs:StOk p cells) (hv:vals.length=p.zC.length) {k:Nat} {i:Int} (hk:(wD p.zC)[k]?=some i):
  ∃ (x:xR) (st:List Int),0≤i∧i.toNat<p.zC.length∧p.zC[i.toNat]?=some x∧cells[i.toNat]?=some st∧
   (xHz (yZz p k) cells (uJ p cells frame (uK p cells frame)))[i.toNat]?=some st∧
   vQ p cells frame ((wD p.zC).take (k+1)) vals=(vQ p cells frame ((wD p.zC).take k) vals).set i.toNat (wK x p.zV (inF x frame (vQ p cells frame ((wD p.zC).take k) vals)) st)∧
   (x.zG≠6→xHz (yZz p (k+1)) cells (uJ p cells frame (uK p cells frame))=(xHz (yZz p k) cells (uJ p cells frame (uK p cells frame))).set i.toNat (xW x (inF x frame (vQ p cells frame ((wD p.zC).take k) vals)) st (wK x p.zV (inF x frame (vQ p cells frame ((wD p.zC).take k) vals)) st)))∧
   (x.zG=6→xHz (yZz p (k+1)) cells (uJ p cells frame (uK p cells frame))=xHz (yZz p k) cells (uJ p cells frame (uK p cells frame))∧wK x p.zV (inF x frame (vQ p cells frame ((wD p.zC).take k) vals)) st=st.getD 0 0∧0<st.length):=by
 obtain⟨x,h0,hx,hni,hw⟩:=yPy h.order hk;have hi:i.toNat<p.zC.length:=(List.getElem?_eq_some_iff.1 hx).1;obtain⟨st,h1,h2⟩:=st_get hs hx;have hlt:k<(wD p.zC).length:=(List.getElem?_eq_some_iff.1 hk).1
 have hsnoc:vQ p cells frame ((wD p.zC).take (k+1)) vals=(vQ p cells frame ((wD p.zC).take k) vals).set i.toNat (wK x p.zV (inF x frame (vQ p cells frame ((wD p.zC).take k) vals)) st):=by
  rw[xZ hk,uOz];generalize vQ p cells frame ((wD p.zC).take k) vals=V;unfold yGz;rw[hx,h2]
 refine⟨x,st,h0,hi,hx,h1,?_,hsnoc,fun h6=>?_,fun h6=>⟨?_,?_,?_⟩⟩
 ·rw[uTz h1,doneA_false h.order hk h0];rfl
 ·rw[←updC_set (i:=i.toNat) (doneA_next hk h0 hx h6)]
  congr 1
  rw[List.getD_eq_getElem?_getD,zMy hx,h2];have ht:=in_turn (cells:=cells) (frame:=frame) h.play hv hk hx h6;have hp:=uPz (cells:=cells) (frame:=frame) h.play hv (k+1) (by rw[←h.order];exact hlt) i (by rw[xZ hk];simp);rw[hsnoc,xMz (by rw[uU,hv];exact hi)] at hp;rw[←ht,←hp]
  rfl
 ·exact updC_same (doneA_skip hk h0 hx h6)
 ·unfold wK;simp[h6]
 ·have hl:=(hs.each _ x st hx h1).1
  have ha:=(h.formed.nodes _ x hx).1.a;rw[h6] at ha;simp[uX,kndL] at ha;have:=xK.1 ha;unfold wO at hl;simp[h6] at hl
  omega
theorem turn2_facts (h:vN p) (hs:StOk p cells) {k:Nat} {x:xR} (hx:p.zC[k]?=some x):
  (x.zG≠6→xHz (yKz p (k+1)) cells (uJ p cells frame (uK p cells frame))=xHz (yKz p k) cells (uJ p cells frame (uK p cells frame)))∧
  (x.zG=6→ ∃ st,(xHz (yKz p k) cells (uJ p cells frame (uK p cells frame)))[k]?=some st∧cells[k]?=some st∧
   xHz (yKz p (k+1)) cells (uJ p cells frame (uK p cells frame))=(xHz (yKz p k) cells (uJ p cells frame (uK p cells frame))).set k (xW x (inF x frame (uK p cells frame)) st (wK x [] (inF x frame (uK p cells frame)) st))):=by
 refine⟨fun h6=>updC_same (doneB_skip hx h6),fun h6=>?_⟩;obtain⟨st,h1,h2⟩:=st_get hs hx;refine⟨st,by rw[uTz h1,doneB_false hx h6];rfl,h1,?_⟩;rw[←updC_set (i:=k) (doneB_next hx h6)]
 congr 1
 rw[List.getD_eq_getElem?_getD,zMy hx,h2];unfold xW;simp[h6]
theorem updA_zero:xHz (yZz p 0) cells (uJ p cells frame (uK p cells frame))=cells:=updC_none doneA_zero
theorem updA_all (h:vN p):xHz (yZz p p.zC.length) cells (uJ p cells frame (uK p cells frame))=xHz (yKz p 0) cells (uJ p cells frame (uK p cells frame)):=updC_same (doneA_all h.order)
theorem updB_all (hs:StOk p cells):xHz (yKz p p.zC.length) cells (uJ p cells frame (uK p cells frame))=uJ p cells frame (uK p cells frame):=
 updC_all (by rw[hs.len,vAz]) (fun i hi=>doneB_all i (by rw[←hs.len];exact hi))
theorem play_in6 (h:vN p) (hs:StOk p cells) (hf: ∀ y ∈ frame,Smp y) (hv: ∀ y ∈ vals,Smp y) {i:Nat} {x:xR} {st:List Int} (hx:p.zC[i]?=some x) (hst:cells[i]?=some st) (h6:x.zG=6):uRz x [] (inF x frame vals) st:=by
 have hp:=zLy h hs hf hv hx hst;refine⟨⟨hp.ok.kind,hp.ok.a,hp.ok.b,hp.ok.from_,hp.ok.arity,fun h13=>by omega⟩,⟨fun i t ht=>by simp at ht,by simp⟩,hp.num,hp.state,hp.ins_,hp.st_⟩
end
end
end Go.Proofs.YtoibekfhepnedaaGreat
