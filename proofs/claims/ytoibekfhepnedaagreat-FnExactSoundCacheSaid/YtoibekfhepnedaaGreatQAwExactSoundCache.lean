/- Contract: what a node gives out, by the reference. -/
import Derived.Test.YtoibekfhepnedaaGreatQAvExactSoundCache
import Derived.Test.YtoibekfhepnedaaGreatQAhExactSoundCache
set_option linter.unusedVariables false
set_option linter.unusedSimpArgs false
set_option maxHeartbeats 8000000
set_option maxRecDepth 100000
namespace Go.Proofs.YtoibekfhepnedaaGreat
open Go.RowKit
/-- What a node is played with. -/
structure PlayIn (x:GNode) (tables:List (List Int)) (ins st:List Int):Prop where
 ok:NodeOk x (tables.length:Int)
 tabs:TablesOk tables
 num:ins.length=if x.zD=1 then 1 else (kndF x.zD).inputs.toNat
 state:st.length=(startSt x).length
 ins_: ∀ y ∈ ins,Smp y
 st_: ∀ y ∈ st,Smp y
theorem rdI_cells {w:World} {v:Value} {xs:List Int} (h:RdI w v xs) (hn:0<xs.length): ∃ b off cap,v= .slice (some ⟨b,off,none⟩) xs.length cap∧xs.length≤cap∧cap≤9223372036854775807∧b<w.heap.size∧ ∀ j x,xs[j]?=some x→w.cell? ⟨b,off+j,none⟩=some (.int .i64 x):=by
 obtain⟨A,cap,rfl,h1,h2,hx⟩:=h.open_
 obtain⟨b,off,rfl,hb,_⟩:=hx 0 xs[0] (List.getElem?_eq_getElem hn)
 refine⟨b,off,cap,rfl,h1,h2,hb,fun j x hj=>?_⟩
 obtain⟨b',off',e,_,hc⟩:=hx j x hj
 injection e with e;injection e with e1 e2
 subst e1 e2
 exact hc
theorem lnI1 {l:List Int} (h:l.length=1): ∃ a,l= [a]:=by
 match l,h with
 | [a],_=>exact⟨a,rfl⟩
theorem lnI2 {l:List Int} (h:l.length=2): ∃ a b,l= [a,b]:=by
 match l,h with
 | [a,b],_=>exact⟨a,b,rfl⟩
theorem lnI3 {l:List Int} (h:l.length=3): ∃ a b c,l= [a,b,c]:=by
 match l,h with
 | [a,b,c],_=>exact⟨a,b,c,rfl⟩
theorem wrp_mul_add (a b:Int):wrp (a+wrp b)=wrp (a+b):=wrp_mod (by unfold wrp;omega)
theorem c_l06Out (x:GNode) (b o:Nat) (tables:List (List Int)) (ins st:List Int) (tv iv sv:Value) (w:World) (hP:PlayIn x tables ins st) (hT:T.rd w (T.sl 26 1 (tables.map (T.ints 2))) [tv]) (hI:RdI w iv ins) (hS:RdI w sv st) (h:T.at w x.fs b o):Calls Tryz.prog 283 #[.pointer (some ⟨b,o,none⟩),tv,iv,sv] w fun e w'=>e= .returned (.int .i64 (outF x tables ins st))∧Below w.heap.size w w':=by
 have HAT:=hide h
 obtain⟨hlt0,cs,hr,hc⟩:=h
 obtain⟨v3,rfl,h3⟩:=GNode.yN hr
 clear hr
 have h3i:=T.yR.1 h3;obtain⟨va3,vc3,rfl,vl3,vm3,vx3⟩:=h3i.open_
 have R3:=hide h3i;have HX3:=hide vx3;clear vx3 h3 h3i
 have HL:=hide hlt0;have HCC:=hide hc;have HB0:=hide (Below.refl w.heap.size w);clear hlt0 hc
 have HP:=hide hP;have HT:=hide hT;have HI:=hide hI;have HS:=hide hS
 have hk:=yZ.1 hP.ok.kind
 have h17:x.zD=1∨x.zD=2∨x.zD=3∨x.zD=4∨x.zD=5∨x.zD=6∨x.zD=7∨x.zD=8∨x.zD=9∨x.zD=10∨x.zD=11∨x.zD=12∨x.zD=13∨x.zD=14∨x.zD=15∨x.zD=16∨x.zD=17:=by omega
 have ha:=hP.ok.a;have hb:=hP.ok.b;have htb:=hP.ok.table;have HA0:=hide ha;have HB0_:=hide hb;have HTB:=hide htb;clear hP hT hI hS hk ha hb htb
 have p0:w.cell? ⟨b,o,none⟩=some (.int .i64 x.zD):=(HB0.out.cell HL.out).trans (HCC.out 0 _ rfl)
 have p1:w.cell? ⟨b,o+1,none⟩=some (.int .i64 x.fA):=(HB0.out.cell HL.out).trans (HCC.out 1 _ rfl)
 have p2:w.cell? ⟨b,o+2,none⟩=some (.int .i64 x.fB):=(HB0.out.cell HL.out).trans (HCC.out 2 _ rfl)
 have p3:w.cell? ⟨b,o+3,none⟩=some (.slice va3 x.zH.length vc3):=(HB0.out.cell HL.out).trans (HCC.out 3 _ rfl)
 have lb:b<w.heap.size:=Nat.lt_of_lt_of_le HL.out HB0.out.size
 rcases h17 with e|e|e|e|e|e|e|e|e|e|e|e|e|e|e|e|e
 ·
  have hnum:=HP.out.num;have hst:=HP.out.state;have hia:=HP.out.ins_;have hsa:=HP.out.st_
  rw[e] at hnum
  replace hnum:ins.length=1:=by rw[hnum];rfl
  obtain⟨i0,rfl⟩:=lnI1 hnum
  obtain⟨bi,oi,ci,rfl,li,mi,lbi,hci⟩:=rdI_cells HI.out (by simp)
  have c0:=hci 0 i0 rfl
  rw[Nat.add_zero] at c0
  clear hci
  have hs0:Smp i0:=hia i0 (by simp)
  simp only[List.length_cons,List.length_nil] at li
  obtain⟨SA,cs_,rfl,ls,ms,_⟩:=HS.out.open_
  clear hnum hst hia hsa
  have HE:=hide (show outF x tables [i0] st=i0 by unfold outF;simp only[e];rfl)
  rw[e] at p0
  generalize hO:outF x tables [i0] st=OO at *
  clear e hO
  go_enter Tryz.func283,Tryz.ntmps283
  go_wp2
  go_ret
  exact⟨ret_int (by rw[HE.out]),HB0.out⟩
 ·
  have hnum:=HP.out.num;have hst:=HP.out.state;have hia:=HP.out.ins_;have hsa:=HP.out.st_
  rw[e] at hnum
  replace hnum:ins.length=0:=by rw[hnum];rfl
  obtain rfl:ins= []:=List.eq_nil_of_length_eq_zero hnum
  obtain⟨IA,ci,rfl,li,mi,_⟩:=HI.out.open_
  obtain⟨SA,cs_,rfl,ls,ms,_⟩:=HS.out.open_
  clear hnum hst hia hsa
  have HE:=hide (show outF x tables [] st=x.fA by unfold outF;simp only[e];rfl)
  rw[e] at p0
  generalize hO:outF x tables [] st=OO at *
  clear e hO
  go_enter Tryz.func283,Tryz.ntmps283
  go_wp2
  go_ret
  exact⟨ret_int (by rw[HE.out]),HB0.out⟩
 ·
  have hnum:=HP.out.num;have hst:=HP.out.state;have hia:=HP.out.ins_;have hsa:=HP.out.st_
  rw[e] at hnum
  replace hnum:ins.length=2:=by rw[hnum];rfl
  obtain⟨i0,i1,rfl⟩:=lnI2 hnum
  obtain⟨bi,oi,ci,rfl,li,mi,lbi,hci⟩:=rdI_cells HI.out (by simp)
  have c0:=hci 0 i0 rfl
  have c1:=hci 1 i1 rfl
  rw[Nat.add_zero] at c0
  clear hci
  have hs0:Smp i0:=hia i0 (by simp)
  have hs1:Smp i1:=hia i1 (by simp)
  simp only[List.length_cons,List.length_nil] at li
  obtain⟨SA,cs_,rfl,ls,ms,_⟩:=HS.out.open_
  clear hnum hst hia hsa
  have HE:=hide (show outF x tables [i0,i1] st=wrp (i0+i1) by unfold outF;simp only[e];rfl)
  rw[e] at p0
  generalize hO:outF x tables [i0,i1] st=OO at *
  clear e hO
  go_enter Tryz.func283,Tryz.ntmps283
  go_wp2
  have g0:=yF c0
  have g1:=yF c1
  refine xA (by kernel_rfl) (by kernel_rfl) ?_
  repeat(first|go_big_quiet_skip|(go_big_quiet_want;go_big_quiet_op;first|go_big_quiet_on|(apply Exists.intro;refine⟨fun _=>?_,?_⟩;(· (first|(go_at_call 238;exact Calls.yJ (c_mAdd _ _ _ hs0 hs1))));go_big_quiet_on)))
  refine wpQuiet_nil ?_
  rintro w9 ⟨uu,rfl⟩
  have hb9:=yG w uu
  generalize bel w uu=w9 at *
  have HB9:=hide (yI HB0.out HB0.out.size hb9);clear g0 g1
  go_wp2
  go_ret
  exact⟨ret_int (by rw[HE.out]),HB9.out⟩
 ·
  have hnum:=HP.out.num;have hst:=HP.out.state;have hia:=HP.out.ins_;have hsa:=HP.out.st_
  rw[e] at hnum
  replace hnum:ins.length=2:=by rw[hnum];rfl
  obtain⟨i0,i1,rfl⟩:=lnI2 hnum
  obtain⟨bi,oi,ci,rfl,li,mi,lbi,hci⟩:=rdI_cells HI.out (by simp)
  have c0:=hci 0 i0 rfl
  have c1:=hci 1 i1 rfl
  rw[Nat.add_zero] at c0
  clear hci
  have hs0:Smp i0:=hia i0 (by simp)
  have hs1:Smp i1:=hia i1 (by simp)
  simp only[List.length_cons,List.length_nil] at li
  obtain⟨SA,cs_,rfl,ls,ms,_⟩:=HS.out.open_
  clear hnum hst hia hsa
  have HE:=hide (show outF x tables [i0,i1] st=wrp (i0 - i1) by unfold outF;simp only[e];rfl)
  rw[e] at p0
  generalize hO:outF x tables [i0,i1] st=OO at *
  clear e hO
  go_enter Tryz.func283,Tryz.ntmps283
  go_wp2
  have g0:=yF c0
  have g1:=yF c1
  refine xA (by kernel_rfl) (by kernel_rfl) ?_
  repeat(first|go_big_quiet_skip|(go_big_quiet_want;go_big_quiet_op;first|go_big_quiet_on|(apply Exists.intro;refine⟨fun _=>?_,?_⟩;(· (first|(go_at_call 289;exact Calls.yJ (c_l01Sub _ _ _))));go_big_quiet_on)))
  refine wpQuiet_nil ?_
  rintro w9 ⟨uu,rfl⟩
  have hb9:=yG w uu
  generalize bel w uu=w9 at *
  have HB9:=hide (yI HB0.out HB0.out.size hb9);clear g0 g1
  go_wp2
  go_ret
  exact⟨ret_int (by rw[HE.out]),HB9.out⟩
 ·
  have hA:Smp x.fA:=by have h:=HA0.out;rw[e] at h;exact yZ.1 h
  have hnum:=HP.out.num;have hst:=HP.out.state;have hia:=HP.out.ins_;have hsa:=HP.out.st_
  rw[e] at hnum
  replace hnum:ins.length=1:=by rw[hnum];rfl
  obtain⟨i0,rfl⟩:=lnI1 hnum
  obtain⟨bi,oi,ci,rfl,li,mi,lbi,hci⟩:=rdI_cells HI.out (by simp)
  have c0:=hci 0 i0 rfl
  rw[Nat.add_zero] at c0
  clear hci
  have hs0:Smp i0:=hia i0 (by simp)
  simp only[List.length_cons,List.length_nil] at li
  obtain⟨SA,cs_,rfl,ls,ms,_⟩:=HS.out.open_
  clear hnum hst hia hsa
  have HE:=hide (show outF x tables [i0] st=wrp (x.fA * i0) by unfold outF;simp only[e];rfl)
  rw[e] at p0
  generalize hO:outF x tables [i0] st=OO at *
  clear e hO
  go_enter Tryz.func283,Tryz.ntmps283
  go_wp2
  have g0:=yF p1
  have g1:=yF c0
  refine xA (by kernel_rfl) (by kernel_rfl) ?_
  repeat(first|go_big_quiet_skip|(go_big_quiet_want;go_big_quiet_op;first|go_big_quiet_on|(apply Exists.intro;refine⟨fun _=>?_,?_⟩;(· (first|(go_at_call 239;exact Calls.yJ (c_l01Mul _ _ _ hA hs0))));go_big_quiet_on)))
  refine wpQuiet_nil ?_
  rintro w9 ⟨uu,rfl⟩
  have hb9:=yG w uu
  generalize bel w uu=w9 at *
  have HB9:=hide (yI HB0.out HB0.out.size hb9);clear g0 g1
  go_wp2
  go_ret
  exact⟨ret_int (by rw[HE.out]),HB9.out⟩
 ·
  have HA:=hide (show 1≤x.fA∧x.fA≤16 by have h:=HA0.out;rw[e] at h;exact yZ.1 h)
  have hnum:=HP.out.num;have hst:=HP.out.state;have hia:=HP.out.ins_;have hsa:=HP.out.st_
  rw[e] at hnum
  replace hnum:ins.length=1:=by rw[hnum];rfl
  obtain⟨i0,rfl⟩:=lnI1 hnum
  obtain⟨IA,ci,rfl,li,mi,_⟩:=HI.out.open_
  have hs0:Smp i0:=hia i0 (by simp)
  simp only[List.length_cons,List.length_nil] at li
  have hst0:0<st.length:=by rw[hst];unfold startSt;simp only[e];simp;have:=HA.out;omega
  obtain⟨bs,os,cs_,rfl,ls,ms,lbs,hcs_⟩:=rdI_cells HS.out hst0
  have hgs:=List.getElem?_eq_getElem hst0
  have s0:=hcs_ 0 _ hgs;rw[Nat.add_zero] at s0
  have hss:Smp st[0]:=hsa _ (List.getElem_mem hst0)
  have HSD:=hide (show st.getD 0 0=st[0] by rw[List.getD_eq_getElem?_getD,hgs];rfl)
  generalize st[0]=y0 at *
  clear hcs_ hgs
  clear hnum hst hia hsa
  have HE:=hide (show outF x tables [i0] st=y0 by unfold outF;simp only[e];rw[HSD.out];rfl)
  rw[e] at p0
  generalize hO:outF x tables [i0] st=OO at *
  clear e hO
  go_enter Tryz.func283,Tryz.ntmps283
  go_wp2
  go_ret
  exact⟨ret_int (by rw[HE.out]),HB0.out⟩
 ·
  have hnum:=HP.out.num;have hst:=HP.out.state;have hia:=HP.out.ins_;have hsa:=HP.out.st_
  rw[e] at hnum
  replace hnum:ins.length=1:=by rw[hnum];rfl
  obtain⟨i0,rfl⟩:=lnI1 hnum
  obtain⟨bi,oi,ci,rfl,li,mi,lbi,hci⟩:=rdI_cells HI.out (by simp)
  have c0:=hci 0 i0 rfl
  rw[Nat.add_zero] at c0
  clear hci
  have hs0:Smp i0:=hia i0 (by simp)
  simp only[List.length_cons,List.length_nil] at li
  have hst0:0<st.length:=by rw[hst];unfold startSt;simp only[e];simp
  obtain⟨bs,os,cs_,rfl,ls,ms,lbs,hcs_⟩:=rdI_cells HS.out hst0
  have hgs:=List.getElem?_eq_getElem hst0
  have s0:=hcs_ 0 _ hgs;rw[Nat.add_zero] at s0
  have hss:Smp st[0]:=hsa _ (List.getElem_mem hst0)
  have HSD:=hide (show st.getD 0 0=st[0] by rw[List.getD_eq_getElem?_getD,hgs];rfl)
  generalize st[0]=y0 at *
  clear hcs_ hgs
  clear hnum hst hia hsa
  have HE:=hide (show outF x tables [i0] st=wrp (y0+i0) by unfold outF;simp only[e];rw[HSD.out];rfl)
  rw[e] at p0
  generalize hO:outF x tables [i0] st=OO at *
  clear e hO
  go_enter Tryz.func283,Tryz.ntmps283
  go_wp2
  have g0:=yF s0
  have g1:=yF c0
  refine xA (by kernel_rfl) (by kernel_rfl) ?_
  repeat(first|go_big_quiet_skip|(go_big_quiet_want;go_big_quiet_op;first|go_big_quiet_on|(apply Exists.intro;refine⟨fun _=>?_,?_⟩;(· (first|(go_at_call 238;exact Calls.yJ (c_mAdd _ _ _ hss hs0))));go_big_quiet_on)))
  refine wpQuiet_nil ?_
  rintro w9 ⟨uu,rfl⟩
  have hb9:=yG w uu
  generalize bel w uu=w9 at *
  have HB9:=hide (yI HB0.out HB0.out.size hb9);clear g0 g1
  go_wp2
  go_ret
  exact⟨ret_int (by rw[HE.out]),HB9.out⟩
 ·
  have hnum:=HP.out.num;have hst:=HP.out.state;have hia:=HP.out.ins_;have hsa:=HP.out.st_
  rw[e] at hnum
  replace hnum:ins.length=1:=by rw[hnum];rfl
  obtain⟨i0,rfl⟩:=lnI1 hnum
  obtain⟨bi,oi,ci,rfl,li,mi,lbi,hci⟩:=rdI_cells HI.out (by simp)
  have c0:=hci 0 i0 rfl
  rw[Nat.add_zero] at c0
  clear hci
  have hs0:Smp i0:=hia i0 (by simp)
  simp only[List.length_cons,List.length_nil] at li
  have hst0:0<st.length:=by rw[hst];unfold startSt;simp only[e];simp
  obtain⟨bs,os,cs_,rfl,ls,ms,lbs,hcs_⟩:=rdI_cells HS.out hst0
  have hgs:=List.getElem?_eq_getElem hst0
  have s0:=hcs_ 0 _ hgs;rw[Nat.add_zero] at s0
  have hss:Smp st[0]:=hsa _ (List.getElem_mem hst0)
  have HSD:=hide (show st.getD 0 0=st[0] by rw[List.getD_eq_getElem?_getD,hgs];rfl)
  generalize st[0]=y0 at *
  clear hcs_ hgs
  clear hnum hst hia hsa
  have HE:=hide (show outF x tables [i0] st=wrp (i0 - y0) by unfold outF;simp only[e];rw[HSD.out];rfl)
  rw[e] at p0
  generalize hO:outF x tables [i0] st=OO at *
  clear e hO
  go_enter Tryz.func283,Tryz.ntmps283
  go_wp2
  have g0:=yF s0
  have g1:=yF c0
  refine xA (by kernel_rfl) (by kernel_rfl) ?_
  repeat(first|go_big_quiet_skip|(go_big_quiet_want;go_big_quiet_op;first|go_big_quiet_on|(apply Exists.intro;refine⟨fun _=>?_,?_⟩;(· (first|(go_at_call 289;exact Calls.yJ (c_l01Sub _ _ _))));go_big_quiet_on)))
  refine wpQuiet_nil ?_
  rintro w9 ⟨uu,rfl⟩
  have hb9:=yG w uu
  generalize bel w uu=w9 at *
  have HB9:=hide (yI HB0.out HB0.out.size hb9);clear g0 g1
  go_wp2
  go_ret
  exact⟨ret_int (by rw[HE.out]),HB9.out⟩
 ·
  have hnum:=HP.out.num;have hst:=HP.out.state;have hia:=HP.out.ins_;have hsa:=HP.out.st_
  rw[e] at hnum
  replace hnum:ins.length=2:=by rw[hnum];rfl
  obtain⟨i0,i1,rfl⟩:=lnI2 hnum
  obtain⟨bi,oi,ci,rfl,li,mi,lbi,hci⟩:=rdI_cells HI.out (by simp)
  have c0:=hci 0 i0 rfl
  have c1:=hci 1 i1 rfl
  rw[Nat.add_zero] at c0
  clear hci
  have hs0:Smp i0:=hia i0 (by simp)
  have hs1:Smp i1:=hia i1 (by simp)
  simp only[List.length_cons,List.length_nil] at li
  obtain⟨SA,cs_,rfl,ls,ms,_⟩:=HS.out.open_
  clear hnum hst hia hsa
  have HE:=hide (show outF x tables [i0,i1] st=wrp (i0 * i1) by unfold outF;simp only[e];rfl)
  rw[e] at p0
  generalize hO:outF x tables [i0,i1] st=OO at *
  clear e hO
  go_enter Tryz.func283,Tryz.ntmps283
  go_wp2
  have g0:=yF c0
  have g1:=yF c1
  refine xA (by kernel_rfl) (by kernel_rfl) ?_
  repeat(first|go_big_quiet_skip|(go_big_quiet_want;go_big_quiet_op;first|go_big_quiet_on|(apply Exists.intro;refine⟨fun _=>?_,?_⟩;(· (first|(go_at_call 239;exact Calls.yJ (c_l01Mul _ _ _ hs0 hs1))));go_big_quiet_on)))
  refine wpQuiet_nil ?_
  rintro w9 ⟨uu,rfl⟩
  have hb9:=yG w uu
  generalize bel w uu=w9 at *
  have HB9:=hide (yI HB0.out HB0.out.size hb9);clear g0 g1
  go_wp2
  go_ret
  exact⟨ret_int (by rw[HE.out]),HB9.out⟩
 ·
  have hA:0≤x.fA∧x.fA≤31:=by have h:=HA0.out;rw[e] at h;exact yZ.1 h
  have hnum:=HP.out.num;have hst:=HP.out.state;have hia:=HP.out.ins_;have hsa:=HP.out.st_
  rw[e] at hnum
  replace hnum:ins.length=1:=by rw[hnum];rfl
  obtain⟨i0,rfl⟩:=lnI1 hnum
  obtain⟨bi,oi,ci,rfl,li,mi,lbi,hci⟩:=rdI_cells HI.out (by simp)
  have c0:=hci 0 i0 rfl
  rw[Nat.add_zero] at c0
  clear hci
  have hs0:Smp i0:=hia i0 (by simp)
  simp only[List.length_cons,List.length_nil] at li
  obtain⟨SA,cs_,rfl,ls,ms,_⟩:=HS.out.open_
  clear hnum hst hia hsa
  have HE:=hide (show outF x tables [i0] st=i0 / ((2 ^ x.fA.toNat:Nat):Int) by unfold outF;simp only[e];rfl)
  rw[e] at p0
  generalize hO:outF x tables [i0] st=OO at *
  clear e hO
  go_enter Tryz.func283,Tryz.ntmps283
  go_wp2
  have g0:=yF c0
  have g1:=yF p1
  refine xA (by kernel_rfl) (by kernel_rfl) ?_
  repeat(first|go_big_quiet_skip|(go_big_quiet_want;go_big_quiet_op;first|go_big_quiet_on|(apply Exists.intro;refine⟨fun _=>?_,?_⟩;(· (fail));go_big_quiet_on)))
  refine wpQuiet_nil ?_
  rintro w9 ⟨uu,rfl⟩
  have hb9:=yG w uu
  generalize bel w uu=w9 at *
  have HB9:=hide (yI HB0.out HB0.out.size hb9);clear g0 g1
  go_wp2
  go_ret
  exact⟨ret_int (by rw[HE.out];simp),HB9.out⟩
 ·
  have hA:0≤x.fA∧x.fA≤2147483647:=by have h:=HA0.out;rw[e] at h;exact yZ.1 h
  have hnum:=HP.out.num;have hst:=HP.out.state;have hia:=HP.out.ins_;have hsa:=HP.out.st_
  rw[e] at hnum
  replace hnum:ins.length=1:=by rw[hnum];rfl
  obtain⟨i0,rfl⟩:=lnI1 hnum
  obtain⟨bi,oi,ci,rfl,li,mi,lbi,hci⟩:=rdI_cells HI.out (by simp)
  have c0:=hci 0 i0 rfl
  rw[Nat.add_zero] at c0
  clear hci
  have hs0:Smp i0:=hia i0 (by simp)
  simp only[List.length_cons,List.length_nil] at li
  obtain⟨SA,cs_,rfl,ls,ms,_⟩:=HS.out.open_
  clear hnum hst hia hsa
  have HE:=hide (show outF x tables [i0] st=max (-x.fA) (min x.fA i0) by unfold outF;simp only[e];rfl)
  rw[e] at p0
  generalize hO:outF x tables [i0] st=OO at *
  clear e hO
  go_enter Tryz.func283,Tryz.ntmps283
  have hwA:IntKind.i64.wrap (-x.fA)= -x.fA:=IntWalk.i64_in _ (by omega)
  go_wp2
  have g0:=yF c0
  have g1:=yF p1
  refine xA (by kernel_rfl) (by kernel_rfl) ?_
  repeat(first|go_big_quiet_skip|(go_big_quiet_want;go_big_quiet_op;first|go_big_quiet_on|(apply Exists.intro;refine⟨fun _=>?_,?_⟩;(· (first|(go_at_call 282;exact Calls.yJ (c_qMin _ _ _))|(go_at_call 213;exact Calls.yJ (c_qMax _ _ _))));go_big_quiet_on)))
  refine wpQuiet_nil ?_
  rintro w9 ⟨uu,rfl⟩
  have hb9:=yG w uu
  generalize bel w uu=w9 at *
  have HB9:=hide (yI HB0.out HB0.out.size hb9);clear g0 g1
  go_wp2
  go_ret
  exact⟨ret_int (by rw[HE.out,Int.min_comm]),HB9.out⟩
 ·
  have hnum:=HP.out.num;have hst:=HP.out.state;have hia:=HP.out.ins_;have hsa:=HP.out.st_
  rw[e] at hnum
  replace hnum:ins.length=1:=by rw[hnum];rfl
  obtain⟨i0,rfl⟩:=lnI1 hnum
  obtain⟨IA,ci,rfl,li,mi,_⟩:=HI.out.open_
  have hs0:Smp i0:=hia i0 (by simp)
  simp only[List.length_cons,List.length_nil] at li
  have hst0:0<st.length:=by rw[hst];unfold startSt;simp only[e];simp
  obtain⟨bs,os,cs_,rfl,ls,ms,lbs,hcs_⟩:=rdI_cells HS.out hst0
  have hgs:=List.getElem?_eq_getElem hst0
  have s0:=hcs_ 0 _ hgs;rw[Nat.add_zero] at s0
  have hss:Smp st[0]:=hsa _ (List.getElem_mem hst0)
  have HSD:=hide (show st.getD 0 0=st[0] by rw[List.getD_eq_getElem?_getD,hgs];rfl)
  generalize st[0]=y0 at *
  clear hcs_ hgs
  clear hnum hst hia hsa
  have HE:=hide (show outF x tables [i0] st=y0 by unfold outF;simp only[e];rw[HSD.out];rfl)
  rw[e] at p0
  generalize hO:outF x tables [i0] st=OO at *
  clear e hO
  go_enter Tryz.func283,Tryz.ntmps283
  go_wp2
  go_ret
  exact⟨ret_int (by rw[HE.out]),HB0.out⟩
 ·
  have hA:0≤x.fA∧x.fA≤3:=by have h:=HA0.out;rw[e] at h;exact yZ.1 h
  have hAt:x.fA<(tables.length:Int):=HTB.out e
  have hnum:=HP.out.num;have hst:=HP.out.state;have hia:=HP.out.ins_;have hsa:=HP.out.st_
  rw[e] at hnum
  replace hnum:ins.length=1:=by rw[hnum];rfl
  obtain⟨i0,rfl⟩:=lnI1 hnum
  obtain⟨bi,oi,ci,rfl,li,mi,lbi,hci⟩:=rdI_cells HI.out (by simp)
  have c0:=hci 0 i0 rfl
  rw[Nat.add_zero] at c0
  clear hci
  have hs0:Smp i0:=hia i0 (by simp)
  simp only[List.length_cons,List.length_nil] at li
  obtain⟨SA,cs_,rfl,ls,ms,_⟩:=HS.out.open_
  clear hnum hst hia hsa
  have hj:x.fA.toNat<tables.length:=by omega
  obtain⟨TA,tc,rfl,tl,tm,hx⟩:=T.yM HT.out
  have hgt:=List.getElem?_eq_getElem hj
  obtain⟨bt,ot,ct,rfl,lbt,hct,hcell⟩:=hx x.fA.toNat _ hgt
  have htl:=(HP.out.tabs.each x.fA.toNat _ hgt).1
  have HTD:=hide (show tables.getD x.fA.toNat []=tables[x.fA.toNat] by rw[List.getD_eq_getElem?_getD,hgt];rfl)
  generalize tables[x.fA.toNat]=t at *
  obtain⟨u3,rfl⟩:=T.rd_one hct
  have d0:=hcell 0 u3 rfl
  rw[Nat.mul_one,Nat.add_zero] at d0
  have RT:=hide (T.yR.1 hct);clear hct hcell hx hgt
  obtain⟨A3,c3,rfl,l3,m3,x3⟩:=RT.out.open_;clear x3
  have HE:=hide (show outF x tables [i0] st=lookF (tables.getD x.fA.toNat []) i0 by unfold outF;simp only[e];rfl)
  rw[e] at p0
  generalize hO:outF x tables [i0] st=OO at *
  clear e hO
  go_enter Tryz.func283,Tryz.ntmps283
  go_wp2
  have g0:=yF c0
  have g1:=yF p1
  have g2:=yF d0
  refine xA (by kernel_rfl) (by kernel_rfl) ?_
  repeat(first|go_big_quiet_skip|(go_big_quiet_want;go_big_quiet_op;first|go_big_quiet_on|(apply Exists.intro;refine⟨fun _=>?_,?_⟩;(· (first|(go_at_call 290;exact Calls.yJ (c_l06Look _ t _ _ (Rd.below RT.out (yG w _)) (by omega) (by omega)))));go_big_quiet_on)))
  refine wpQuiet_nil ?_
  rintro w9 ⟨uu,rfl⟩
  have hb9:=yG w uu
  generalize bel w uu=w9 at *
  have HB9:=hide (yI HB0.out HB0.out.size hb9);clear g0 g1 g2
  go_wp2
  go_ret
  exact⟨ret_int (by rw[HE.out,HTD.out]),HB9.out⟩
 ·
  have hnum:=HP.out.num;have hst:=HP.out.state;have hia:=HP.out.ins_;have hsa:=HP.out.st_
  rw[e] at hnum
  replace hnum:ins.length=0:=by rw[hnum];rfl
  obtain rfl:ins= []:=List.eq_nil_of_length_eq_zero hnum
  obtain⟨IA,ci,rfl,li,mi,_⟩:=HI.out.open_
  have hst0:0<st.length:=by rw[hst];unfold startSt;simp only[e];simp
  obtain⟨bs,os,cs_,rfl,ls,ms,lbs,hcs_⟩:=rdI_cells HS.out hst0
  have hgs:=List.getElem?_eq_getElem hst0
  have s0:=hcs_ 0 _ hgs;rw[Nat.add_zero] at s0
  have hss:Smp st[0]:=hsa _ (List.getElem_mem hst0)
  have HSD:=hide (show st.getD 0 0=st[0] by rw[List.getD_eq_getElem?_getD,hgs];rfl)
  generalize st[0]=y0 at *
  clear hcs_ hgs
  clear hnum hst hia hsa
  have HE:=hide (show outF x tables [] st=y0 by unfold outF;simp only[e];rw[HSD.out];rfl)
  rw[e] at p0
  generalize hO:outF x tables [] st=OO at *
  clear e hO
  go_enter Tryz.func283,Tryz.ntmps283
  go_wp2
  go_ret
  exact⟨ret_int (by rw[HE.out]),HB0.out⟩
 ·
  have hnum:=HP.out.num;have hst:=HP.out.state;have hia:=HP.out.ins_;have hsa:=HP.out.st_
  rw[e] at hnum
  replace hnum:ins.length=3:=by rw[hnum];rfl
  obtain⟨i0,i1,i2,rfl⟩:=lnI3 hnum
  obtain⟨bi,oi,ci,rfl,li,mi,lbi,hci⟩:=rdI_cells HI.out (by simp)
  have c0:=hci 0 i0 rfl
  have c1:=hci 1 i1 rfl
  have c2:=hci 2 i2 rfl
  rw[Nat.add_zero] at c0
  clear hci
  have hs0:Smp i0:=hia i0 (by simp)
  have hs1:Smp i1:=hia i1 (by simp)
  have hs2:Smp i2:=hia i2 (by simp)
  simp only[List.length_cons,List.length_nil] at li
  obtain⟨SA,cs_,rfl,ls,ms,_⟩:=HS.out.open_
  clear hnum hst hia hsa
  rw[e] at p0
  generalize hO:outF x tables [i0,i1,i2] st=OO at *
  have HK_:=hide e;clear e
  by_cases hc:0≤i0
  ·
   have HE:=hide (show OO=i1 by rw[←hO];unfold outF;simp only[HK_.out];simp[hc])
   clear hO
   have q1:decide (0≤i0)=true:=decide_eq_true hc
   go_enter Tryz.func283,Tryz.ntmps283
   go_wp2
   go_ret
   exact⟨ret_int (by rw[HE.out]),HB0.out⟩
  ·
   have HE:=hide (show OO=i2 by rw[←hO];unfold outF;simp only[HK_.out];simp[hc])
   clear hO
   have q1:decide (0≤i0)=false:=decide_eq_false hc
   go_enter Tryz.func283,Tryz.ntmps283
   go_wp2
   go_ret
   exact⟨ret_int (by rw[HE.out]),HB0.out⟩
 ·
  have hnum:=HP.out.num;have hst:=HP.out.state;have hia:=HP.out.ins_;have hsa:=HP.out.st_
  rw[e] at hnum
  replace hnum:ins.length=2:=by rw[hnum];rfl
  obtain⟨i0,i1,rfl⟩:=lnI2 hnum
  obtain⟨bi,oi,ci,rfl,li,mi,lbi,hci⟩:=rdI_cells HI.out (by simp)
  have c0:=hci 0 i0 rfl
  have c1:=hci 1 i1 rfl
  rw[Nat.add_zero] at c0
  clear hci
  have hs0:Smp i0:=hia i0 (by simp)
  have hs1:Smp i1:=hia i1 (by simp)
  simp only[List.length_cons,List.length_nil] at li
  have hst0:0<st.length:=by rw[hst];unfold startSt;simp only[e];simp
  obtain⟨bs,os,cs_,rfl,ls,ms,lbs,hcs_⟩:=rdI_cells HS.out hst0
  have hgs:=List.getElem?_eq_getElem hst0
  have s0:=hcs_ 0 _ hgs;rw[Nat.add_zero] at s0
  have hss:Smp st[0]:=hsa _ (List.getElem_mem hst0)
  have HSD:=hide (show st.getD 0 0=st[0] by rw[List.getD_eq_getElem?_getD,hgs];rfl)
  generalize st[0]=y0 at *
  clear hcs_ hgs
  clear hnum hst hia hsa
  rw[e] at p0
  generalize hO:outF x tables [i0,i1] st=OO at *
  have HK_:=hide e;clear e
  by_cases hc:0<i1
  ·
   have HE:=hide (show OO=i0 by rw[←hO];unfold outF;simp only[HK_.out];simp[hc])
   clear hO
   have q1:decide (0<i1)=true:=decide_eq_true hc
   go_enter Tryz.func283,Tryz.ntmps283
   go_wp2
   go_ret
   exact⟨ret_int (by rw[HE.out]),HB0.out⟩
  ·
   have HE:=hide (show OO=y0 by rw[←hO];unfold outF;simp only[HK_.out];have hgd:=HSD.out;rw[List.getD_eq_getElem?_getD] at hgd;simp[hc,hgd])
   clear hO
   have q1:decide (0<i1)=false:=decide_eq_false hc
   go_enter Tryz.func283,Tryz.ntmps283
   go_wp2
   go_ret
   exact⟨ret_int (by rw[HE.out]),HB0.out⟩
 ·
  have hA:Smp x.fA:=by have h:=HA0.out;rw[e] at h;exact yZ.1 h
  have HA:=hide (show 1≤x.fB∧x.fB≤16 by have h:=HB0_.out;rw[e] at h;exact yZ.1 h)
  have hnum:=HP.out.num;have hst:=HP.out.state;have hia:=HP.out.ins_;have hsa:=HP.out.st_
  rw[e] at hnum
  replace hnum:ins.length=1:=by rw[hnum];rfl
  obtain⟨i0,rfl⟩:=lnI1 hnum
  obtain⟨bi,oi,ci,rfl,li,mi,lbi,hci⟩:=rdI_cells HI.out (by simp)
  have c0:=hci 0 i0 rfl
  rw[Nat.add_zero] at c0
  clear hci
  have hs0:Smp i0:=hia i0 (by simp)
  simp only[List.length_cons,List.length_nil] at li
  have hst0:0<st.length:=by rw[hst];unfold startSt;simp only[e];simp;have:=HA.out;omega
  obtain⟨bs,os,cs_,rfl,ls,ms,lbs,hcs_⟩:=rdI_cells HS.out hst0
  have hgs:=List.getElem?_eq_getElem hst0
  have s0:=hcs_ 0 _ hgs;rw[Nat.add_zero] at s0
  have hss:Smp st[0]:=hsa _ (List.getElem_mem hst0)
  have HSD:=hide (show st.getD 0 0=st[0] by rw[List.getD_eq_getElem?_getD,hgs];rfl)
  generalize st[0]=y0 at *
  clear hcs_ hgs
  clear hnum hst hia hsa
  have HE:=hide (show outF x tables [i0] st=wrp (i0+x.fA * y0) by unfold outF;simp only[e];rw[HSD.out];rfl)
  rw[e] at p0
  generalize hO:outF x tables [i0] st=OO at *
  clear e hO
  go_enter Tryz.func283,Tryz.ntmps283
  go_wp2
  have g0:=yF c0
  have g1:=yF p1
  have g2:=yF s0
  refine xA (by kernel_rfl) (by kernel_rfl) ?_
  repeat(first|go_big_quiet_skip|(go_big_quiet_want;go_big_quiet_op;first|go_big_quiet_on|(apply Exists.intro;refine⟨fun _=>?_,?_⟩;(· (first|(go_at_call 239;exact Calls.yJ (c_l01Mul _ _ _ hA hss))|(go_at_call 238;exact Calls.yJ (c_mAdd _ _ _ hs0 (wrp_smp _)))));go_big_quiet_on)))
  refine wpQuiet_nil ?_
  rintro w9 ⟨uu,rfl⟩
  have hb9:=yG w uu
  generalize bel w uu=w9 at *
  have HB9:=hide (yI HB0.out HB0.out.size hb9);clear g0 g1 g2
  go_wp2
  go_ret
  exact⟨ret_int (by rw[HE.out];exact wrp_mul_add _ _),HB9.out⟩
end Go.Proofs.YtoibekfhepnedaaGreat
