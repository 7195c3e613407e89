/- Contract: a node's output and next state, by the program. The mix of a session, in plain words. Edits, in plain words. Edits taken back, in plain words. -/
import Derived.Test.YtoibekfhepnedaaGreatQApExactMix
import Derived.Test.YtoibekfhepnedaaGreatQAqExactMix
import Derived.Test.YtoibekfhepnedaaGreatQAnExactMix
import Derived.Test.YtoibekfhepnedaaGreatQAbExactMix
set_option linter.unusedVariables false
set_option linter.unusedSimpArgs false
set_option maxHeartbeats 16000000
set_option maxRecDepth 100000
namespace Go.Proofs.YtoibekfhepnedaaGreat
section
open Go.RowKit
theorem c_step (x:xR) (cs:List Value) (tables:List (List Int)) (ins st:List Int) (tv iv sv:Value) (w:World) (hP:uRz x tables ins st) (hT:T.rd w (T.sl 26 1 (tables.map (T.ints 2))) [tv]) (hI:RdI w iv ins) (hS:RdI w sv st) (h:T.rds w x.fs cs):Calls Tryz.prog 286 #[.agg cs.toArray,tv,iv,sv] w fun e w'=> ∃ v,e= .returned (.tuple #[.int .i64 (wK x tables ins st),v])∧OwI 2 w' w.heap.size v (xW x ins st (wK x tables ins st))∧Below w.heap.size w w':=by
 obtain⟨v3,rfl,h3⟩:=xR.yV h;clear h;obtain⟨va3,vc3,rfl,vl3,vm3,R3,HX3⟩:=oI h3;clear h3;have HB0:=xN (show Below w.heap.size w (w.alloc (.cells #[.int .i64 x.zG,.int .i64 x.fA,.int .i64 x.fB,(.slice va3 x.zK.length vc3)] 167)) from zR.alloc zJ _);have HK0:=xN (Bk.born w 167 #[.int .i64 x.zG,.int .i64 x.fA,.int .i64 x.fB,(.slice va3 x.zK.length vc3)]);have HP:=xN hP;have HT:=xN hT;have HI:=xN hI;have HS:=xN hS;have hk:=xK.1 hP.ok.kind;have h17:x.zG=1∨x.zG=2∨x.zG=3∨x.zG=4∨x.zG=5∨x.zG=6∨x.zG=7∨x.zG=8∨x.zG=9∨x.zG=10∨x.zG=11∨x.zG=12∨x.zG=13∨x.zG=14∨x.zG=15∨x.zG=16∨x.zG=17:=by omega
 have HA0:=xN hP.ok.a;have HB0_:=xN hP.ok.b;have HTB:=xN hP.ok.table;clear hP hT hI hS hk
 rcases h17 with e|e|e|e|e|e|e|e|e|e|e|e|e|e|e|e|e
 ·
  have HOU:=xN (fun(W:World) (hb:Below w.heap.size w W)=>yMz x [.int .i64 x.zG,.int .i64 x.fA,.int .i64 x.fB,.slice va3 x.zK.length vc3] tables ins st tv iv W HP.out (by rw[e];simp) (T.yM HT.out hb) (Rd.below HI.out hb) (xR.rd_mk (T.xB.2 (Rd.below R3.out hb))));have HNX:=xN (show xW x ins st (wK x tables ins st)= [] by unfold xW;simp only[e];rfl);generalize wK x tables ins st=OO at *;generalize xW x ins st OO=NN at *;rw[e] at HB0 HK0 HOU ⊢;clear e
  go_enter Tryz.func286,Tryz.ntmps286
  go_wp2_with fail
  refine(HOU.out _ HB0.out).mono ?_;rintro e w1 ⟨rfl,hb⟩;have HB1:=xN (yQ HB0.out HB0.out.size hb);clear hb;go_wp2_with (go_at_call 193;refine(uR 0 _ (by decide)).mono ?_;rintro e w2 ⟨rfl,ho,hb⟩;have HO2:=xN ho;have HB2:=xN (yQ HB1.out HB1.out.size hb);clear ho hb)
  go_ret2
  exact⟨_,rfl,by rw[HNX.out];exact wU HO2.out HB1.out.size,HB2.out⟩
 ·
  have HOU:=xN (fun(W:World) (hb:Below w.heap.size w W)=>yMz x [.int .i64 x.zG,.int .i64 x.fA,.int .i64 x.fB,.slice va3 x.zK.length vc3] tables ins st tv iv W HP.out (by rw[e];simp) (T.yM HT.out hb) (Rd.below HI.out hb) (xR.rd_mk (T.xB.2 (Rd.below R3.out hb))));have HNX:=xN (show xW x ins st (wK x tables ins st)= [] by unfold xW;simp only[e];rfl);generalize wK x tables ins st=OO at *;generalize xW x ins st OO=NN at *;rw[e] at HB0 HK0 HOU ⊢;clear e
  go_enter Tryz.func286,Tryz.ntmps286
  go_wp2_with fail
  refine(HOU.out _ HB0.out).mono ?_;rintro e w1 ⟨rfl,hb⟩;have HB1:=xN (yQ HB0.out HB0.out.size hb);clear hb;go_wp2_with (go_at_call 193;refine(uR 0 _ (by decide)).mono ?_;rintro e w2 ⟨rfl,ho,hb⟩;have HO2:=xN ho;have HB2:=xN (yQ HB1.out HB1.out.size hb);clear ho hb)
  go_ret2
  exact⟨_,rfl,by rw[HNX.out];exact wU HO2.out HB1.out.size,HB2.out⟩
 ·
  have HOU:=xN (fun(W:World) (hb:Below w.heap.size w W)=>yMz x [.int .i64 x.zG,.int .i64 x.fA,.int .i64 x.fB,.slice va3 x.zK.length vc3] tables ins st tv iv W HP.out (by rw[e];simp) (T.yM HT.out hb) (Rd.below HI.out hb) (xR.rd_mk (T.xB.2 (Rd.below R3.out hb))));have HNX:=xN (show xW x ins st (wK x tables ins st)= [] by unfold xW;simp only[e];rfl);generalize wK x tables ins st=OO at *;generalize xW x ins st OO=NN at *;rw[e] at HB0 HK0 HOU ⊢;clear e
  go_enter Tryz.func286,Tryz.ntmps286
  go_wp2_with fail
  refine(HOU.out _ HB0.out).mono ?_;rintro e w1 ⟨rfl,hb⟩;have HB1:=xN (yQ HB0.out HB0.out.size hb);clear hb;go_wp2_with (go_at_call 193;refine(uR 0 _ (by decide)).mono ?_;rintro e w2 ⟨rfl,ho,hb⟩;have HO2:=xN ho;have HB2:=xN (yQ HB1.out HB1.out.size hb);clear ho hb)
  go_ret2
  exact⟨_,rfl,by rw[HNX.out];exact wU HO2.out HB1.out.size,HB2.out⟩
 ·
  have HOU:=xN (fun(W:World) (hb:Below w.heap.size w W)=>yMz x [.int .i64 x.zG,.int .i64 x.fA,.int .i64 x.fB,.slice va3 x.zK.length vc3] tables ins st tv iv W HP.out (by rw[e];simp) (T.yM HT.out hb) (Rd.below HI.out hb) (xR.rd_mk (T.xB.2 (Rd.below R3.out hb))));have HNX:=xN (show xW x ins st (wK x tables ins st)= [] by unfold xW;simp only[e];rfl);generalize wK x tables ins st=OO at *;generalize xW x ins st OO=NN at *;rw[e] at HB0 HK0 HOU ⊢;clear e
  go_enter Tryz.func286,Tryz.ntmps286
  go_wp2_with fail
  refine(HOU.out _ HB0.out).mono ?_;rintro e w1 ⟨rfl,hb⟩;have HB1:=xN (yQ HB0.out HB0.out.size hb);clear hb;go_wp2_with (go_at_call 193;refine(uR 0 _ (by decide)).mono ?_;rintro e w2 ⟨rfl,ho,hb⟩;have HO2:=xN ho;have HB2:=xN (yQ HB1.out HB1.out.size hb);clear ho hb)
  go_ret2
  exact⟨_,rfl,by rw[HNX.out];exact wU HO2.out HB1.out.size,HB2.out⟩
 ·
  have hA:Smp x.fA:=by have h:=HA0.out;rw[e] at h;exact xK.1 h
  have HOU:=xN (fun(W:World) (hb:Below w.heap.size w W)=>yMz x [.int .i64 x.zG,.int .i64 x.fA,.int .i64 x.fB,.slice va3 x.zK.length vc3] tables ins st tv iv W HP.out (by rw[e];simp) (T.yM HT.out hb) (Rd.below HI.out hb) (xR.rd_mk (T.xB.2 (Rd.below R3.out hb))));have HNX:=xN (show xW x ins st (wK x tables ins st)= [] by unfold xW;simp only[e];rfl);generalize wK x tables ins st=OO at *;generalize xW x ins st OO=NN at *;rw[e] at HB0 HK0 HOU ⊢;clear e
  go_enter Tryz.func286,Tryz.ntmps286
  go_wp2_with fail
  refine(HOU.out _ HB0.out).mono ?_;rintro e w1 ⟨rfl,hb⟩;have HB1:=xN (yQ HB0.out HB0.out.size hb);clear hb;go_wp2_with (go_at_call 193;refine(uR 0 _ (by decide)).mono ?_;rintro e w2 ⟨rfl,ho,hb⟩;have HO2:=xN ho;have HB2:=xN (yQ HB1.out HB1.out.size hb);clear ho hb)
  go_ret2
  exact⟨_,rfl,by rw[HNX.out];exact wU HO2.out HB1.out.size,HB2.out⟩
 ·
  have HA:=xN (show 1≤x.fA∧x.fA≤16 by have h:=HA0.out;rw[e] at h;exact xK.1 h);have hnum:=HP.out.num;have hst:=HP.out.state;have hia:=HP.out.ins_;have hsa:=HP.out.st_;rw[e] at hnum;replace hnum:ins.length=1:=by rw[hnum];rfl
  obtain⟨i0,rfl⟩:=xEz hnum;obtain⟨bi,oi,ci,rfl,li,mi,lbi,hci⟩:=xY HI.out (by simp);have c0:=hci 0 i0 rfl;rw[Nat.add_zero] at c0;clear hci;have hs0:Smp i0:=hia i0 (by simp);simp only[List.length_cons,List.length_nil] at li;have hst0:0<st.length:=by rw[hst];unfold wO;simp only[e];simp;have:=HA.out;omega
  obtain⟨bs,os,cs_,rfl,ls,ms,lbs,hcs_⟩:=xY HS.out hst0;have hgs:=gE hst0;have s0:=hcs_ 0 _ hgs;rw[Nat.add_zero] at s0;have hss:Smp st[0]:=hsa _ (List.getElem_mem hst0);have HSD:=xN (show st.getD 0 0=st[0] by rw[List.getD_eq_getElem?_getD,hgs];rfl);generalize st[0]=y0 at *;clear hcs_ hgs;clear hnum hst hia hsa;have HE:=xN (show wK x tables [i0] st=y0 by unfold wK;simp only[e];(try rw[HSD.out]);(try rfl));generalize wK x tables [i0] st=OO at *;have HNX:=xN (show xW x [i0] st OO=st.drop 1++ [i0] by unfold xW;simp only[e];(try rw[HSD.out]);(try rfl));generalize xW x [i0] st OO=NN at *;have HK_:=xN e;have hst1:1≤st.length:=hst0;have hsl:st.length≤1048576:=by have h:=HP.out.state;unfold wO at h;simp only[HK_.out] at h;simp at h;have:=HA.out;omega
  have HT1:=xN (yRy HS.out hst1);rw[e] at HB0 HK0 ⊢;clear e;by_cases hq:cs_=1
  ·
   subst hq;have HTL:=xN (HT1.out.1 rfl);have hl1:st.length=1:=by omega
   have hdl:(st.drop 1).length≤1048576:=by rw[List.length_drop];omega
   go_enter Tryz.func286,Tryz.ntmps286
   go_wp2;generalize (w.alloc (.cells #[.int .i64 6,.int .i64 x.fA,.int .i64 x.fB,(.slice va3 x.zK.length vc3)] 167))=W at *;have HBd:=xN HB0.out.drew;have HC:=xN (show W.drew.cell? ⟨bi,oi,none⟩=some (.int .i64 i0)∧W.drew.cell? ⟨bs,os,none⟩=some (.int .i64 y0) from⟨(HB0.out.cell lbi).trans c0,(HB0.out.cell lbs).trans s0⟩);have hsd:=HBd.out.size;have HTd:=xN (RdI.below HTL.out HBd.out);refine wH (fun w'=>w'.cell? ⟨bi,oi,none⟩=some (.int .i64 i0)∧w'.cell? ⟨bs,os,none⟩=some (.int .i64 y0)) [] (by kernel_rfl) ?_ (fun hS0=>?_)
   ·exact HC.out
   generalize W.drew=wd at *;refine zN 0 hS0 ?_;refine zN 1 hS0 ?_;refine zN 2 hS0 ?_;refine zN 3 hS0 ?_;refine zN 4 hS0 ?_;refine zN 6 hS0 ?_;refine zN 7 hS0 ?_;refine zN 8 hS0 ?_;refine vS (i:=5) (j:=9) (o:=_) (o2:=_) (by kernel_rfl) rfl rfl (fun K hK=>?_) (fun K hK=>?_)
   ·
    go_simp;go_wp2_with (go_at_call 112;refine(yFz _ (st.drop 1) _ HTd.out hdl).mono ?_;rintro e w3 ⟨v3,rfl,ho,hb⟩)
    have HC3:=xN (show w3.cell? ⟨bi,oi,none⟩=some (.int .i64 i0)∧w3.cell? ⟨bs,os,none⟩=some (.int .i64 y0) from⟨(hb.cell (World.block_lt_of_cell? _ _ HC.out.1)).trans HC.out.1,(hb.cell (World.block_lt_of_cell? _ _ HC.out.2)).trans HC.out.2⟩);have HO3:=xN (wU ho hsd);have HB3:=xN (yQ HBd.out hsd hb);have hs3:=HB3.out.size;clear ho hb;refine uN hK ?_ (fun hS1=>?_)
    ·exact HC3.out
    clear hK K hS0;have HA4:=xN (show Below w3.heap.size w3 (w3.alloc (.cells #[.int .i64 i0] 2)) from zR.alloc zJ _);have HO4:=xN (wX HO3.out HA4.out);have HB4:=xN (yQ HB3.out hs3 HA4.out);have HL4:=xN (OwI.rd (lit1 w3 i0));have HC4:=xN (show (w3.alloc (.cells #[.int .i64 i0] 2)).cell? ⟨bi,oi,none⟩=some (.int .i64 i0)∧(w3.alloc (.cells #[.int .i64 i0] 2)).cell? ⟨bs,os,none⟩=some (.int .i64 y0) from⟨(HA4.out.cell (World.block_lt_of_cell? _ _ HC3.out.1)).trans HC3.out.1,(HA4.out.cell (World.block_lt_of_cell? _ _ HC3.out.2)).trans HC3.out.2⟩);have hs4:=HB4.out.size;refine pN 9 (fun K hK=>?_);go_simp;refine uN hK ?_ (fun hS2=>?_)
    ·exact HC4.out
    clear hK K hS1;refine pN 10 (fun K hK=>?_);refine uL rfl _ _ rfl rfl HO4.out (ys:= [i0]) rfl HL4.out (by simp only[List.length_cons,List.length_nil];omega) hs4 ?_;intro v8 w8 ho hg hv;have HB8:=xN (vH HB4.out HO4.out hg zJ hs4);have HO8:=xN ho;have HC8:=xN (show w8.cell? ⟨bi,oi,none⟩=some (.int .i64 i0)∧w8.cell? ⟨bs,os,none⟩=some (.int .i64 y0) from⟨(HB8.out.cell lbi).trans ((HB4.out.cell lbi).symm.trans HC4.out.1),(HB8.out.cell lbs).trans ((HB4.out.cell lbs).symm.trans HC4.out.2)⟩);clear ho hg hv;refine uN hK ?_ (fun hS3=>?_)
    ·exact HC8.out
    clear hK K hS2;refine pN 11 (fun K hK=>?_);go_simp;refine uN hK ?_ (fun hS4=>?_)
    ·exact HC8.out
    clear hK K hS3;refine pN 12 (fun K hK=>?_);go_simp;refine uN hK ?_ (fun hS5=>?_)
    ·exact HC8.out
    clear hK K hS4;refine qN ?_;clear hS5;go_wp2
    go_ret2
    exact⟨_,by rw[HE.out];rfl,by rw[HNX.out];exact HO8.out,HB8.out⟩
   ·
    have HA3:=xN (show Below wd.heap.size wd (wd.alloc (.cells #[.int .i64 i0] 2)) from zR.alloc zJ _);have HL3:=xN (OwI.rd (lit1 wd i0));have HC3:=xN (show (wd.alloc (.cells #[.int .i64 i0] 2)).cell? ⟨bi,oi,none⟩=some (.int .i64 i0)∧(wd.alloc (.cells #[.int .i64 i0] 2)).cell? ⟨bs,os,none⟩=some (.int .i64 y0) from⟨(HA3.out.cell (World.block_lt_of_cell? _ _ HC.out.1)).trans HC.out.1,(HA3.out.cell (World.block_lt_of_cell? _ _ HC.out.2)).trans HC.out.2⟩);have HB3:=xN (yQ HBd.out hsd HA3.out);have HT3:=xN (RdI.below HTd.out HA3.out);have hs3:=HB3.out.size;go_simp;refine uN hK ?_ (fun hS1=>?_)
    ·exact HC3.out
    clear hK K hS0;generalize wd.alloc (.cells #[.int .i64 i0] 2)=W3 at *;refine pN 5 (fun K hK=>?_);go_simp;go_wp2_with (go_at_call 112;refine(yFz _ (st.drop 1) _ HT3.out hdl).mono ?_;rintro e w4 ⟨v3,rfl,ho,hb⟩)
    have HB4:=xN (yQ HB3.out hs3 hb);have HO4:=xN (wU ho hs3);have HL4:=xN (RdI.below HL3.out hb);have HC4:=xN (show w4.cell? ⟨bi,oi,none⟩=some (.int .i64 i0)∧w4.cell? ⟨bs,os,none⟩=some (.int .i64 y0) from⟨(hb.cell (World.block_lt_of_cell? _ _ HC3.out.1)).trans HC3.out.1,(hb.cell (World.block_lt_of_cell? _ _ HC3.out.2)).trans HC3.out.2⟩);have hs4:=HB4.out.size;clear ho hb;refine uN hK ?_ (fun hS2=>?_)
    ·exact HC4.out
    clear hK K hS1;refine pN 10 (fun K hK=>?_);refine uL rfl _ _ rfl rfl HO4.out (ys:= [i0]) rfl HL4.out (by simp only[List.length_cons,List.length_nil];omega) hs4 ?_;intro v8 w8 ho hg hv;have HB8:=xN (vH HB4.out HO4.out hg zJ hs4);have HO8:=xN ho;have HC8:=xN (show w8.cell? ⟨bi,oi,none⟩=some (.int .i64 i0)∧w8.cell? ⟨bs,os,none⟩=some (.int .i64 y0) from⟨(HB8.out.cell lbi).trans ((HB4.out.cell lbi).symm.trans HC4.out.1),(HB8.out.cell lbs).trans ((HB4.out.cell lbs).symm.trans HC4.out.2)⟩);clear ho hg hv;refine uN hK ?_ (fun hS3=>?_)
    ·exact HC8.out
    clear hK K hS2;refine pN 11 (fun K hK=>?_);go_simp;refine uN hK ?_ (fun hS4=>?_)
    ·exact HC8.out
    clear hK K hS3;refine pN 12 (fun K hK=>?_);go_simp;refine uN hK ?_ (fun hS5=>?_)
    ·exact HC8.out
    clear hK K hS4;refine qN ?_;clear hS5;go_wp2
    go_ret2
    exact⟨_,by rw[HE.out];rfl,by rw[HNX.out];exact HO8.out,HB8.out⟩
  ·
   have HTL:=xN (HT1.out.2 zM);have q1:(1:Int)<(cs_:Int):=zM;have q2:1<cs_:=zM;have q3:(1:Int)≤(st.length:Int):=zM;have hdl:(st.drop 1).length≤1048576:=by rw[List.length_drop];omega
   go_enter Tryz.func286,Tryz.ntmps286
   go_wp2;generalize (w.alloc (.cells #[.int .i64 6,.int .i64 x.fA,.int .i64 x.fB,(.slice va3 x.zK.length vc3)] 167))=W at *;have HBd:=xN HB0.out.drew;have HC:=xN (show W.drew.cell? ⟨bi,oi,none⟩=some (.int .i64 i0)∧W.drew.cell? ⟨bs,os,none⟩=some (.int .i64 y0) from⟨(HB0.out.cell lbi).trans c0,(HB0.out.cell lbs).trans s0⟩);have hsd:=HBd.out.size;have HTd:=xN (RdI.below HTL.out HBd.out);refine wH (fun w'=>w'.cell? ⟨bi,oi,none⟩=some (.int .i64 i0)∧w'.cell? ⟨bs,os,none⟩=some (.int .i64 y0)) [] (by kernel_rfl) ?_ (fun hS0=>?_)
   ·exact HC.out
   generalize W.drew=wd at *;refine zN 0 hS0 ?_;refine zN 1 hS0 ?_;refine zN 2 hS0 ?_;refine zN 3 hS0 ?_;refine zN 4 hS0 ?_;refine zN 6 hS0 ?_;refine zN 7 hS0 ?_;refine zN 8 hS0 ?_;refine vS (i:=5) (j:=9) (o:=_) (o2:=_) (by kernel_rfl) rfl rfl (fun K hK=>?_) (fun K hK=>?_)
   ·
    go_simp;go_wp2_with (go_at_call 112;refine(yFz _ (st.drop 1) _ HTd.out hdl).mono ?_;rintro e w3 ⟨v3,rfl,ho,hb⟩)
    have HC3:=xN (show w3.cell? ⟨bi,oi,none⟩=some (.int .i64 i0)∧w3.cell? ⟨bs,os,none⟩=some (.int .i64 y0) from⟨(hb.cell (World.block_lt_of_cell? _ _ HC.out.1)).trans HC.out.1,(hb.cell (World.block_lt_of_cell? _ _ HC.out.2)).trans HC.out.2⟩);have HO3:=xN (wU ho hsd);have HB3:=xN (yQ HBd.out hsd hb);have hs3:=HB3.out.size;clear ho hb;refine uN hK ?_ (fun hS1=>?_)
    ·exact HC3.out
    clear hK K hS0;have HA4:=xN (show Below w3.heap.size w3 (w3.alloc (.cells #[.int .i64 i0] 2)) from zR.alloc zJ _);have HO4:=xN (wX HO3.out HA4.out);have HB4:=xN (yQ HB3.out hs3 HA4.out);have HL4:=xN (OwI.rd (lit1 w3 i0));have HC4:=xN (show (w3.alloc (.cells #[.int .i64 i0] 2)).cell? ⟨bi,oi,none⟩=some (.int .i64 i0)∧(w3.alloc (.cells #[.int .i64 i0] 2)).cell? ⟨bs,os,none⟩=some (.int .i64 y0) from⟨(HA4.out.cell (World.block_lt_of_cell? _ _ HC3.out.1)).trans HC3.out.1,(HA4.out.cell (World.block_lt_of_cell? _ _ HC3.out.2)).trans HC3.out.2⟩);have hs4:=HB4.out.size;refine pN 9 (fun K hK=>?_);go_simp;refine uN hK ?_ (fun hS2=>?_)
    ·exact HC4.out
    clear hK K hS1;refine pN 10 (fun K hK=>?_);refine uL rfl _ _ rfl rfl HO4.out (ys:= [i0]) rfl HL4.out (by simp only[List.length_cons,List.length_nil];omega) hs4 ?_;intro v8 w8 ho hg hv;have HB8:=xN (vH HB4.out HO4.out hg zJ hs4);have HO8:=xN ho;have HC8:=xN (show w8.cell? ⟨bi,oi,none⟩=some (.int .i64 i0)∧w8.cell? ⟨bs,os,none⟩=some (.int .i64 y0) from⟨(HB8.out.cell lbi).trans ((HB4.out.cell lbi).symm.trans HC4.out.1),(HB8.out.cell lbs).trans ((HB4.out.cell lbs).symm.trans HC4.out.2)⟩);clear ho hg hv;refine uN hK ?_ (fun hS3=>?_)
    ·exact HC8.out
    clear hK K hS2;refine pN 11 (fun K hK=>?_);go_simp;refine uN hK ?_ (fun hS4=>?_)
    ·exact HC8.out
    clear hK K hS3;refine pN 12 (fun K hK=>?_);go_simp;refine uN hK ?_ (fun hS5=>?_)
    ·exact HC8.out
    clear hK K hS4;refine qN ?_;clear hS5;go_wp2
    go_ret2
    exact⟨_,by rw[HE.out];rfl,by rw[HNX.out];exact HO8.out,HB8.out⟩
   ·
    have HA3:=xN (show Below wd.heap.size wd (wd.alloc (.cells #[.int .i64 i0] 2)) from zR.alloc zJ _);have HL3:=xN (OwI.rd (lit1 wd i0));have HC3:=xN (show (wd.alloc (.cells #[.int .i64 i0] 2)).cell? ⟨bi,oi,none⟩=some (.int .i64 i0)∧(wd.alloc (.cells #[.int .i64 i0] 2)).cell? ⟨bs,os,none⟩=some (.int .i64 y0) from⟨(HA3.out.cell (World.block_lt_of_cell? _ _ HC.out.1)).trans HC.out.1,(HA3.out.cell (World.block_lt_of_cell? _ _ HC.out.2)).trans HC.out.2⟩);have HB3:=xN (yQ HBd.out hsd HA3.out);have HT3:=xN (RdI.below HTd.out HA3.out);have hs3:=HB3.out.size;go_simp;refine uN hK ?_ (fun hS1=>?_)
    ·exact HC3.out
    clear hK K hS0;generalize wd.alloc (.cells #[.int .i64 i0] 2)=W3 at *;refine pN 5 (fun K hK=>?_);go_simp;go_wp2_with (go_at_call 112;refine(yFz _ (st.drop 1) _ HT3.out hdl).mono ?_;rintro e w4 ⟨v3,rfl,ho,hb⟩)
    have HB4:=xN (yQ HB3.out hs3 hb);have HO4:=xN (wU ho hs3);have HL4:=xN (RdI.below HL3.out hb);have HC4:=xN (show w4.cell? ⟨bi,oi,none⟩=some (.int .i64 i0)∧w4.cell? ⟨bs,os,none⟩=some (.int .i64 y0) from⟨(hb.cell (World.block_lt_of_cell? _ _ HC3.out.1)).trans HC3.out.1,(hb.cell (World.block_lt_of_cell? _ _ HC3.out.2)).trans HC3.out.2⟩);have hs4:=HB4.out.size;clear ho hb;refine uN hK ?_ (fun hS2=>?_)
    ·exact HC4.out
    clear hK K hS1;refine pN 10 (fun K hK=>?_);refine uL rfl _ _ rfl rfl HO4.out (ys:= [i0]) rfl HL4.out (by simp only[List.length_cons,List.length_nil];omega) hs4 ?_;intro v8 w8 ho hg hv;have HB8:=xN (vH HB4.out HO4.out hg zJ hs4);have HO8:=xN ho;have HC8:=xN (show w8.cell? ⟨bi,oi,none⟩=some (.int .i64 i0)∧w8.cell? ⟨bs,os,none⟩=some (.int .i64 y0) from⟨(HB8.out.cell lbi).trans ((HB4.out.cell lbi).symm.trans HC4.out.1),(HB8.out.cell lbs).trans ((HB4.out.cell lbs).symm.trans HC4.out.2)⟩);clear ho hg hv;refine uN hK ?_ (fun hS3=>?_)
    ·exact HC8.out
    clear hK K hS2;refine pN 11 (fun K hK=>?_);go_simp;refine uN hK ?_ (fun hS4=>?_)
    ·exact HC8.out
    clear hK K hS3;refine pN 12 (fun K hK=>?_);go_simp;refine uN hK ?_ (fun hS5=>?_)
    ·exact HC8.out
    clear hK K hS4;refine qN ?_;clear hS5;go_wp2
    go_ret2
    exact⟨_,by rw[HE.out];rfl,by rw[HNX.out];exact HO8.out,HB8.out⟩
 ·
  have hnum:=HP.out.num;have hst:=HP.out.state;have hia:=HP.out.ins_;have hsa:=HP.out.st_;rw[e] at hnum;replace hnum:ins.length=1:=by rw[hnum];rfl
  obtain⟨i0,rfl⟩:=xEz hnum;obtain⟨bi,oi,ci,rfl,li,mi,lbi,hci⟩:=xY HI.out (by simp);have c0:=hci 0 i0 rfl;rw[Nat.add_zero] at c0;clear hci;have hs0:Smp i0:=hia i0 (by simp);simp only[List.length_cons,List.length_nil] at li;have hst0:0<st.length:=by rw[hst];unfold wO;simp only[e];simp
  obtain⟨bs,os,cs_,rfl,ls,ms,lbs,hcs_⟩:=xY HS.out hst0;have hgs:=gE hst0;have s0:=hcs_ 0 _ hgs;rw[Nat.add_zero] at s0;have hss:Smp st[0]:=hsa _ (List.getElem_mem hst0);have HSD:=xN (show st.getD 0 0=st[0] by rw[List.getD_eq_getElem?_getD,hgs];rfl);generalize st[0]=y0 at *;clear hcs_ hgs;clear hnum hst hia hsa;have HE:=xN (show wK x tables [i0] st=wrp (y0+i0) by unfold wK;simp only[e];(try rw[HSD.out]);(try rfl));generalize wK x tables [i0] st=OO at *;have HNX:=xN (show xW x [i0] st OO= [OO] by unfold xW;simp only[e];(try rw[HSD.out]);(try rfl));generalize xW x [i0] st OO=NN at *;rw[e] at HB0 HK0 ⊢;clear e;have hw:IntKind.i64.wrap (y0+i0)=y0+i0:=IntWalk.i64_in _ (by unfold Smp at *;omega)
  go_enter Tryz.func286,Tryz.ntmps286
  go_wp2;generalize (w.alloc (.cells #[.int .i64 7,.int .i64 x.fA,.int .i64 x.fB,(.slice va3 x.zK.length vc3)] 167))=W at *;have g0:=xM HK0.out;have g1:=yN ((HB0.out.cell lbi).trans c0);have g2:=yN ((HB0.out.cell lbs).trans s0);refine rB ?_
  repeat(first|go_big_quiet_skip|(go_big_quiet_want;go_big_quiet_op;first|go_big_quiet_on|(apply Exists.intro;refine⟨fun _=>?_,?_⟩;(· (first|(go_at_call 242;exact Calls.yR (yTz _ _))));go_big_quiet_on)))
  refine wpQuiet_nil ?_;rintro w9 ⟨uu,rfl⟩;have hb9:=yO W uu;generalize bel W uu=w9 at *;have HB9:=xN (yQ HB0.out HB0.out.size hb9);have hs9:=HB9.out.size;clear g0 g1 g2 hb9;go_wp2
  go_ret2
  exact⟨_,by rw[HE.out];rfl,by rw[HNX.out,HE.out];exact wU (lit1 w9 _) hs9,HB9.out.alloc hs9 _⟩
 ·
  have hnum:=HP.out.num;have hst:=HP.out.state;have hia:=HP.out.ins_;have hsa:=HP.out.st_;rw[e] at hnum;replace hnum:ins.length=1:=by rw[hnum];rfl
  obtain⟨i0,rfl⟩:=xEz hnum;obtain⟨bi,oi,ci,rfl,li,mi,lbi,hci⟩:=xY HI.out (by simp);have c0:=hci 0 i0 rfl;rw[Nat.add_zero] at c0;clear hci;have hs0:Smp i0:=hia i0 (by simp);simp only[List.length_cons,List.length_nil] at li;have hst0:0<st.length:=by rw[hst];unfold wO;simp only[e];simp
  obtain⟨bs,os,cs_,rfl,ls,ms,lbs,hcs_⟩:=xY HS.out hst0;have hgs:=gE hst0;have s0:=hcs_ 0 _ hgs;rw[Nat.add_zero] at s0;have hss:Smp st[0]:=hsa _ (List.getElem_mem hst0);have HSD:=xN (show st.getD 0 0=st[0] by rw[List.getD_eq_getElem?_getD,hgs];rfl);generalize st[0]=y0 at *;clear hcs_ hgs;clear hnum hst hia hsa;have HE:=xN (show wK x tables [i0] st=wrp (i0 - y0) by unfold wK;simp only[e];(try rw[HSD.out]);(try rfl));generalize wK x tables [i0] st=OO at *;have HNX:=xN (show xW x [i0] st OO= [i0] by unfold xW;simp only[e];(try rw[HSD.out]);(try rfl));generalize xW x [i0] st OO=NN at *;rw[e] at HB0 HK0 ⊢;clear e;have hw:IntKind.i64.wrap (i0 - y0)=i0 - y0:=IntWalk.i64_in _ (by unfold Smp at *;omega)
  go_enter Tryz.func286,Tryz.ntmps286
  go_wp2;generalize (w.alloc (.cells #[.int .i64 8,.int .i64 x.fA,.int .i64 x.fB,(.slice va3 x.zK.length vc3)] 167))=W at *;have HBd:=xN HB0.out.drew;have HC:=xN (show W.drew.cell? ⟨bi,oi,none⟩=some (.int .i64 i0)∧W.drew.cell? ⟨bs,os,none⟩=some (.int .i64 y0) from⟨(HB0.out.cell lbi).trans c0,(HB0.out.cell lbs).trans s0⟩);have hsd:=HBd.out.size;refine wH (fun w'=>w'.cell? ⟨bi,oi,none⟩=some (.int .i64 i0)∧w'.cell? ⟨bs,os,none⟩=some (.int .i64 y0)) [] (by kernel_rfl) ?_ (fun hS0=>?_)
  ·exact HC.out
  generalize W.drew=wd at *;refine zN 0 hS0 ?_;refine zN 1 hS0 ?_;refine zN 2 hS0 ?_;refine zN 3 hS0 ?_;refine zN 4 hS0 ?_;refine zN 5 hS0 ?_;refine zN 6 hS0 ?_;refine zN 8 hS0 ?_;refine zN 9 hS0 ?_;refine zN 10 hS0 ?_;have HA4:=xN (show Below wd.heap.size wd (wd.alloc (.cells #[.int .i64 i0] 2)) from zR.alloc zJ _);have HC4:=xN (show (wd.alloc (.cells #[.int .i64 i0] 2)).cell? ⟨bi,oi,none⟩=some (.int .i64 i0)∧(wd.alloc (.cells #[.int .i64 i0] 2)).cell? ⟨bs,os,none⟩=some (.int .i64 y0) from⟨(HA4.out.cell (World.block_lt_of_cell? _ _ HC.out.1)).trans HC.out.1,(HA4.out.cell (World.block_lt_of_cell? _ _ HC.out.2)).trans HC.out.2⟩);refine vS (i:=7) (j:=11) (o:=_) (o2:=_) (by kernel_rfl) rfl rfl (fun K hK=>?_) (fun K hK=>?_)
  ·
   go_simp;go_wp2_with (go_at_call 242;refine(yTz _ _).mono ?_;rintro e w' ⟨rfl,rfl⟩)
   refine uN hK ?_ (fun hS1=>?_)
   ·exact HC.out
   clear hK K hS0;refine zN 12 hS1 ?_;refine pN 11 (fun K hK=>?_);go_simp;refine uN hK ?_ (fun hS2=>?_)
   ·exact HC4.out
   clear hK K hS1;refine pN 13 (fun K hK=>?_);go_simp;refine uN hK ?_ (fun hS3=>?_)
   ·exact HC4.out
   clear hK K hS2;refine qN ?_;clear hS3;go_wp2
   go_ret2
   exact⟨_,by rw[HE.out];rfl,by rw[HNX.out];exact wU (lit1 wd _) hsd,yQ HBd.out hsd HA4.out⟩
  ·
   go_simp;refine uN hK ?_ (fun hS1=>?_)
   ·exact HC4.out
   clear hK K hS0;refine pN 7 (fun K hK=>?_);go_simp;go_wp2_with (go_at_call 242;refine(yTz _ _).mono ?_;rintro e w' ⟨rfl,rfl⟩)
   refine uN hK ?_ (fun hS2=>?_)
   ·exact HC4.out
   clear hK K hS1;refine pN 12 (fun K hK=>?_);go_simp;refine uN hK ?_ (fun hS3=>?_)
   ·exact HC4.out
   clear hK K hS2;refine pN 13 (fun K hK=>?_);go_simp;refine uN hK ?_ (fun hS4=>?_)
   ·exact HC4.out
   clear hK K hS3;refine qN ?_;clear hS4;go_wp2
   go_ret2
   exact⟨_,by rw[HE.out];rfl,by rw[HNX.out];exact wU (lit1 wd _) hsd,yQ HBd.out hsd HA4.out⟩
 ·
  have HOU:=xN (fun(W:World) (hb:Below w.heap.size w W)=>yMz x [.int .i64 x.zG,.int .i64 x.fA,.int .i64 x.fB,.slice va3 x.zK.length vc3] tables ins st tv iv W HP.out (by rw[e];simp) (T.yM HT.out hb) (Rd.below HI.out hb) (xR.rd_mk (T.xB.2 (Rd.below R3.out hb))));have HNX:=xN (show xW x ins st (wK x tables ins st)= [] by unfold xW;simp only[e];rfl);generalize wK x tables ins st=OO at *;generalize xW x ins st OO=NN at *;rw[e] at HB0 HK0 HOU ⊢;clear e
  go_enter Tryz.func286,Tryz.ntmps286
  go_wp2_with fail
  refine(HOU.out _ HB0.out).mono ?_;rintro e w1 ⟨rfl,hb⟩;have HB1:=xN (yQ HB0.out HB0.out.size hb);clear hb;go_wp2_with (go_at_call 193;refine(uR 0 _ (by decide)).mono ?_;rintro e w2 ⟨rfl,ho,hb⟩;have HO2:=xN ho;have HB2:=xN (yQ HB1.out HB1.out.size hb);clear ho hb)
  go_ret2
  exact⟨_,rfl,by rw[HNX.out];exact wU HO2.out HB1.out.size,HB2.out⟩
 ·
  have hA:0≤x.fA∧x.fA≤31:=by have h:=HA0.out;rw[e] at h;exact xK.1 h
  have HOU:=xN (fun(W:World) (hb:Below w.heap.size w W)=>yMz x [.int .i64 x.zG,.int .i64 x.fA,.int .i64 x.fB,.slice va3 x.zK.length vc3] tables ins st tv iv W HP.out (by rw[e];simp) (T.yM HT.out hb) (Rd.below HI.out hb) (xR.rd_mk (T.xB.2 (Rd.below R3.out hb))));have HNX:=xN (show xW x ins st (wK x tables ins st)= [] by unfold xW;simp only[e];rfl);generalize wK x tables ins st=OO at *;generalize xW x ins st OO=NN at *;rw[e] at HB0 HK0 HOU ⊢;clear e
  go_enter Tryz.func286,Tryz.ntmps286
  go_wp2_with fail
  refine(HOU.out _ HB0.out).mono ?_;rintro e w1 ⟨rfl,hb⟩;have HB1:=xN (yQ HB0.out HB0.out.size hb);clear hb;go_wp2_with (go_at_call 193;refine(uR 0 _ (by decide)).mono ?_;rintro e w2 ⟨rfl,ho,hb⟩;have HO2:=xN ho;have HB2:=xN (yQ HB1.out HB1.out.size hb);clear ho hb)
  go_ret2
  exact⟨_,rfl,by rw[HNX.out];exact wU HO2.out HB1.out.size,HB2.out⟩
 ·
  have hA:0≤x.fA∧x.fA≤2147483647:=by have h:=HA0.out;rw[e] at h;exact xK.1 h
  have HOU:=xN (fun(W:World) (hb:Below w.heap.size w W)=>yMz x [.int .i64 x.zG,.int .i64 x.fA,.int .i64 x.fB,.slice va3 x.zK.length vc3] tables ins st tv iv W HP.out (by rw[e];simp) (T.yM HT.out hb) (Rd.below HI.out hb) (xR.rd_mk (T.xB.2 (Rd.below R3.out hb))));have HNX:=xN (show xW x ins st (wK x tables ins st)= [] by unfold xW;simp only[e];rfl);generalize wK x tables ins st=OO at *;generalize xW x ins st OO=NN at *;rw[e] at HB0 HK0 HOU ⊢;clear e
  go_enter Tryz.func286,Tryz.ntmps286
  go_wp2_with fail
  refine(HOU.out _ HB0.out).mono ?_;rintro e w1 ⟨rfl,hb⟩;have HB1:=xN (yQ HB0.out HB0.out.size hb);clear hb;go_wp2_with (go_at_call 193;refine(uR 0 _ (by decide)).mono ?_;rintro e w2 ⟨rfl,ho,hb⟩;have HO2:=xN ho;have HB2:=xN (yQ HB1.out HB1.out.size hb);clear ho hb)
  go_ret2
  exact⟨_,rfl,by rw[HNX.out];exact wU HO2.out HB1.out.size,HB2.out⟩
 ·
  have hnum:=HP.out.num;have hst:=HP.out.state;have hia:=HP.out.ins_;have hsa:=HP.out.st_;rw[e] at hnum;replace hnum:ins.length=1:=by rw[hnum];rfl
  obtain⟨i0,rfl⟩:=xEz hnum;obtain⟨bi,oi,ci,rfl,li,mi,lbi,hci⟩:=xY HI.out (by simp);have c0:=hci 0 i0 rfl;rw[Nat.add_zero] at c0;clear hci;have hs0:Smp i0:=hia i0 (by simp);simp only[List.length_cons,List.length_nil] at li;have hst0:0<st.length:=by rw[hst];unfold wO;simp only[e];simp
  obtain⟨bs,os,cs_,rfl,ls,ms,lbs,hcs_⟩:=xY HS.out hst0;have hgs:=gE hst0;have s0:=hcs_ 0 _ hgs;rw[Nat.add_zero] at s0;have hss:Smp st[0]:=hsa _ (List.getElem_mem hst0);have HSD:=xN (show st.getD 0 0=st[0] by rw[List.getD_eq_getElem?_getD,hgs];rfl);generalize st[0]=y0 at *;clear hcs_ hgs;clear hnum hst hia hsa;have HE:=xN (show wK x tables [i0] st=y0 by unfold wK;simp only[e];(try rw[HSD.out]);(try rfl));generalize wK x tables [i0] st=OO at *;have HNX:=xN (show xW x [i0] st OO= [wrp (y0+i0)] by unfold xW;simp only[e];(try rw[HSD.out]);(try rfl));generalize xW x [i0] st OO=NN at *;rw[e] at HB0 HK0 ⊢;clear e;have hw:IntKind.i64.wrap (y0+i0)=y0+i0:=IntWalk.i64_in _ (by unfold Smp at *;omega)
  go_enter Tryz.func286,Tryz.ntmps286
  go_wp2;generalize (w.alloc (.cells #[.int .i64 12,.int .i64 x.fA,.int .i64 x.fB,(.slice va3 x.zK.length vc3)] 167))=W at *;have HBd:=xN HB0.out.drew;have HC:=xN (show W.drew.cell? ⟨bi,oi,none⟩=some (.int .i64 i0)∧W.drew.cell? ⟨bs,os,none⟩=some (.int .i64 y0) from⟨(HB0.out.cell lbi).trans c0,(HB0.out.cell lbs).trans s0⟩);have hsd:=HBd.out.size;refine wH (fun w'=>w'.cell? ⟨bi,oi,none⟩=some (.int .i64 i0)∧w'.cell? ⟨bs,os,none⟩=some (.int .i64 y0)) [] (by kernel_rfl) ?_ (fun hS0=>?_)
  ·exact HC.out
  generalize W.drew=wd at *;refine zN 0 hS0 ?_;refine zN 1 hS0 ?_;refine zN 2 hS0 ?_;refine zN 3 hS0 ?_;refine zN 4 hS0 ?_;refine zN 5 hS0 ?_;refine zN 6 hS0 ?_;refine zN 7 hS0 ?_;refine zN 8 hS0 ?_;refine zN 9 hS0 ?_;refine pN 10 (fun K hK=>?_);go_simp;go_wp2_with (go_at_call 242;refine(yTz _ _).mono ?_;rintro e w' ⟨rfl,rfl⟩)
  refine uN hK ?_ (fun hS1=>?_)
  ·exact HC.out
  clear hK K hS0;have HA4:=xN (show Below wd.heap.size wd (wd.alloc (.cells #[.int .i64 (wrp (y0+i0))] 2)) from zR.alloc zJ _);have HC4:=xN (show (wd.alloc (.cells #[.int .i64 (wrp (y0+i0))] 2)).cell? ⟨bi,oi,none⟩=some (.int .i64 i0)∧(wd.alloc (.cells #[.int .i64 (wrp (y0+i0))] 2)).cell? ⟨bs,os,none⟩=some (.int .i64 y0) from⟨(HA4.out.cell (World.block_lt_of_cell? _ _ HC.out.1)).trans HC.out.1,(HA4.out.cell (World.block_lt_of_cell? _ _ HC.out.2)).trans HC.out.2⟩);refine zN 12 hS1 ?_;refine pN 11 (fun K hK=>?_);go_simp;refine uN hK ?_ (fun hS2=>?_)
  ·exact HC4.out
  clear hK K hS1;refine pN 13 (fun K hK=>?_);go_simp;refine uN hK ?_ (fun hS3=>?_)
  ·exact HC4.out
  clear hK K hS2;refine qN ?_;clear hS3;go_wp2
  go_ret2
  exact⟨_,by rw[HE.out];rfl,by rw[HNX.out];exact wU (lit1 wd _) hsd,yQ HBd.out hsd HA4.out⟩
 ·
  have hA:0≤x.fA∧x.fA≤3:=by have h:=HA0.out;rw[e] at h;exact xK.1 h
  have hAt:x.fA<(tables.length:Int):=HTB.out e;have HOU:=xN (fun(W:World) (hb:Below w.heap.size w W)=>yMz x [.int .i64 x.zG,.int .i64 x.fA,.int .i64 x.fB,.slice va3 x.zK.length vc3] tables ins st tv iv W HP.out (by rw[e];simp) (T.yM HT.out hb) (Rd.below HI.out hb) (xR.rd_mk (T.xB.2 (Rd.below R3.out hb))));have HNX:=xN (show xW x ins st (wK x tables ins st)= [] by unfold xW;simp only[e];rfl);generalize wK x tables ins st=OO at *;generalize xW x ins st OO=NN at *;rw[e] at HB0 HK0 HOU ⊢;clear e
  go_enter Tryz.func286,Tryz.ntmps286
  go_wp2_with fail
  refine(HOU.out _ HB0.out).mono ?_;rintro e w1 ⟨rfl,hb⟩;have HB1:=xN (yQ HB0.out HB0.out.size hb);clear hb;go_wp2_with (go_at_call 193;refine(uR 0 _ (by decide)).mono ?_;rintro e w2 ⟨rfl,ho,hb⟩;have HO2:=xN ho;have HB2:=xN (yQ HB1.out HB1.out.size hb);clear ho hb)
  go_ret2
  exact⟨_,rfl,by rw[HNX.out];exact wU HO2.out HB1.out.size,HB2.out⟩
 ·
  have hnum:=HP.out.num;have hst:=HP.out.state;have hia:=HP.out.ins_;have hsa:=HP.out.st_;rw[e] at hnum;replace hnum:ins.length=0:=by rw[hnum];rfl
  obtain rfl:ins= []:=List.eq_nil_of_length_eq_zero hnum;obtain⟨IA,ci,rfl,li,mi,_⟩:=HI.out.open_;have hst0:0<st.length:=by rw[hst];unfold wO;simp only[e];simp
  obtain⟨bs,os,cs_,rfl,ls,ms,lbs,hcs_⟩:=xY HS.out hst0;have hgs:=gE hst0;have s0:=hcs_ 0 _ hgs;rw[Nat.add_zero] at s0;have hss:Smp st[0]:=hsa _ (List.getElem_mem hst0);have HSD:=xN (show st.getD 0 0=st[0] by rw[List.getD_eq_getElem?_getD,hgs];rfl);generalize st[0]=y0 at *;clear hcs_ hgs;clear hnum hst hia hsa;have HE:=xN (show wK x tables [] st=y0 by unfold wK;simp only[e];(try rw[HSD.out]);(try rfl));generalize wK x tables [] st=OO at *;have HNX:=xN (show xW x [] st OO= [wOz y0] by unfold xW;simp only[e];(try rw[HSD.out]);(try rfl));generalize xW x [] st OO=NN at *;rw[e] at HB0 HK0 ⊢;clear e
  go_enter Tryz.func286,Tryz.ntmps286
  go_wp2;generalize (w.alloc (.cells #[.int .i64 14,.int .i64 x.fA,.int .i64 x.fB,(.slice va3 x.zK.length vc3)] 167))=W at *;have HBd:=xN HB0.out.drew;have HC:=xN (show W.drew.cell? ⟨bs,os,none⟩=some (.int .i64 y0) from(HB0.out.cell lbs).trans s0);have hsd:=HBd.out.size;refine wH (fun w'=>w'.cell? ⟨bs,os,none⟩=some (.int .i64 y0)) [] (by kernel_rfl) ?_ (fun hS0=>?_)
  ·exact HC.out
  generalize W.drew=wd at *;refine zN 0 hS0 ?_;refine zN 1 hS0 ?_;refine zN 2 hS0 ?_;refine zN 3 hS0 ?_;refine zN 4 hS0 ?_;refine zN 5 hS0 ?_;refine pN 6 (fun K hK=>?_);go_simp;go_wp2_with (go_at_call 293;refine(c_noise _ _).mono ?_;rintro e w' ⟨rfl,rfl⟩)
  refine uN hK ?_ (fun hS1=>?_)
  ·exact HC.out
  clear hK K hS0;have HA4:=xN (show Below wd.heap.size wd (wd.alloc (.cells #[.int .i64 (wOz y0)] 2)) from zR.alloc zJ _);have HC4:=xN ((HA4.out.cell (World.block_lt_of_cell? _ _ HC.out)).trans HC.out);refine zN 8 hS1 ?_;refine pN 7 (fun K hK=>?_);go_simp;refine uN hK ?_ (fun hS2=>?_)
  ·exact HC4.out
  clear hK K hS1;refine pN 9 (fun K hK=>?_);go_simp;refine uN hK ?_ (fun hS3=>?_)
  ·exact HC4.out
  clear hK K hS2;refine qN ?_;clear hS3;go_wp2
  go_ret2
  exact⟨_,by rw[HE.out];rfl,by rw[HNX.out];exact wU (lit1 wd _) hsd,yQ HBd.out hsd HA4.out⟩
 ·
  have HOU:=xN (fun(W:World) (hb:Below w.heap.size w W)=>yMz x [.int .i64 x.zG,.int .i64 x.fA,.int .i64 x.fB,.slice va3 x.zK.length vc3] tables ins st tv iv W HP.out (by rw[e];simp) (T.yM HT.out hb) (Rd.below HI.out hb) (xR.rd_mk (T.xB.2 (Rd.below R3.out hb))));have HNX:=xN (show xW x ins st (wK x tables ins st)= [] by unfold xW;simp only[e];rfl);generalize wK x tables ins st=OO at *;generalize xW x ins st OO=NN at *;rw[e] at HB0 HK0 HOU ⊢;clear e
  go_enter Tryz.func286,Tryz.ntmps286
  go_wp2_with fail
  refine(HOU.out _ HB0.out).mono ?_;rintro e w1 ⟨rfl,hb⟩;have HB1:=xN (yQ HB0.out HB0.out.size hb);clear hb;go_wp2_with (go_at_call 193;refine(uR 0 _ (by decide)).mono ?_;rintro e w2 ⟨rfl,ho,hb⟩;have HO2:=xN ho;have HB2:=xN (yQ HB1.out HB1.out.size hb);clear ho hb)
  go_ret2
  exact⟨_,rfl,by rw[HNX.out];exact wU HO2.out HB1.out.size,HB2.out⟩
 ·
  have hnum:=HP.out.num;have hst:=HP.out.state;have hia:=HP.out.ins_;have hsa:=HP.out.st_;rw[e] at hnum;replace hnum:ins.length=2:=by rw[hnum];rfl
  obtain⟨i0,i1,rfl⟩:=lnI2 hnum;obtain⟨bi,oi,ci,rfl,li,mi,lbi,hci⟩:=xY HI.out (by simp);have c0:=hci 0 i0 rfl;have c1:=hci 1 i1 rfl;rw[Nat.add_zero] at c0;clear hci;have hs0:Smp i0:=hia i0 (by simp);have hs1:Smp i1:=hia i1 (by simp);simp only[List.length_cons,List.length_nil] at li;have hst0:0<st.length:=by rw[hst];unfold wO;simp only[e];simp
  obtain⟨bs,os,cs_,rfl,ls,ms,lbs,hcs_⟩:=xY HS.out hst0;have hgs:=gE hst0;have s0:=hcs_ 0 _ hgs;rw[Nat.add_zero] at s0;have hss:Smp st[0]:=hsa _ (List.getElem_mem hst0);have HSD:=xN (show st.getD 0 0=st[0] by rw[List.getD_eq_getElem?_getD,hgs];rfl);generalize st[0]=y0 at *;clear hcs_ hgs;clear hnum hst hia hsa;have HE:=xN (show wK x tables [i0,i1] st=(if 0<i1 then i0 else y0) by unfold wK;simp only[e];have hgd:=HSD.out;rw[List.getD_eq_getElem?_getD] at hgd;simp[hgd]);generalize wK x tables [i0,i1] st=OO at *;have HNX:=xN (show xW x [i0,i1] st OO= [OO] by unfold xW;simp only[e];(try rw[HSD.out]);(try rfl));generalize xW x [i0,i1] st OO=NN at *;rw[e] at HB0 HK0 ⊢;clear e;by_cases hc:0<i1
  ·
   have HE2:=xN (show OO=i0 by rw[HE.out,if_pos hc]);have q1:decide (0<i1)=true:=decide_eq_true hc;have k0:=(HB0.out.cell lbi).trans c0;have k1:=(HB0.out.cell lbi).trans c1;have ks:=(HB0.out.cell lbs).trans s0;have lbi2:bi<(w.alloc (.cells #[.int .i64 16,.int .i64 x.fA,.int .i64 x.fB,(.slice va3 x.zK.length vc3)] 167)).heap.size:=zW lbi HB0.out.size;have lbs2:bs<(w.alloc (.cells #[.int .i64 16,.int .i64 x.fA,.int .i64 x.fB,(.slice va3 x.zK.length vc3)] 167)).heap.size:=zW lbs HB0.out.size;clear c0 c1 s0
   go_enter Tryz.func286,Tryz.ntmps286
   go_wp2
   go_ret2
   exact⟨_,by rw[HE2.out];rfl,by rw[HNX.out,HE2.out];have h:=wU (lit1 (w.alloc (.cells #[.int .i64 16,.int .i64 x.fA,.int .i64 x.fB,(.slice va3 x.zK.length vc3)] 167)) (i0)) HB0.out.size;unfold OwI;simpa using h,HB0.out.alloc HB0.out.size _⟩
  ·
   have HE2:=xN (show OO=y0 by rw[HE.out,if_neg hc]);have q1:decide (0<i1)=false:=decide_eq_false hc;have k0:=(HB0.out.cell lbi).trans c0;have k1:=(HB0.out.cell lbi).trans c1;have ks:=(HB0.out.cell lbs).trans s0;have lbi2:bi<(w.alloc (.cells #[.int .i64 16,.int .i64 x.fA,.int .i64 x.fB,(.slice va3 x.zK.length vc3)] 167)).heap.size:=zW lbi HB0.out.size;have lbs2:bs<(w.alloc (.cells #[.int .i64 16,.int .i64 x.fA,.int .i64 x.fB,(.slice va3 x.zK.length vc3)] 167)).heap.size:=zW lbs HB0.out.size;clear c0 c1 s0
   go_enter Tryz.func286,Tryz.ntmps286
   go_wp2
   go_ret2
   exact⟨_,by rw[HE2.out];rfl,by rw[HNX.out,HE2.out];have h:=wU (lit1 (w.alloc (.cells #[.int .i64 16,.int .i64 x.fA,.int .i64 x.fB,(.slice va3 x.zK.length vc3)] 167)) (y0)) HB0.out.size;unfold OwI;simpa using h,HB0.out.alloc HB0.out.size _⟩
 ·
  have hA:Smp x.fA:=by have h:=HA0.out;rw[e] at h;exact xK.1 h
  have HA:=xN (show 1≤x.fB∧x.fB≤16 by have h:=HB0_.out;rw[e] at h;exact xK.1 h);have hnum:=HP.out.num;have hst:=HP.out.state;have hia:=HP.out.ins_;have hsa:=HP.out.st_;rw[e] at hnum;replace hnum:ins.length=1:=by rw[hnum];rfl
  obtain⟨i0,rfl⟩:=xEz hnum;obtain⟨bi,oi,ci,rfl,li,mi,lbi,hci⟩:=xY HI.out (by simp);have c0:=hci 0 i0 rfl;rw[Nat.add_zero] at c0;clear hci;have hs0:Smp i0:=hia i0 (by simp);simp only[List.length_cons,List.length_nil] at li;have hst0:0<st.length:=by rw[hst];unfold wO;simp only[e];simp;have:=HA.out;omega
  obtain⟨bs,os,cs_,rfl,ls,ms,lbs,hcs_⟩:=xY HS.out hst0;have hgs:=gE hst0;have s0:=hcs_ 0 _ hgs;rw[Nat.add_zero] at s0;have hss:Smp st[0]:=hsa _ (List.getElem_mem hst0);have HSD:=xN (show st.getD 0 0=st[0] by rw[List.getD_eq_getElem?_getD,hgs];rfl);generalize st[0]=y0 at *;clear hcs_ hgs;clear hnum hst hia hsa;have HE:=xN (show wK x tables [i0] st=wrp (i0+x.fA * y0) by unfold wK;simp only[e];(try rw[HSD.out]);(try rfl));generalize wK x tables [i0] st=OO at *;have HNX:=xN (show xW x [i0] st OO=st.drop 1++ [OO] by unfold xW;simp only[e];(try rw[HSD.out]);(try rfl));generalize xW x [i0] st OO=NN at *;have HK_:=xN e;have hst1:1≤st.length:=hst0;have hsl:st.length≤1048576:=by have h:=HP.out.state;unfold wO at h;simp only[HK_.out] at h;simp at h;have:=HA.out;omega
  have HT1:=xN (yRy HS.out hst1);rw[e] at HB0 HK0 ⊢;clear e;have hm:=zKy hA hss;have hw1:IntKind.i64.wrap (x.fA * y0)=x.fA * y0:=IntWalk.i64_in _ zM;have hw:IntKind.i64.wrap (i0+x.fA * y0)=i0+x.fA * y0:=IntWalk.i64_in _ (by unfold Smp at *;omega);by_cases hq:cs_=1
  ·
   subst hq;have HTL:=xN (HT1.out.1 rfl);have hl1:st.length=1:=by omega
   have hdl:(st.drop 1).length≤1048576:=by rw[List.length_drop];omega
   go_enter Tryz.func286,Tryz.ntmps286
   go_wp2;generalize (w.alloc (.cells #[.int .i64 17,.int .i64 x.fA,.int .i64 x.fB,(.slice va3 x.zK.length vc3)] 167))=W at *;have g0:=xM HK0.out;have g1:=yN ((HB0.out.cell lbi).trans c0);have g2:=yN ((HB0.out.cell lbs).trans s0);refine rB ?_
   repeat(first|go_big_quiet_skip|(go_big_quiet_want;go_big_quiet_op;first|go_big_quiet_on|(apply Exists.intro;refine⟨fun _=>?_,?_⟩;(· (first|(go_at_call 242;exact Calls.yR (yTz _ _))));go_big_quiet_on)))
   refine wpQuiet_nil ?_;rintro w9 ⟨uu,rfl⟩;have hb9:=yO W uu;generalize bel W uu=w9 at *;have HB9:=xN (yQ HB0.out HB0.out.size hb9);have hs9:=HB9.out.size;clear g0 g1 g2 hb9;go_wp2_with fail
   refine(yFz _ (st.drop 1) _ (RdI.below HTL.out HB9.out) hdl).mono ?_;rintro e w3 ⟨v3,rfl,ho,hb⟩;have HO3:=xN (wU ho hs9);have HB3:=xN (yQ HB9.out hs9 hb);have hs3:=HB3.out.size;clear ho hb;go_wp2_with (at_builtin;refine zDz rfl _ _ rfl rfl HO3.out rfl zM hs3 ?_;intro v8 w8 ho8 hg8 hv8;have HB8:=xN (vH HB3.out HO3.out hg8 zJ hs3);have HO8:=xN ho8;clear ho8 hg8 hv8)
   go_ret2
   exact⟨_,by rw[HE.out];rfl,by rw[HNX.out,HE.out];exact HO8.out,HB8.out⟩
  ·
   have HTL:=xN (HT1.out.2 zM);have q1:(1:Int)<(cs_:Int):=zM;have q2:1<cs_:=zM;have q3:(1:Int)≤(st.length:Int):=zM;have hdl:(st.drop 1).length≤1048576:=by rw[List.length_drop];omega
   go_enter Tryz.func286,Tryz.ntmps286
   go_wp2;generalize (w.alloc (.cells #[.int .i64 17,.int .i64 x.fA,.int .i64 x.fB,(.slice va3 x.zK.length vc3)] 167))=W at *;have g0:=xM HK0.out;have g1:=yN ((HB0.out.cell lbi).trans c0);have g2:=yN ((HB0.out.cell lbs).trans s0);refine rB ?_
   repeat(first|go_big_quiet_skip|(go_big_quiet_want;go_big_quiet_op;first|go_big_quiet_on|(apply Exists.intro;refine⟨fun _=>?_,?_⟩;(· (first|(go_at_call 242;exact Calls.yR (yTz _ _))));go_big_quiet_on)))
   refine wpQuiet_nil ?_;rintro w9 ⟨uu,rfl⟩;have hb9:=yO W uu;generalize bel W uu=w9 at *;have HB9:=xN (yQ HB0.out HB0.out.size hb9);have hs9:=HB9.out.size;clear g0 g1 g2 hb9;go_wp2_with fail
   refine(yFz _ (st.drop 1) _ (RdI.below HTL.out HB9.out) hdl).mono ?_;rintro e w3 ⟨v3,rfl,ho,hb⟩;have HO3:=xN (wU ho hs9);have HB3:=xN (yQ HB9.out hs9 hb);have hs3:=HB3.out.size;clear ho hb;go_wp2_with (at_builtin;refine zDz rfl _ _ rfl rfl HO3.out rfl zM hs3 ?_;intro v8 w8 ho8 hg8 hv8;have HB8:=xN (vH HB3.out HO3.out hg8 zJ hs3);have HO8:=xN ho8;clear ho8 hg8 hv8)
   go_ret2
   exact⟨_,by rw[HE.out];rfl,by rw[HNX.out,HE.out];exact HO8.out,HB8.out⟩
end
section
open Go.RowKit
def zNz (a:List Int) (by_ n:Nat):List Int:=cutL (List.replicate by_ 0++a) 0 n
def addS (a b:List Int) (g:Int):List Int:=(List.range (max a.length b.length)).map fun(i:Nat)=>wrp (vF a (i:Int)+g * vF b (i:Int))
theorem length_addS (a b:List Int) (g:Int):(addS a b g).length=max a.length b.length:=by simp[addS]
theorem smp_addS {a b:List Int} {g:Int} : ∀ x ∈ addS a b g,Smp x:=by
 intro x hx;unfold addS at hx;obtain⟨i,_,rfl⟩:=List.mem_map.1 hx;exact zCz _
theorem wJz {a:List Int} (h: ∀ x ∈ a,Smp x) (i:Int):Smp (vF a i):=by
 unfold vF
 split
 ·next c=>
  rw[List.getD_eq_getElem?_getD]
  cases e:a[i.toNat]? with
  |none=>exact⟨by decide,by decide⟩
  |some x=>exact h x (List.mem_of_getElem? e)
 ·exact⟨by decide,by decide⟩
theorem zQz (a:List Int) (b n:Nat):(zNz a b n).length=n:=yYz _ _ _
theorem smp_cutL {a:List Int} {f:Int} {n:Nat} (h: ∀ x ∈ a,Smp x): ∀ x ∈ cutL a f n,Smp x:=by
 intro x hx;unfold cutL at hx;obtain⟨i,_,rfl⟩:=List.mem_map.1 hx;exact wJz h _
theorem vKz {a:List Int} {b n:Nat} (h: ∀ x ∈ a,Smp x): ∀ x ∈ zNz a b n,Smp x:=
 smp_cutL (fun x hx=>by
  rcases List.mem_append.1 hx with hx|hx
  ·rw[(List.mem_replicate.1 hx).2];exact⟨by decide,by decide⟩
  ·exact h x hx)
theorem lateF_take {a:List Int} {b:Nat} :(List.replicate b 0++a).take a.length=zNz a b a.length:=by
 apply List.ext_getElem?
 intro i;unfold zNz cutL;by_cases hi:i<a.length
 ·rw[List.getElem?_take_of_lt hi,List.getElem?_map,List.getElem?_range hi]
  have hl:i<(List.replicate b (0:Int)++a).length:=by simp;omega
  have e:=gE hl;have:=smpAt_in e;rw[e];simp only[Option.map_some,Int.zero_add];rw[this]
 ·rw[List.getElem?_eq_none (by simp;omega),List.getElem?_eq_none (by simp;omega)]
section
variable (c:xU) (src:List Int)
def uY (out:List Int):Nat→List Int
 |0=>out
 |k+1=>(uY out k).set (c.yH.toNat+k) (wrp ((uY out k).getD (c.yH.toNat+k) 0+c.yB * vF src (c.zK+(k:Int))))
def wPz (n:Nat):Nat:=min c.zF.toNat (n - c.yH.toNat)
end
theorem xSz {c:xU} {src out:List Int} : ∀ k,(uY c src out k).length=out.length
 |0=>rfl
 |k+1=>by simp[uY,xSz k]
theorem uAz {c:xU} {src out:List Int} (h: ∀ x ∈ out,Smp x): ∀ k,∀ x ∈ uY c src out k,Smp x
 |0=>h
 |k+1=>fun x hx=>by
  rcases List.mem_or_eq_of_mem_set hx with hx|rfl
  ·exact uAz h k x hx
  ·exact zCz _
def vI (sources:List (List Int)) (l:List xU) (n:Nat):Nat→List Int
 |0=>List.replicate n 0
 |k+1=>match l[k]? with
  |some c=>uY c (sources.getD c.yD.toNat []) (vI sources l n k) (wPz c n)
  |none=>vI sources l n k
def zIz (sources:List (List Int)) (t:xQ) (n:Nat):List Int:=vI sources t.zZ n t.zZ.length
theorem zJz {ss:List (List Int)} {l:List xU} {n:Nat} : ∀ k,(vI ss l n k).length=n
 |0=>by simp[vI]
 |k+1=>by
  simp only[vI]
  split
  ·rw[xSz,zJz k]
  ·exact zJz k
theorem zNy {n:Nat} : ∀ x ∈ List.replicate n (0:Int),Smp x:=fun x hx=>by rw[(List.mem_replicate.1 hx).2];exact⟨by decide,by decide⟩
theorem xAz {ss:List (List Int)} {l:List xU} {n:Nat} : ∀ k,∀ x ∈ vI ss l n k,Smp x
 |0=>zNy
 |k+1=>by
  simp only[vI]
  split
  ·exact uAz (xAz k) _
  ·exact xAz k
def zUz (i:Nat) (lat:Int) (out:List Int) (l:List xV):Nat→List Int
 |0=>out
 |k+1=>match l[k]? with
  |some s=>(zUz i lat out l k).set s.yG.toNat (max ((zUz i lat out l k).getD s.yG.toNat 0) ((zUz i lat out l k).getD i 0+lat))
  |none=>zUz i lat out l k
def vY (l:List xP):Nat→List Int
 |0=>List.replicate l.length 0
 |k+1=>match l[k]? with
  |some x=>zUz k x.zU (vY l k) x.zY x.zY.length
  |none=>vY l k
def wQ (m:wG):List Int:=vY m.zD m.zD.length
theorem xBz {i:Nat} {lat:Int} {out:List Int} {l:List xV} : ∀ k,(zUz i lat out l k).length=out.length
 |0=>rfl
 |k+1=>by
  simp only[zUz]
  split
  ·rw[List.length_set,xBz k]
  ·exact xBz k
theorem yHz {l:List xP} : ∀ k,(vY l k).length=l.length
 |0=>by simp[vY]
 |k+1=>by
  simp only[vY]
  split
  ·rw[xBz,yHz k]
  ·exact yHz k
theorem vX (m:wG):(wQ m).length=m.zD.length:=yHz _
def Upper (l:List Int) (B:Int):Prop:= ∀ i,0≤l.getD i 0∧l.getD i 0≤B
theorem Upper.of_zeros {n:Nat} {B:Int} (h:0≤B):Upper (List.replicate n 0) B:=fun i=>by
 rw[List.getD_eq_getElem?_getD,List.getElem?_replicate]
 split<;>simp<;>omega
theorem Upper.mono {l:List Int} {B C:Int} (h:Upper l B) (hc:B≤C):Upper l C:=fun i=>⟨(h i).1,Int.le_trans (h i).2 hc⟩
theorem uBz {i:Nat} {lat:Int} {out:List Int} {l:List xV} {B:Int} (h: ∀ j,0≤out.getD j 0) (hi:out.getD i 0+lat≤B) (hl:0≤lat) (hb:Upper out B) (hto: ∀ s ∈ l,s.yG.toNat≠i):
  ∀ k,Upper (zUz i lat out l k) B∧(zUz i lat out l k).getD i 0=out.getD i 0
 |0=>⟨hb,rfl⟩
 |k+1=>by
  obtain⟨h1,h2⟩:=uBz h hi hl hb hto k;simp only[zUz]
  split
  ·next s hs=>
   have hn:=hto s (List.mem_of_getElem? hs);refine⟨fun j=>?_,by rw[yOy hn];exact h2⟩;by_cases e:s.yG.toNat=j
   ·subst e
    by_cases hl:s.yG.toNat<(zUz i lat out l k).length
    ·rw[xMz hl,h2]
     have:=h1 s.yG.toNat;have:=h i
     omega
    ·rw[List.set_eq_of_length_le zM]
     exact h1 _
   ·rw[yOy e];exact h1 j
  ·exact⟨h1,h2⟩
theorem wVz {l:List xP} (hl: ∀ x ∈ l,0≤x.zU∧x.zU≤32) (hto: ∀ (i:Nat) (x:xP),l[i]?=some x→ ∀ s ∈ x.zY,s.yG.toNat≠i): ∀ k,Upper (vY l k) (32 * (k:Int))
 |0=>Upper.of_zeros zM
 |k+1=>by
  have ih:=wVz hl hto k;simp only[vY]
  split
  ·next x hx=>
   have h1:=hl x (List.mem_of_getElem? hx);refine(uBz (B:=32 * ((k+1:Nat):Int)) (fun j=>(ih j).1) ?_ h1.1 (ih.mono zM) (hto k x hx) _).1;have:=(ih k).2
   omega
  ·exact ih.mono zM
theorem zFz {m:wG} (h:uP m) {i:Nat} {x:xP} (hx:m.zD[i]?=some x): ∀ (k:Nat) (s:xV),x.zY[k]?=some s→(i:Int)<s.yG∧s.yG<(m.zD.length:Int)∧(0<k→ ∀ p,x.zY[k - 1]?=some p→p.yG<s.yG):=by
 have hs:=(h.each i x hx).1.sends.each;intro k
 induction k with
 |zero=>
  intro s h0;have:=zBz.1 (hs 0 s h0).1;unfold befS at this;rw[if_pos rfl] at this;exact⟨by omega,by omega,fun h=>absurd h zM⟩
 |succ k ih=>
  intro s h1;have:=zBz.1 (hs (k+1) s h1).1;unfold befS at this;rw[if_neg zM,Nat.add_sub_cancel] at this;have hk:k<x.zY.length:=by have:=(List.getElem?_eq_some_iff.1 h1).1;omega
  have hg:=gE hk;have h2:=ih _ hg;rw[List.getD_eq_getElem?_getD,hg] at this;simp only[Option.getD_some] at this;refine⟨by omega,by omega,fun _ p hp=>?_⟩;rw[Nat.add_sub_cancel,hg] at hp;injection hp with hp;rw[←hp]
  omega
theorem yAz {m:wG} (h:uP m):Upper (wQ m) 256:=by
 refine(wVz (fun x hx=>?_) (fun i x hx s hs e=>?_) _).mono (by have:=h.few;omega)
 ·obtain⟨i,hi⟩:=List.mem_iff_getElem?.1 hx
  exact zBz.1 (h.each i x hi).1.latency
 ·obtain⟨k,hk⟩:=List.mem_iff_getElem?.1 hs
  have:=zFz h hx k s hk
  omega
def yBz (times:List Int) (i:Nat) (x:xP) (s:xV):Int:=times.getD s.yG.toNat 0 - times.getD i 0 - x.zU
def uQ (m:wG):List (List Int):=m.zD.mapIdx fun i x=>x.zY.map (yBz (wQ m) i x)
def uI (m:wG):Int:=(wQ m).getD (m.zD.length - 1) 0+(m.zD.getD (m.zD.length - 1) ⟨ByteArray.empty,0,[]⟩).zU
def zVz (s:xS) (n:Nat):Nat→List (List Int)
 |0=>List.replicate s.zH.zD.length (List.replicate n 0)
 |k+1=>match s.zL[k]?,s.zX[k]? with
  |some t,some f=>(zVz s n k).set f.toNat (addS ((zVz s n k).getD f.toNat []) (zNz (zIz s.zI t s.zF.toNat) ((wQ s.zH).getD f.toNat 0).toNat n) 1)
  |_,_=>zVz s n k
noncomputable def effF (p:xO) (y:List Int) (n:Nat):List Int:=if p=zHz then y else (renderF p [y] n).getD 0 []
def yCz (y:List Int) (n:Nat) (waits:List Int) (l:List xV) (ins:List (List Int)):Nat→List (List Int)
 |0=>ins
 |k+1=>match l[k]? with
  |some s=>(yCz y n waits l ins k).set s.yG.toNat (addS ((yCz y n waits l ins k).getD s.yG.toNat []) (zNz y (waits.getD k 0).toNat n) s.yB)
  |none=>yCz y n waits l ins k
noncomputable def vU (s:xS) (n:Nat) (ins:List (List Int)) (i:Nat) (x:xP):List Int:=zNz (effF (s.zO.getD i zHz) (ins.getD i []) n) x.zU.toNat n
noncomputable def wJ (s:xS) (n:Nat):Nat→List (List Int) × List (List Int)
 |0=>(zVz s n s.zL.length,[])
 |k+1=>match s.zH.zD[k]? with
  |some x=>(yCz (vU s n (wJ s n k).1 k x) n ((uQ s.zH).getD k []) x.zY (wJ s n k).1 x.zY.length,(wJ s n k).2++ [vU s n (wJ s n k).1 k x])
  |none=>wJ s n k
noncomputable def outsF (s:xS):List (List Int):=(wJ s (s.zF+uI s.zH).toNat s.zH.zD.length).2
noncomputable def zLz (s:xS):List Int:=cutL ((outsF s).getD (s.zH.zD.length - 1) []) (uI s.zH) s.zF.toNat
end
section
open Go.RowKit
def wZ:xS:=⟨0,[],[],[],[],⟨[]⟩⟩
end
section
open Go.RowKit
end
end Go.Proofs.YtoibekfhepnedaaGreat
