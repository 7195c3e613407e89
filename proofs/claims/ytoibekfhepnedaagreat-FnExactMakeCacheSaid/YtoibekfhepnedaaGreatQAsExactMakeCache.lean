/- Contract: a node's output and next state, by the program. -/
import Derived.Test.YtoibekfhepnedaaGreatQAqExactMakeCache
import Derived.Test.YtoibekfhepnedaaGreatQArExactMakeCache
set_option linter.unusedVariables false
set_option linter.unusedSimpArgs false
set_option maxHeartbeats 16000000
set_option maxRecDepth 100000
namespace Go.Proofs.YtoibekfhepnedaaGreat
open Go.RowKit
theorem c_step (x:xJ) (cs:List Value) (tables:List (List Int)) (ins st:List Int) (tv iv sv:Value) (w:World) (hP:PlayIn x tables ins st) (hT:T.rd w (T.sl 26 1 (tables.map (T.ints 2))) [tv]) (hI:RdI w iv ins) (hS:RdI w sv st) (h:T.rds w x.fs cs):Calls Tryz.prog 286 #[.agg cs.toArray,tv,iv,sv] w fun e w'=> ∃ v,e= .returned (.tuple #[.int .i64 (xW x tables ins st),v])∧OwI 2 w' w.heap.size v (xN x ins st (xW x tables ins st))∧Below w.heap.size w w':=by
 obtain⟨v3,rfl,h3⟩:=xJ.yO h
 clear h
 have h3i:=T.yT.1 h3;obtain⟨va3,vc3,rfl,vl3,vm3,vx3⟩:=h3i.open_
 have R3:=hide h3i;have HX3:=hide vx3;clear vx3 h3 h3i
 have HB0:=hide (show Below w.heap.size w (w.alloc (.cells #[.int .i64 x.zD,.int .i64 x.fA,.int .i64 x.fB,(.slice va3 x.zH.length vc3)] 167)) from(Below.refl _ _).alloc (Nat.le_refl _) _)
 have HK0:=hide (Bk.born w 167 #[.int .i64 x.zD,.int .i64 x.fA,.int .i64 x.fB,(.slice va3 x.zH.length vc3)])
 have HP:=hide hP;have HT:=hide hT;have HI:=hide hI;have HS:=hide hS
 have hk:=xC.1 hP.ok.kind
 have h17:x.zD=1∨x.zD=2∨x.zD=3∨x.zD=4∨x.zD=5∨x.zD=6∨x.zD=7∨x.zD=8∨x.zD=9∨x.zD=10∨x.zD=11∨x.zD=12∨x.zD=13∨x.zD=14∨x.zD=15∨x.zD=16∨x.zD=17:=by omega
 have HA0:=hide hP.ok.a;have HB0_:=hide hP.ok.b;have HTB:=hide hP.ok.table;clear hP hT hI hS hk
 rcases h17 with e|e|e|e|e|e|e|e|e|e|e|e|e|e|e|e|e
 ·
  have HOU:=hide (fun(W:World) (hb:Below w.heap.size w W)=>c_output x [.int .i64 x.zD,.int .i64 x.fA,.int .i64 x.fB,.slice va3 x.zH.length vc3] tables ins st tv iv W HP.out (by rw[e];simp) (T.yF HT.out hb) (Rd.below HI.out hb) (xJ.rd_mk (T.yT.2 (Rd.below R3.out hb))))
  have HNX:=hide (show xN x ins st (xW x tables ins st)= [] by unfold xN;simp only[e];rfl)
  generalize xW x tables ins st=OO at *
  generalize xN x ins st OO=NN at *
  rw[e] at HB0 HK0 HOU ⊢
  clear e
  go_enter Tryz.func286,Tryz.ntmps286
  go_wp2_with fail
  refine(HOU.out _ HB0.out).mono ?_;rintro e w1 ⟨rfl,hb⟩
  have HB1:=hide (yJ HB0.out HB0.out.size hb);clear hb
  go_wp2_with (go_at_call 193;refine(vV 0 _ (by decide)).mono ?_;rintro e w2 ⟨rfl,ho,hb⟩;have HO2:=hide ho;have HB2:=hide (yJ HB1.out HB1.out.size hb);clear ho hb)
  go_ret2
  exact⟨_,rfl,by rw[HNX.out];exact wH HO2.out HB1.out.size,HB2.out⟩
 ·
  have HOU:=hide (fun(W:World) (hb:Below w.heap.size w W)=>c_output x [.int .i64 x.zD,.int .i64 x.fA,.int .i64 x.fB,.slice va3 x.zH.length vc3] tables ins st tv iv W HP.out (by rw[e];simp) (T.yF HT.out hb) (Rd.below HI.out hb) (xJ.rd_mk (T.yT.2 (Rd.below R3.out hb))))
  have HNX:=hide (show xN x ins st (xW x tables ins st)= [] by unfold xN;simp only[e];rfl)
  generalize xW x tables ins st=OO at *
  generalize xN x ins st OO=NN at *
  rw[e] at HB0 HK0 HOU ⊢
  clear e
  go_enter Tryz.func286,Tryz.ntmps286
  go_wp2_with fail
  refine(HOU.out _ HB0.out).mono ?_;rintro e w1 ⟨rfl,hb⟩
  have HB1:=hide (yJ HB0.out HB0.out.size hb);clear hb
  go_wp2_with (go_at_call 193;refine(vV 0 _ (by decide)).mono ?_;rintro e w2 ⟨rfl,ho,hb⟩;have HO2:=hide ho;have HB2:=hide (yJ HB1.out HB1.out.size hb);clear ho hb)
  go_ret2
  exact⟨_,rfl,by rw[HNX.out];exact wH HO2.out HB1.out.size,HB2.out⟩
 ·
  have HOU:=hide (fun(W:World) (hb:Below w.heap.size w W)=>c_output x [.int .i64 x.zD,.int .i64 x.fA,.int .i64 x.fB,.slice va3 x.zH.length vc3] tables ins st tv iv W HP.out (by rw[e];simp) (T.yF HT.out hb) (Rd.below HI.out hb) (xJ.rd_mk (T.yT.2 (Rd.below R3.out hb))))
  have HNX:=hide (show xN x ins st (xW x tables ins st)= [] by unfold xN;simp only[e];rfl)
  generalize xW x tables ins st=OO at *
  generalize xN x ins st OO=NN at *
  rw[e] at HB0 HK0 HOU ⊢
  clear e
  go_enter Tryz.func286,Tryz.ntmps286
  go_wp2_with fail
  refine(HOU.out _ HB0.out).mono ?_;rintro e w1 ⟨rfl,hb⟩
  have HB1:=hide (yJ HB0.out HB0.out.size hb);clear hb
  go_wp2_with (go_at_call 193;refine(vV 0 _ (by decide)).mono ?_;rintro e w2 ⟨rfl,ho,hb⟩;have HO2:=hide ho;have HB2:=hide (yJ HB1.out HB1.out.size hb);clear ho hb)
  go_ret2
  exact⟨_,rfl,by rw[HNX.out];exact wH HO2.out HB1.out.size,HB2.out⟩
 ·
  have HOU:=hide (fun(W:World) (hb:Below w.heap.size w W)=>c_output x [.int .i64 x.zD,.int .i64 x.fA,.int .i64 x.fB,.slice va3 x.zH.length vc3] tables ins st tv iv W HP.out (by rw[e];simp) (T.yF HT.out hb) (Rd.below HI.out hb) (xJ.rd_mk (T.yT.2 (Rd.below R3.out hb))))
  have HNX:=hide (show xN x ins st (xW x tables ins st)= [] by unfold xN;simp only[e];rfl)
  generalize xW x tables ins st=OO at *
  generalize xN x ins st OO=NN at *
  rw[e] at HB0 HK0 HOU ⊢
  clear e
  go_enter Tryz.func286,Tryz.ntmps286
  go_wp2_with fail
  refine(HOU.out _ HB0.out).mono ?_;rintro e w1 ⟨rfl,hb⟩
  have HB1:=hide (yJ HB0.out HB0.out.size hb);clear hb
  go_wp2_with (go_at_call 193;refine(vV 0 _ (by decide)).mono ?_;rintro e w2 ⟨rfl,ho,hb⟩;have HO2:=hide ho;have HB2:=hide (yJ HB1.out HB1.out.size hb);clear ho hb)
  go_ret2
  exact⟨_,rfl,by rw[HNX.out];exact wH HO2.out HB1.out.size,HB2.out⟩
 ·
  have hA:Smp x.fA:=by have h:=HA0.out;rw[e] at h;exact xC.1 h
  have HOU:=hide (fun(W:World) (hb:Below w.heap.size w W)=>c_output x [.int .i64 x.zD,.int .i64 x.fA,.int .i64 x.fB,.slice va3 x.zH.length vc3] tables ins st tv iv W HP.out (by rw[e];simp) (T.yF HT.out hb) (Rd.below HI.out hb) (xJ.rd_mk (T.yT.2 (Rd.below R3.out hb))))
  have HNX:=hide (show xN x ins st (xW x tables ins st)= [] by unfold xN;simp only[e];rfl)
  generalize xW x tables ins st=OO at *
  generalize xN x ins st OO=NN at *
  rw[e] at HB0 HK0 HOU ⊢
  clear e
  go_enter Tryz.func286,Tryz.ntmps286
  go_wp2_with fail
  refine(HOU.out _ HB0.out).mono ?_;rintro e w1 ⟨rfl,hb⟩
  have HB1:=hide (yJ HB0.out HB0.out.size hb);clear hb
  go_wp2_with (go_at_call 193;refine(vV 0 _ (by decide)).mono ?_;rintro e w2 ⟨rfl,ho,hb⟩;have HO2:=hide ho;have HB2:=hide (yJ HB1.out HB1.out.size hb);clear ho hb)
  go_ret2
  exact⟨_,rfl,by rw[HNX.out];exact wH HO2.out HB1.out.size,HB2.out⟩
 ·
  have HA:=hide (show 1≤x.fA∧x.fA≤16 by have h:=HA0.out;rw[e] at h;exact xC.1 h)
  have hnum:=HP.out.num;have hst:=HP.out.state;have hia:=HP.out.ins_;have hsa:=HP.out.st_
  rw[e] at hnum
  replace hnum:ins.length=1:=by rw[hnum];rfl
  obtain⟨i0,rfl⟩:=lnI1 hnum
  obtain⟨bi,oi,ci,rfl,li,mi,lbi,hci⟩:=xO HI.out (by simp)
  have c0:=hci 0 i0 rfl
  rw[Nat.add_zero] at c0
  clear hci
  have hs0:Smp i0:=hia i0 (by simp)
  simp only[List.length_cons,List.length_nil] at li
  have hst0:0<st.length:=by rw[hst];unfold wD;simp only[e];simp;have:=HA.out;omega
  obtain⟨bs,os,cs_,rfl,ls,ms,lbs,hcs_⟩:=xO HS.out hst0
  have hgs:=gE hst0
  have s0:=hcs_ 0 _ hgs;rw[Nat.add_zero] at s0
  have hss:Smp st[0]:=hsa _ (List.getElem_mem hst0)
  have HSD:=hide (show st.getD 0 0=st[0] by rw[List.getD_eq_getElem?_getD,hgs];rfl)
  generalize st[0]=y0 at *
  clear hcs_ hgs
  clear hnum hst hia hsa
  have HE:=hide (show xW x tables [i0] st=y0 by unfold xW;simp only[e];(try rw[HSD.out]);(try rfl))
  generalize xW x tables [i0] st=OO at *
  have HNX:=hide (show xN x [i0] st OO=st.drop 1++ [i0] by unfold xN;simp only[e];(try rw[HSD.out]);(try rfl))
  generalize xN x [i0] st OO=NN at *
  have HK_:=hide e
  have hst1:1≤st.length:=hst0
  have hsl:st.length≤1048576:=by have h:=HP.out.state;unfold wD at h;simp only[HK_.out] at h;simp at h;have:=HA.out;omega
  have HT1:=hide (rdI_tail HS.out hst1)
  rw[e] at HB0 HK0 ⊢
  clear e
  by_cases hq:cs_=1
  ·
   subst hq
   have HTL:=hide (HT1.out.1 rfl)
   have hl1:st.length=1:=by omega
   have hdl:(st.drop 1).length≤1048576:=by rw[List.length_drop];omega
   go_enter Tryz.func286,Tryz.ntmps286
   go_wp2
   generalize (w.alloc (.cells #[.int .i64 6,.int .i64 x.fA,.int .i64 x.fB,(.slice va3 x.zH.length vc3)] 167))=W at *
   have HBd:=hide HB0.out.drew;have HC:=hide (show W.drew.cell? ⟨bi,oi,none⟩=some (.int .i64 i0)∧W.drew.cell? ⟨bs,os,none⟩=some (.int .i64 y0) from⟨(HB0.out.cell lbi).trans c0,(HB0.out.cell lbs).trans s0⟩);have hsd:=HBd.out.size;have HTd:=hide (RdI.below HTL.out HBd.out)
   refine wE (fun w'=>w'.cell? ⟨bi,oi,none⟩=some (.int .i64 i0)∧w'.cell? ⟨bs,os,none⟩=some (.int .i64 y0)) [] (by kernel_rfl) ?_ (fun hS0=>?_)
   ·exact HC.out
   generalize W.drew=wd at *
   refine tN 0 hS0 ?_
   refine tN 1 hS0 ?_
   refine tN 2 hS0 ?_
   refine tN 3 hS0 ?_
   refine tN 4 hS0 ?_
   refine tN 6 hS0 ?_
   refine tN 7 hS0 ?_
   refine tN 8 hS0 ?_
   refine wpAnyN_two (i:=5) (j:=9) (o:=_) (o2:=_) (by kernel_rfl) rfl rfl (fun K hK=>?_) (fun K hK=>?_)
   ·
    go_simp
    go_wp2_with (go_at_call 112;refine(c_clone _ (st.drop 1) _ HTd.out hdl).mono ?_;rintro e w3 ⟨v3,rfl,ho,hb⟩)
    have HC3:=hide (show w3.cell? ⟨bi,oi,none⟩=some (.int .i64 i0)∧w3.cell? ⟨bs,os,none⟩=some (.int .i64 y0) from⟨(hb.cell (World.block_lt_of_cell? _ _ HC.out.1)).trans HC.out.1,(hb.cell (World.block_lt_of_cell? _ _ HC.out.2)).trans HC.out.2⟩);have HO3:=hide (wH ho hsd);have HB3:=hide (yJ HBd.out hsd hb);have hs3:=HB3.out.size;clear ho hb
    refine uN hK ?_ (fun hS1=>?_)
    ·exact HC3.out
    clear hK K hS0
    have HA4:=hide (show Below w3.heap.size w3 (w3.alloc (.cells #[.int .i64 i0] 2)) from(Below.refl _ _).alloc (Nat.le_refl _) _);have HO4:=hide (wO HO3.out HA4.out);have HB4:=hide (yJ HB3.out hs3 HA4.out);have HL4:=hide (OwI.rd (lit1 w3 i0));have HC4:=hide (show (w3.alloc (.cells #[.int .i64 i0] 2)).cell? ⟨bi,oi,none⟩=some (.int .i64 i0)∧(w3.alloc (.cells #[.int .i64 i0] 2)).cell? ⟨bs,os,none⟩=some (.int .i64 y0) from⟨(HA4.out.cell (World.block_lt_of_cell? _ _ HC3.out.1)).trans HC3.out.1,(HA4.out.cell (World.block_lt_of_cell? _ _ HC3.out.2)).trans HC3.out.2⟩);have hs4:=HB4.out.size
    refine oN 9 (fun K hK=>?_)
    go_simp
    refine uN hK ?_ (fun hS2=>?_)
    ·exact HC4.out
    clear hK K hS1
    refine oN 10 (fun K hK=>?_)
    refine vQ rfl _ _ rfl rfl HO4.out (ys:= [i0]) rfl HL4.out (by simp only[List.length_cons,List.length_nil];omega) hs4 ?_;intro v8 w8 ho hg hv
    have HB8:=hide (wW HB4.out HO4.out hg (Nat.le_refl _) hs4);have HO8:=hide ho;have HC8:=hide (show w8.cell? ⟨bi,oi,none⟩=some (.int .i64 i0)∧w8.cell? ⟨bs,os,none⟩=some (.int .i64 y0) from⟨(HB8.out.cell lbi).trans ((HB4.out.cell lbi).symm.trans HC4.out.1),(HB8.out.cell lbs).trans ((HB4.out.cell lbs).symm.trans HC4.out.2)⟩);clear ho hg hv
    refine uN hK ?_ (fun hS3=>?_)
    ·exact HC8.out
    clear hK K hS2
    refine oN 11 (fun K hK=>?_)
    go_simp
    refine uN hK ?_ (fun hS4=>?_)
    ·exact HC8.out
    clear hK K hS3
    refine oN 12 (fun K hK=>?_)
    go_simp
    refine uN hK ?_ (fun hS5=>?_)
    ·exact HC8.out
    clear hK K hS4
    refine xY (by kernel_rfl) ?_
    clear hS5
    go_wp2
    go_ret2
    exact⟨_,by rw[HE.out];rfl,by rw[HNX.out];exact HO8.out,HB8.out⟩
   ·
    have HA3:=hide (show Below wd.heap.size wd (wd.alloc (.cells #[.int .i64 i0] 2)) from(Below.refl _ _).alloc (Nat.le_refl _) _);have HL3:=hide (OwI.rd (lit1 wd i0))
    have HC3:=hide (show (wd.alloc (.cells #[.int .i64 i0] 2)).cell? ⟨bi,oi,none⟩=some (.int .i64 i0)∧(wd.alloc (.cells #[.int .i64 i0] 2)).cell? ⟨bs,os,none⟩=some (.int .i64 y0) from⟨(HA3.out.cell (World.block_lt_of_cell? _ _ HC.out.1)).trans HC.out.1,(HA3.out.cell (World.block_lt_of_cell? _ _ HC.out.2)).trans HC.out.2⟩);have HB3:=hide (yJ HBd.out hsd HA3.out);have HT3:=hide (RdI.below HTd.out HA3.out);have hs3:=HB3.out.size
    go_simp
    refine uN hK ?_ (fun hS1=>?_)
    ·exact HC3.out
    clear hK K hS0
    generalize wd.alloc (.cells #[.int .i64 i0] 2)=W3 at *
    refine oN 5 (fun K hK=>?_)
    go_simp
    go_wp2_with (go_at_call 112;refine(c_clone _ (st.drop 1) _ HT3.out hdl).mono ?_;rintro e w4 ⟨v3,rfl,ho,hb⟩)
    have HB4:=hide (yJ HB3.out hs3 hb);have HO4:=hide (wH ho hs3);have HL4:=hide (RdI.below HL3.out hb);have HC4:=hide (show w4.cell? ⟨bi,oi,none⟩=some (.int .i64 i0)∧w4.cell? ⟨bs,os,none⟩=some (.int .i64 y0) from⟨(hb.cell (World.block_lt_of_cell? _ _ HC3.out.1)).trans HC3.out.1,(hb.cell (World.block_lt_of_cell? _ _ HC3.out.2)).trans HC3.out.2⟩);have hs4:=HB4.out.size;clear ho hb
    refine uN hK ?_ (fun hS2=>?_)
    ·exact HC4.out
    clear hK K hS1
    refine oN 10 (fun K hK=>?_)
    refine vQ rfl _ _ rfl rfl HO4.out (ys:= [i0]) rfl HL4.out (by simp only[List.length_cons,List.length_nil];omega) hs4 ?_;intro v8 w8 ho hg hv
    have HB8:=hide (wW HB4.out HO4.out hg (Nat.le_refl _) hs4);have HO8:=hide ho;have HC8:=hide (show w8.cell? ⟨bi,oi,none⟩=some (.int .i64 i0)∧w8.cell? ⟨bs,os,none⟩=some (.int .i64 y0) from⟨(HB8.out.cell lbi).trans ((HB4.out.cell lbi).symm.trans HC4.out.1),(HB8.out.cell lbs).trans ((HB4.out.cell lbs).symm.trans HC4.out.2)⟩);clear ho hg hv
    refine uN hK ?_ (fun hS3=>?_)
    ·exact HC8.out
    clear hK K hS2
    refine oN 11 (fun K hK=>?_)
    go_simp
    refine uN hK ?_ (fun hS4=>?_)
    ·exact HC8.out
    clear hK K hS3
    refine oN 12 (fun K hK=>?_)
    go_simp
    refine uN hK ?_ (fun hS5=>?_)
    ·exact HC8.out
    clear hK K hS4
    refine xY (by kernel_rfl) ?_
    clear hS5
    go_wp2
    go_ret2
    exact⟨_,by rw[HE.out];rfl,by rw[HNX.out];exact HO8.out,HB8.out⟩
  ·
   have HTL:=hide (HT1.out.2 (by omega))
   have q1:(1:Int)<(cs_:Int):=(by omega);have q2:1<cs_:=(by omega);have q3:(1:Int)≤(st.length:Int):=(by omega)
   have hdl:(st.drop 1).length≤1048576:=by rw[List.length_drop];omega
   go_enter Tryz.func286,Tryz.ntmps286
   go_wp2
   generalize (w.alloc (.cells #[.int .i64 6,.int .i64 x.fA,.int .i64 x.fB,(.slice va3 x.zH.length vc3)] 167))=W at *
   have HBd:=hide HB0.out.drew;have HC:=hide (show W.drew.cell? ⟨bi,oi,none⟩=some (.int .i64 i0)∧W.drew.cell? ⟨bs,os,none⟩=some (.int .i64 y0) from⟨(HB0.out.cell lbi).trans c0,(HB0.out.cell lbs).trans s0⟩);have hsd:=HBd.out.size;have HTd:=hide (RdI.below HTL.out HBd.out)
   refine wE (fun w'=>w'.cell? ⟨bi,oi,none⟩=some (.int .i64 i0)∧w'.cell? ⟨bs,os,none⟩=some (.int .i64 y0)) [] (by kernel_rfl) ?_ (fun hS0=>?_)
   ·exact HC.out
   generalize W.drew=wd at *
   refine tN 0 hS0 ?_
   refine tN 1 hS0 ?_
   refine tN 2 hS0 ?_
   refine tN 3 hS0 ?_
   refine tN 4 hS0 ?_
   refine tN 6 hS0 ?_
   refine tN 7 hS0 ?_
   refine tN 8 hS0 ?_
   refine wpAnyN_two (i:=5) (j:=9) (o:=_) (o2:=_) (by kernel_rfl) rfl rfl (fun K hK=>?_) (fun K hK=>?_)
   ·
    go_simp
    go_wp2_with (go_at_call 112;refine(c_clone _ (st.drop 1) _ HTd.out hdl).mono ?_;rintro e w3 ⟨v3,rfl,ho,hb⟩)
    have HC3:=hide (show w3.cell? ⟨bi,oi,none⟩=some (.int .i64 i0)∧w3.cell? ⟨bs,os,none⟩=some (.int .i64 y0) from⟨(hb.cell (World.block_lt_of_cell? _ _ HC.out.1)).trans HC.out.1,(hb.cell (World.block_lt_of_cell? _ _ HC.out.2)).trans HC.out.2⟩);have HO3:=hide (wH ho hsd);have HB3:=hide (yJ HBd.out hsd hb);have hs3:=HB3.out.size;clear ho hb
    refine uN hK ?_ (fun hS1=>?_)
    ·exact HC3.out
    clear hK K hS0
    have HA4:=hide (show Below w3.heap.size w3 (w3.alloc (.cells #[.int .i64 i0] 2)) from(Below.refl _ _).alloc (Nat.le_refl _) _);have HO4:=hide (wO HO3.out HA4.out);have HB4:=hide (yJ HB3.out hs3 HA4.out);have HL4:=hide (OwI.rd (lit1 w3 i0));have HC4:=hide (show (w3.alloc (.cells #[.int .i64 i0] 2)).cell? ⟨bi,oi,none⟩=some (.int .i64 i0)∧(w3.alloc (.cells #[.int .i64 i0] 2)).cell? ⟨bs,os,none⟩=some (.int .i64 y0) from⟨(HA4.out.cell (World.block_lt_of_cell? _ _ HC3.out.1)).trans HC3.out.1,(HA4.out.cell (World.block_lt_of_cell? _ _ HC3.out.2)).trans HC3.out.2⟩);have hs4:=HB4.out.size
    refine oN 9 (fun K hK=>?_)
    go_simp
    refine uN hK ?_ (fun hS2=>?_)
    ·exact HC4.out
    clear hK K hS1
    refine oN 10 (fun K hK=>?_)
    refine vQ rfl _ _ rfl rfl HO4.out (ys:= [i0]) rfl HL4.out (by simp only[List.length_cons,List.length_nil];omega) hs4 ?_;intro v8 w8 ho hg hv
    have HB8:=hide (wW HB4.out HO4.out hg (Nat.le_refl _) hs4);have HO8:=hide ho;have HC8:=hide (show w8.cell? ⟨bi,oi,none⟩=some (.int .i64 i0)∧w8.cell? ⟨bs,os,none⟩=some (.int .i64 y0) from⟨(HB8.out.cell lbi).trans ((HB4.out.cell lbi).symm.trans HC4.out.1),(HB8.out.cell lbs).trans ((HB4.out.cell lbs).symm.trans HC4.out.2)⟩);clear ho hg hv
    refine uN hK ?_ (fun hS3=>?_)
    ·exact HC8.out
    clear hK K hS2
    refine oN 11 (fun K hK=>?_)
    go_simp
    refine uN hK ?_ (fun hS4=>?_)
    ·exact HC8.out
    clear hK K hS3
    refine oN 12 (fun K hK=>?_)
    go_simp
    refine uN hK ?_ (fun hS5=>?_)
    ·exact HC8.out
    clear hK K hS4
    refine xY (by kernel_rfl) ?_
    clear hS5
    go_wp2
    go_ret2
    exact⟨_,by rw[HE.out];rfl,by rw[HNX.out];exact HO8.out,HB8.out⟩
   ·
    have HA3:=hide (show Below wd.heap.size wd (wd.alloc (.cells #[.int .i64 i0] 2)) from(Below.refl _ _).alloc (Nat.le_refl _) _);have HL3:=hide (OwI.rd (lit1 wd i0))
    have HC3:=hide (show (wd.alloc (.cells #[.int .i64 i0] 2)).cell? ⟨bi,oi,none⟩=some (.int .i64 i0)∧(wd.alloc (.cells #[.int .i64 i0] 2)).cell? ⟨bs,os,none⟩=some (.int .i64 y0) from⟨(HA3.out.cell (World.block_lt_of_cell? _ _ HC.out.1)).trans HC.out.1,(HA3.out.cell (World.block_lt_of_cell? _ _ HC.out.2)).trans HC.out.2⟩);have HB3:=hide (yJ HBd.out hsd HA3.out);have HT3:=hide (RdI.below HTd.out HA3.out);have hs3:=HB3.out.size
    go_simp
    refine uN hK ?_ (fun hS1=>?_)
    ·exact HC3.out
    clear hK K hS0
    generalize wd.alloc (.cells #[.int .i64 i0] 2)=W3 at *
    refine oN 5 (fun K hK=>?_)
    go_simp
    go_wp2_with (go_at_call 112;refine(c_clone _ (st.drop 1) _ HT3.out hdl).mono ?_;rintro e w4 ⟨v3,rfl,ho,hb⟩)
    have HB4:=hide (yJ HB3.out hs3 hb);have HO4:=hide (wH ho hs3);have HL4:=hide (RdI.below HL3.out hb);have HC4:=hide (show w4.cell? ⟨bi,oi,none⟩=some (.int .i64 i0)∧w4.cell? ⟨bs,os,none⟩=some (.int .i64 y0) from⟨(hb.cell (World.block_lt_of_cell? _ _ HC3.out.1)).trans HC3.out.1,(hb.cell (World.block_lt_of_cell? _ _ HC3.out.2)).trans HC3.out.2⟩);have hs4:=HB4.out.size;clear ho hb
    refine uN hK ?_ (fun hS2=>?_)
    ·exact HC4.out
    clear hK K hS1
    refine oN 10 (fun K hK=>?_)
    refine vQ rfl _ _ rfl rfl HO4.out (ys:= [i0]) rfl HL4.out (by simp only[List.length_cons,List.length_nil];omega) hs4 ?_;intro v8 w8 ho hg hv
    have HB8:=hide (wW HB4.out HO4.out hg (Nat.le_refl _) hs4);have HO8:=hide ho;have HC8:=hide (show w8.cell? ⟨bi,oi,none⟩=some (.int .i64 i0)∧w8.cell? ⟨bs,os,none⟩=some (.int .i64 y0) from⟨(HB8.out.cell lbi).trans ((HB4.out.cell lbi).symm.trans HC4.out.1),(HB8.out.cell lbs).trans ((HB4.out.cell lbs).symm.trans HC4.out.2)⟩);clear ho hg hv
    refine uN hK ?_ (fun hS3=>?_)
    ·exact HC8.out
    clear hK K hS2
    refine oN 11 (fun K hK=>?_)
    go_simp
    refine uN hK ?_ (fun hS4=>?_)
    ·exact HC8.out
    clear hK K hS3
    refine oN 12 (fun K hK=>?_)
    go_simp
    refine uN hK ?_ (fun hS5=>?_)
    ·exact HC8.out
    clear hK K hS4
    refine xY (by kernel_rfl) ?_
    clear hS5
    go_wp2
    go_ret2
    exact⟨_,by rw[HE.out];rfl,by rw[HNX.out];exact HO8.out,HB8.out⟩
 ·
  have hnum:=HP.out.num;have hst:=HP.out.state;have hia:=HP.out.ins_;have hsa:=HP.out.st_
  rw[e] at hnum
  replace hnum:ins.length=1:=by rw[hnum];rfl
  obtain⟨i0,rfl⟩:=lnI1 hnum
  obtain⟨bi,oi,ci,rfl,li,mi,lbi,hci⟩:=xO HI.out (by simp)
  have c0:=hci 0 i0 rfl
  rw[Nat.add_zero] at c0
  clear hci
  have hs0:Smp i0:=hia i0 (by simp)
  simp only[List.length_cons,List.length_nil] at li
  have hst0:0<st.length:=by rw[hst];unfold wD;simp only[e];simp
  obtain⟨bs,os,cs_,rfl,ls,ms,lbs,hcs_⟩:=xO HS.out hst0
  have hgs:=gE hst0
  have s0:=hcs_ 0 _ hgs;rw[Nat.add_zero] at s0
  have hss:Smp st[0]:=hsa _ (List.getElem_mem hst0)
  have HSD:=hide (show st.getD 0 0=st[0] by rw[List.getD_eq_getElem?_getD,hgs];rfl)
  generalize st[0]=y0 at *
  clear hcs_ hgs
  clear hnum hst hia hsa
  have HE:=hide (show xW x tables [i0] st=wrp (y0+i0) by unfold xW;simp only[e];(try rw[HSD.out]);(try rfl))
  generalize xW x tables [i0] st=OO at *
  have HNX:=hide (show xN x [i0] st OO= [OO] by unfold xN;simp only[e];(try rw[HSD.out]);(try rfl))
  generalize xN x [i0] st OO=NN at *
  rw[e] at HB0 HK0 ⊢
  clear e
  have hw:IntKind.i64.wrap (y0+i0)=y0+i0:=IntWalk.i64_in _ (by unfold Smp at *;omega)
  go_enter Tryz.func286,Tryz.ntmps286
  go_wp2
  generalize (w.alloc (.cells #[.int .i64 7,.int .i64 x.fA,.int .i64 x.fB,(.slice va3 x.zH.length vc3)] 167))=W at *
  have g0:=xE HK0.out;have g1:=yG ((HB0.out.cell lbi).trans c0);have g2:=yG ((HB0.out.cell lbs).trans s0)
  refine xD (by kernel_rfl) (by kernel_rfl) ?_
  repeat(first|go_big_quiet_skip|(go_big_quiet_want;go_big_quiet_op;first|go_big_quiet_on|(apply Exists.intro;refine⟨fun _=>?_,?_⟩;(· (first|(go_at_call 242;exact Calls.yK (c_Wrap _ _))));go_big_quiet_on)))
  refine wpQuiet_nil ?_
  rintro w9 ⟨uu,rfl⟩
  have hb9:=yH W uu
  generalize bel W uu=w9 at *
  have HB9:=hide (yJ HB0.out HB0.out.size hb9);have hs9:=HB9.out.size;clear g0 g1 g2 hb9
  go_wp2
  go_ret2
  exact⟨_,by rw[HE.out];rfl,by rw[HNX.out,HE.out];exact wH (lit1 w9 _) hs9,HB9.out.alloc hs9 _⟩
 ·
  have hnum:=HP.out.num;have hst:=HP.out.state;have hia:=HP.out.ins_;have hsa:=HP.out.st_
  rw[e] at hnum
  replace hnum:ins.length=1:=by rw[hnum];rfl
  obtain⟨i0,rfl⟩:=lnI1 hnum
  obtain⟨bi,oi,ci,rfl,li,mi,lbi,hci⟩:=xO HI.out (by simp)
  have c0:=hci 0 i0 rfl
  rw[Nat.add_zero] at c0
  clear hci
  have hs0:Smp i0:=hia i0 (by simp)
  simp only[List.length_cons,List.length_nil] at li
  have hst0:0<st.length:=by rw[hst];unfold wD;simp only[e];simp
  obtain⟨bs,os,cs_,rfl,ls,ms,lbs,hcs_⟩:=xO HS.out hst0
  have hgs:=gE hst0
  have s0:=hcs_ 0 _ hgs;rw[Nat.add_zero] at s0
  have hss:Smp st[0]:=hsa _ (List.getElem_mem hst0)
  have HSD:=hide (show st.getD 0 0=st[0] by rw[List.getD_eq_getElem?_getD,hgs];rfl)
  generalize st[0]=y0 at *
  clear hcs_ hgs
  clear hnum hst hia hsa
  have HE:=hide (show xW x tables [i0] st=wrp (i0 - y0) by unfold xW;simp only[e];(try rw[HSD.out]);(try rfl))
  generalize xW x tables [i0] st=OO at *
  have HNX:=hide (show xN x [i0] st OO= [i0] by unfold xN;simp only[e];(try rw[HSD.out]);(try rfl))
  generalize xN x [i0] st OO=NN at *
  rw[e] at HB0 HK0 ⊢
  clear e
  have hw:IntKind.i64.wrap (i0 - y0)=i0 - y0:=IntWalk.i64_in _ (by unfold Smp at *;omega)
  go_enter Tryz.func286,Tryz.ntmps286
  go_wp2
  generalize (w.alloc (.cells #[.int .i64 8,.int .i64 x.fA,.int .i64 x.fB,(.slice va3 x.zH.length vc3)] 167))=W at *
  have HBd:=hide HB0.out.drew;have HC:=hide (show W.drew.cell? ⟨bi,oi,none⟩=some (.int .i64 i0)∧W.drew.cell? ⟨bs,os,none⟩=some (.int .i64 y0) from⟨(HB0.out.cell lbi).trans c0,(HB0.out.cell lbs).trans s0⟩);have hsd:=HBd.out.size
  refine wE (fun w'=>w'.cell? ⟨bi,oi,none⟩=some (.int .i64 i0)∧w'.cell? ⟨bs,os,none⟩=some (.int .i64 y0)) [] (by kernel_rfl) ?_ (fun hS0=>?_)
  ·exact HC.out
  generalize W.drew=wd at *
  refine tN 0 hS0 ?_
  refine tN 1 hS0 ?_
  refine tN 2 hS0 ?_
  refine tN 3 hS0 ?_
  refine tN 4 hS0 ?_
  refine tN 5 hS0 ?_
  refine tN 6 hS0 ?_
  refine tN 8 hS0 ?_
  refine tN 9 hS0 ?_
  refine tN 10 hS0 ?_
  have HA4:=hide (show Below wd.heap.size wd (wd.alloc (.cells #[.int .i64 i0] 2)) from(Below.refl _ _).alloc (Nat.le_refl _) _);have HC4:=hide (show (wd.alloc (.cells #[.int .i64 i0] 2)).cell? ⟨bi,oi,none⟩=some (.int .i64 i0)∧(wd.alloc (.cells #[.int .i64 i0] 2)).cell? ⟨bs,os,none⟩=some (.int .i64 y0) from⟨(HA4.out.cell (World.block_lt_of_cell? _ _ HC.out.1)).trans HC.out.1,(HA4.out.cell (World.block_lt_of_cell? _ _ HC.out.2)).trans HC.out.2⟩)
  refine wpAnyN_two (i:=7) (j:=11) (o:=_) (o2:=_) (by kernel_rfl) rfl rfl (fun K hK=>?_) (fun K hK=>?_)
  ·
   go_simp
   go_wp2_with (go_at_call 242;refine(c_Wrap _ _).mono ?_;rintro e w' ⟨rfl,rfl⟩)
   refine uN hK ?_ (fun hS1=>?_)
   ·exact HC.out
   clear hK K hS0
   refine tN 12 hS1 ?_
   refine oN 11 (fun K hK=>?_)
   go_simp
   refine uN hK ?_ (fun hS2=>?_)
   ·exact HC4.out
   clear hK K hS1
   refine oN 13 (fun K hK=>?_)
   go_simp
   refine uN hK ?_ (fun hS3=>?_)
   ·exact HC4.out
   clear hK K hS2
   refine xY (by kernel_rfl) ?_
   clear hS3
   go_wp2
   go_ret2
   exact⟨_,by rw[HE.out];rfl,by rw[HNX.out];exact wH (lit1 wd _) hsd,yJ HBd.out hsd HA4.out⟩
  ·
   go_simp
   refine uN hK ?_ (fun hS1=>?_)
   ·exact HC4.out
   clear hK K hS0
   refine oN 7 (fun K hK=>?_)
   go_simp
   go_wp2_with (go_at_call 242;refine(c_Wrap _ _).mono ?_;rintro e w' ⟨rfl,rfl⟩)
   refine uN hK ?_ (fun hS2=>?_)
   ·exact HC4.out
   clear hK K hS1
   refine oN 12 (fun K hK=>?_)
   go_simp
   refine uN hK ?_ (fun hS3=>?_)
   ·exact HC4.out
   clear hK K hS2
   refine oN 13 (fun K hK=>?_)
   go_simp
   refine uN hK ?_ (fun hS4=>?_)
   ·exact HC4.out
   clear hK K hS3
   refine xY (by kernel_rfl) ?_
   clear hS4
   go_wp2
   go_ret2
   exact⟨_,by rw[HE.out];rfl,by rw[HNX.out];exact wH (lit1 wd _) hsd,yJ HBd.out hsd HA4.out⟩
 ·
  have HOU:=hide (fun(W:World) (hb:Below w.heap.size w W)=>c_output x [.int .i64 x.zD,.int .i64 x.fA,.int .i64 x.fB,.slice va3 x.zH.length vc3] tables ins st tv iv W HP.out (by rw[e];simp) (T.yF HT.out hb) (Rd.below HI.out hb) (xJ.rd_mk (T.yT.2 (Rd.below R3.out hb))))
  have HNX:=hide (show xN x ins st (xW x tables ins st)= [] by unfold xN;simp only[e];rfl)
  generalize xW x tables ins st=OO at *
  generalize xN x ins st OO=NN at *
  rw[e] at HB0 HK0 HOU ⊢
  clear e
  go_enter Tryz.func286,Tryz.ntmps286
  go_wp2_with fail
  refine(HOU.out _ HB0.out).mono ?_;rintro e w1 ⟨rfl,hb⟩
  have HB1:=hide (yJ HB0.out HB0.out.size hb);clear hb
  go_wp2_with (go_at_call 193;refine(vV 0 _ (by decide)).mono ?_;rintro e w2 ⟨rfl,ho,hb⟩;have HO2:=hide ho;have HB2:=hide (yJ HB1.out HB1.out.size hb);clear ho hb)
  go_ret2
  exact⟨_,rfl,by rw[HNX.out];exact wH HO2.out HB1.out.size,HB2.out⟩
 ·
  have hA:0≤x.fA∧x.fA≤31:=by have h:=HA0.out;rw[e] at h;exact xC.1 h
  have HOU:=hide (fun(W:World) (hb:Below w.heap.size w W)=>c_output x [.int .i64 x.zD,.int .i64 x.fA,.int .i64 x.fB,.slice va3 x.zH.length vc3] tables ins st tv iv W HP.out (by rw[e];simp) (T.yF HT.out hb) (Rd.below HI.out hb) (xJ.rd_mk (T.yT.2 (Rd.below R3.out hb))))
  have HNX:=hide (show xN x ins st (xW x tables ins st)= [] by unfold xN;simp only[e];rfl)
  generalize xW x tables ins st=OO at *
  generalize xN x ins st OO=NN at *
  rw[e] at HB0 HK0 HOU ⊢
  clear e
  go_enter Tryz.func286,Tryz.ntmps286
  go_wp2_with fail
  refine(HOU.out _ HB0.out).mono ?_;rintro e w1 ⟨rfl,hb⟩
  have HB1:=hide (yJ HB0.out HB0.out.size hb);clear hb
  go_wp2_with (go_at_call 193;refine(vV 0 _ (by decide)).mono ?_;rintro e w2 ⟨rfl,ho,hb⟩;have HO2:=hide ho;have HB2:=hide (yJ HB1.out HB1.out.size hb);clear ho hb)
  go_ret2
  exact⟨_,rfl,by rw[HNX.out];exact wH HO2.out HB1.out.size,HB2.out⟩
 ·
  have hA:0≤x.fA∧x.fA≤2147483647:=by have h:=HA0.out;rw[e] at h;exact xC.1 h
  have HOU:=hide (fun(W:World) (hb:Below w.heap.size w W)=>c_output x [.int .i64 x.zD,.int .i64 x.fA,.int .i64 x.fB,.slice va3 x.zH.length vc3] tables ins st tv iv W HP.out (by rw[e];simp) (T.yF HT.out hb) (Rd.below HI.out hb) (xJ.rd_mk (T.yT.2 (Rd.below R3.out hb))))
  have HNX:=hide (show xN x ins st (xW x tables ins st)= [] by unfold xN;simp only[e];rfl)
  generalize xW x tables ins st=OO at *
  generalize xN x ins st OO=NN at *
  rw[e] at HB0 HK0 HOU ⊢
  clear e
  go_enter Tryz.func286,Tryz.ntmps286
  go_wp2_with fail
  refine(HOU.out _ HB0.out).mono ?_;rintro e w1 ⟨rfl,hb⟩
  have HB1:=hide (yJ HB0.out HB0.out.size hb);clear hb
  go_wp2_with (go_at_call 193;refine(vV 0 _ (by decide)).mono ?_;rintro e w2 ⟨rfl,ho,hb⟩;have HO2:=hide ho;have HB2:=hide (yJ HB1.out HB1.out.size hb);clear ho hb)
  go_ret2
  exact⟨_,rfl,by rw[HNX.out];exact wH HO2.out HB1.out.size,HB2.out⟩
 ·
  have hnum:=HP.out.num;have hst:=HP.out.state;have hia:=HP.out.ins_;have hsa:=HP.out.st_
  rw[e] at hnum
  replace hnum:ins.length=1:=by rw[hnum];rfl
  obtain⟨i0,rfl⟩:=lnI1 hnum
  obtain⟨bi,oi,ci,rfl,li,mi,lbi,hci⟩:=xO HI.out (by simp)
  have c0:=hci 0 i0 rfl
  rw[Nat.add_zero] at c0
  clear hci
  have hs0:Smp i0:=hia i0 (by simp)
  simp only[List.length_cons,List.length_nil] at li
  have hst0:0<st.length:=by rw[hst];unfold wD;simp only[e];simp
  obtain⟨bs,os,cs_,rfl,ls,ms,lbs,hcs_⟩:=xO HS.out hst0
  have hgs:=gE hst0
  have s0:=hcs_ 0 _ hgs;rw[Nat.add_zero] at s0
  have hss:Smp st[0]:=hsa _ (List.getElem_mem hst0)
  have HSD:=hide (show st.getD 0 0=st[0] by rw[List.getD_eq_getElem?_getD,hgs];rfl)
  generalize st[0]=y0 at *
  clear hcs_ hgs
  clear hnum hst hia hsa
  have HE:=hide (show xW x tables [i0] st=y0 by unfold xW;simp only[e];(try rw[HSD.out]);(try rfl))
  generalize xW x tables [i0] st=OO at *
  have HNX:=hide (show xN x [i0] st OO= [wrp (y0+i0)] by unfold xN;simp only[e];(try rw[HSD.out]);(try rfl))
  generalize xN x [i0] st OO=NN at *
  rw[e] at HB0 HK0 ⊢
  clear e
  have hw:IntKind.i64.wrap (y0+i0)=y0+i0:=IntWalk.i64_in _ (by unfold Smp at *;omega)
  go_enter Tryz.func286,Tryz.ntmps286
  go_wp2
  generalize (w.alloc (.cells #[.int .i64 12,.int .i64 x.fA,.int .i64 x.fB,(.slice va3 x.zH.length vc3)] 167))=W at *
  have HBd:=hide HB0.out.drew;have HC:=hide (show W.drew.cell? ⟨bi,oi,none⟩=some (.int .i64 i0)∧W.drew.cell? ⟨bs,os,none⟩=some (.int .i64 y0) from⟨(HB0.out.cell lbi).trans c0,(HB0.out.cell lbs).trans s0⟩);have hsd:=HBd.out.size
  refine wE (fun w'=>w'.cell? ⟨bi,oi,none⟩=some (.int .i64 i0)∧w'.cell? ⟨bs,os,none⟩=some (.int .i64 y0)) [] (by kernel_rfl) ?_ (fun hS0=>?_)
  ·exact HC.out
  generalize W.drew=wd at *
  refine tN 0 hS0 ?_
  refine tN 1 hS0 ?_
  refine tN 2 hS0 ?_
  refine tN 3 hS0 ?_
  refine tN 4 hS0 ?_
  refine tN 5 hS0 ?_
  refine tN 6 hS0 ?_
  refine tN 7 hS0 ?_
  refine tN 8 hS0 ?_
  refine tN 9 hS0 ?_
  refine oN 10 (fun K hK=>?_)
  go_simp
  go_wp2_with (go_at_call 242;refine(c_Wrap _ _).mono ?_;rintro e w' ⟨rfl,rfl⟩)
  refine uN hK ?_ (fun hS1=>?_)
  ·exact HC.out
  clear hK K hS0
  have HA4:=hide (show Below wd.heap.size wd (wd.alloc (.cells #[.int .i64 (wrp (y0+i0))] 2)) from(Below.refl _ _).alloc (Nat.le_refl _) _);have HC4:=hide (show (wd.alloc (.cells #[.int .i64 (wrp (y0+i0))] 2)).cell? ⟨bi,oi,none⟩=some (.int .i64 i0)∧(wd.alloc (.cells #[.int .i64 (wrp (y0+i0))] 2)).cell? ⟨bs,os,none⟩=some (.int .i64 y0) from⟨(HA4.out.cell (World.block_lt_of_cell? _ _ HC.out.1)).trans HC.out.1,(HA4.out.cell (World.block_lt_of_cell? _ _ HC.out.2)).trans HC.out.2⟩)
  refine tN 12 hS1 ?_
  refine oN 11 (fun K hK=>?_)
  go_simp
  refine uN hK ?_ (fun hS2=>?_)
  ·exact HC4.out
  clear hK K hS1
  refine oN 13 (fun K hK=>?_)
  go_simp
  refine uN hK ?_ (fun hS3=>?_)
  ·exact HC4.out
  clear hK K hS2
  refine xY (by kernel_rfl) ?_
  clear hS3
  go_wp2
  go_ret2
  exact⟨_,by rw[HE.out];rfl,by rw[HNX.out];exact wH (lit1 wd _) hsd,yJ HBd.out hsd HA4.out⟩
 ·
  have hA:0≤x.fA∧x.fA≤3:=by have h:=HA0.out;rw[e] at h;exact xC.1 h
  have hAt:x.fA<(tables.length:Int):=HTB.out e
  have HOU:=hide (fun(W:World) (hb:Below w.heap.size w W)=>c_output x [.int .i64 x.zD,.int .i64 x.fA,.int .i64 x.fB,.slice va3 x.zH.length vc3] tables ins st tv iv W HP.out (by rw[e];simp) (T.yF HT.out hb) (Rd.below HI.out hb) (xJ.rd_mk (T.yT.2 (Rd.below R3.out hb))))
  have HNX:=hide (show xN x ins st (xW x tables ins st)= [] by unfold xN;simp only[e];rfl)
  generalize xW x tables ins st=OO at *
  generalize xN x ins st OO=NN at *
  rw[e] at HB0 HK0 HOU ⊢
  clear e
  go_enter Tryz.func286,Tryz.ntmps286
  go_wp2_with fail
  refine(HOU.out _ HB0.out).mono ?_;rintro e w1 ⟨rfl,hb⟩
  have HB1:=hide (yJ HB0.out HB0.out.size hb);clear hb
  go_wp2_with (go_at_call 193;refine(vV 0 _ (by decide)).mono ?_;rintro e w2 ⟨rfl,ho,hb⟩;have HO2:=hide ho;have HB2:=hide (yJ HB1.out HB1.out.size hb);clear ho hb)
  go_ret2
  exact⟨_,rfl,by rw[HNX.out];exact wH HO2.out HB1.out.size,HB2.out⟩
 ·
  have hnum:=HP.out.num;have hst:=HP.out.state;have hia:=HP.out.ins_;have hsa:=HP.out.st_
  rw[e] at hnum
  replace hnum:ins.length=0:=by rw[hnum];rfl
  obtain rfl:ins= []:=List.eq_nil_of_length_eq_zero hnum
  obtain⟨IA,ci,rfl,li,mi,_⟩:=HI.out.open_
  have hst0:0<st.length:=by rw[hst];unfold wD;simp only[e];simp
  obtain⟨bs,os,cs_,rfl,ls,ms,lbs,hcs_⟩:=xO HS.out hst0
  have hgs:=gE hst0
  have s0:=hcs_ 0 _ hgs;rw[Nat.add_zero] at s0
  have hss:Smp st[0]:=hsa _ (List.getElem_mem hst0)
  have HSD:=hide (show st.getD 0 0=st[0] by rw[List.getD_eq_getElem?_getD,hgs];rfl)
  generalize st[0]=y0 at *
  clear hcs_ hgs
  clear hnum hst hia hsa
  have HE:=hide (show xW x tables [] st=y0 by unfold xW;simp only[e];(try rw[HSD.out]);(try rfl))
  generalize xW x tables [] st=OO at *
  have HNX:=hide (show xN x [] st OO= [noiseF y0] by unfold xN;simp only[e];(try rw[HSD.out]);(try rfl))
  generalize xN x [] st OO=NN at *
  rw[e] at HB0 HK0 ⊢
  clear e
  go_enter Tryz.func286,Tryz.ntmps286
  go_wp2
  generalize (w.alloc (.cells #[.int .i64 14,.int .i64 x.fA,.int .i64 x.fB,(.slice va3 x.zH.length vc3)] 167))=W at *
  have HBd:=hide HB0.out.drew;have HC:=hide (show W.drew.cell? ⟨bs,os,none⟩=some (.int .i64 y0) from(HB0.out.cell lbs).trans s0);have hsd:=HBd.out.size
  refine wE (fun w'=>w'.cell? ⟨bs,os,none⟩=some (.int .i64 y0)) [] (by kernel_rfl) ?_ (fun hS0=>?_)
  ·exact HC.out
  generalize W.drew=wd at *
  refine tN 0 hS0 ?_
  refine tN 1 hS0 ?_
  refine tN 2 hS0 ?_
  refine tN 3 hS0 ?_
  refine tN 4 hS0 ?_
  refine tN 5 hS0 ?_
  refine oN 6 (fun K hK=>?_)
  go_simp
  go_wp2_with (go_at_call 293;refine(c_noise _ _).mono ?_;rintro e w' ⟨rfl,rfl⟩)
  refine uN hK ?_ (fun hS1=>?_)
  ·exact HC.out
  clear hK K hS0
  have HA4:=hide (show Below wd.heap.size wd (wd.alloc (.cells #[.int .i64 (noiseF y0)] 2)) from(Below.refl _ _).alloc (Nat.le_refl _) _);have HC4:=hide ((HA4.out.cell (World.block_lt_of_cell? _ _ HC.out)).trans HC.out)
  refine tN 8 hS1 ?_
  refine oN 7 (fun K hK=>?_)
  go_simp
  refine uN hK ?_ (fun hS2=>?_)
  ·exact HC4.out
  clear hK K hS1
  refine oN 9 (fun K hK=>?_)
  go_simp
  refine uN hK ?_ (fun hS3=>?_)
  ·exact HC4.out
  clear hK K hS2
  refine xY (by kernel_rfl) ?_
  clear hS3
  go_wp2
  go_ret2
  exact⟨_,by rw[HE.out];rfl,by rw[HNX.out];exact wH (lit1 wd _) hsd,yJ HBd.out hsd HA4.out⟩
 ·
  have HOU:=hide (fun(W:World) (hb:Below w.heap.size w W)=>c_output x [.int .i64 x.zD,.int .i64 x.fA,.int .i64 x.fB,.slice va3 x.zH.length vc3] tables ins st tv iv W HP.out (by rw[e];simp) (T.yF HT.out hb) (Rd.below HI.out hb) (xJ.rd_mk (T.yT.2 (Rd.below R3.out hb))))
  have HNX:=hide (show xN x ins st (xW x tables ins st)= [] by unfold xN;simp only[e];rfl)
  generalize xW x tables ins st=OO at *
  generalize xN x ins st OO=NN at *
  rw[e] at HB0 HK0 HOU ⊢
  clear e
  go_enter Tryz.func286,Tryz.ntmps286
  go_wp2_with fail
  refine(HOU.out _ HB0.out).mono ?_;rintro e w1 ⟨rfl,hb⟩
  have HB1:=hide (yJ HB0.out HB0.out.size hb);clear hb
  go_wp2_with (go_at_call 193;refine(vV 0 _ (by decide)).mono ?_;rintro e w2 ⟨rfl,ho,hb⟩;have HO2:=hide ho;have HB2:=hide (yJ HB1.out HB1.out.size hb);clear ho hb)
  go_ret2
  exact⟨_,rfl,by rw[HNX.out];exact wH HO2.out HB1.out.size,HB2.out⟩
 ·
  have hnum:=HP.out.num;have hst:=HP.out.state;have hia:=HP.out.ins_;have hsa:=HP.out.st_
  rw[e] at hnum
  replace hnum:ins.length=2:=by rw[hnum];rfl
  obtain⟨i0,i1,rfl⟩:=lnI2 hnum
  obtain⟨bi,oi,ci,rfl,li,mi,lbi,hci⟩:=xO HI.out (by simp)
  have c0:=hci 0 i0 rfl
  have c1:=hci 1 i1 rfl
  rw[Nat.add_zero] at c0
  clear hci
  have hs0:Smp i0:=hia i0 (by simp)
  have hs1:Smp i1:=hia i1 (by simp)
  simp only[List.length_cons,List.length_nil] at li
  have hst0:0<st.length:=by rw[hst];unfold wD;simp only[e];simp
  obtain⟨bs,os,cs_,rfl,ls,ms,lbs,hcs_⟩:=xO HS.out hst0
  have hgs:=gE hst0
  have s0:=hcs_ 0 _ hgs;rw[Nat.add_zero] at s0
  have hss:Smp st[0]:=hsa _ (List.getElem_mem hst0)
  have HSD:=hide (show st.getD 0 0=st[0] by rw[List.getD_eq_getElem?_getD,hgs];rfl)
  generalize st[0]=y0 at *
  clear hcs_ hgs
  clear hnum hst hia hsa
  have HE:=hide (show xW x tables [i0,i1] st=(if 0<i1 then i0 else y0) by unfold xW;simp only[e];have hgd:=HSD.out;rw[List.getD_eq_getElem?_getD] at hgd;simp[hgd])
  generalize xW x tables [i0,i1] st=OO at *
  have HNX:=hide (show xN x [i0,i1] st OO= [OO] by unfold xN;simp only[e];(try rw[HSD.out]);(try rfl))
  generalize xN x [i0,i1] st OO=NN at *
  rw[e] at HB0 HK0 ⊢
  clear e
  by_cases hc:0<i1
  ·
   have HE2:=hide (show OO=i0 by rw[HE.out,if_pos hc])
   have q1:decide (0<i1)=true:=decide_eq_true hc
   have k0:=(HB0.out.cell lbi).trans c0
   have k1:=(HB0.out.cell lbi).trans c1
   have ks:=(HB0.out.cell lbs).trans s0;have lbi2:bi<(w.alloc (.cells #[.int .i64 16,.int .i64 x.fA,.int .i64 x.fB,(.slice va3 x.zH.length vc3)] 167)).heap.size:=lL lbi HB0.out.size;have lbs2:bs<(w.alloc (.cells #[.int .i64 16,.int .i64 x.fA,.int .i64 x.fB,(.slice va3 x.zH.length vc3)] 167)).heap.size:=lL lbs HB0.out.size
   clear c0 c1 s0
   go_enter Tryz.func286,Tryz.ntmps286
   go_wp2
   go_ret2
   exact⟨_,by rw[HE2.out];rfl,by rw[HNX.out,HE2.out];have h:=wH (lit1 (w.alloc (.cells #[.int .i64 16,.int .i64 x.fA,.int .i64 x.fB,(.slice va3 x.zH.length vc3)] 167)) (i0)) HB0.out.size;unfold OwI;simpa using h,HB0.out.alloc HB0.out.size _⟩
  ·
   have HE2:=hide (show OO=y0 by rw[HE.out,if_neg hc])
   have q1:decide (0<i1)=false:=decide_eq_false hc
   have k0:=(HB0.out.cell lbi).trans c0
   have k1:=(HB0.out.cell lbi).trans c1
   have ks:=(HB0.out.cell lbs).trans s0;have lbi2:bi<(w.alloc (.cells #[.int .i64 16,.int .i64 x.fA,.int .i64 x.fB,(.slice va3 x.zH.length vc3)] 167)).heap.size:=lL lbi HB0.out.size;have lbs2:bs<(w.alloc (.cells #[.int .i64 16,.int .i64 x.fA,.int .i64 x.fB,(.slice va3 x.zH.length vc3)] 167)).heap.size:=lL lbs HB0.out.size
   clear c0 c1 s0
   go_enter Tryz.func286,Tryz.ntmps286
   go_wp2
   go_ret2
   exact⟨_,by rw[HE2.out];rfl,by rw[HNX.out,HE2.out];have h:=wH (lit1 (w.alloc (.cells #[.int .i64 16,.int .i64 x.fA,.int .i64 x.fB,(.slice va3 x.zH.length vc3)] 167)) (y0)) HB0.out.size;unfold OwI;simpa using h,HB0.out.alloc HB0.out.size _⟩
 ·
  have hA:Smp x.fA:=by have h:=HA0.out;rw[e] at h;exact xC.1 h
  have HA:=hide (show 1≤x.fB∧x.fB≤16 by have h:=HB0_.out;rw[e] at h;exact xC.1 h)
  have hnum:=HP.out.num;have hst:=HP.out.state;have hia:=HP.out.ins_;have hsa:=HP.out.st_
  rw[e] at hnum
  replace hnum:ins.length=1:=by rw[hnum];rfl
  obtain⟨i0,rfl⟩:=lnI1 hnum
  obtain⟨bi,oi,ci,rfl,li,mi,lbi,hci⟩:=xO HI.out (by simp)
  have c0:=hci 0 i0 rfl
  rw[Nat.add_zero] at c0
  clear hci
  have hs0:Smp i0:=hia i0 (by simp)
  simp only[List.length_cons,List.length_nil] at li
  have hst0:0<st.length:=by rw[hst];unfold wD;simp only[e];simp;have:=HA.out;omega
  obtain⟨bs,os,cs_,rfl,ls,ms,lbs,hcs_⟩:=xO HS.out hst0
  have hgs:=gE hst0
  have s0:=hcs_ 0 _ hgs;rw[Nat.add_zero] at s0
  have hss:Smp st[0]:=hsa _ (List.getElem_mem hst0)
  have HSD:=hide (show st.getD 0 0=st[0] by rw[List.getD_eq_getElem?_getD,hgs];rfl)
  generalize st[0]=y0 at *
  clear hcs_ hgs
  clear hnum hst hia hsa
  have HE:=hide (show xW x tables [i0] st=wrp (i0+x.fA * y0) by unfold xW;simp only[e];(try rw[HSD.out]);(try rfl))
  generalize xW x tables [i0] st=OO at *
  have HNX:=hide (show xN x [i0] st OO=st.drop 1++ [OO] by unfold xN;simp only[e];(try rw[HSD.out]);(try rfl))
  generalize xN x [i0] st OO=NN at *
  have HK_:=hide e
  have hst1:1≤st.length:=hst0
  have hsl:st.length≤1048576:=by have h:=HP.out.state;unfold wD at h;simp only[HK_.out] at h;simp at h;have:=HA.out;omega
  have HT1:=hide (rdI_tail HS.out hst1)
  rw[e] at HB0 HK0 ⊢
  clear e
  have hm:=smp_mul hA hss
  have hw1:IntKind.i64.wrap (x.fA * y0)=x.fA * y0:=IntWalk.i64_in _ (by omega)
  have hw:IntKind.i64.wrap (i0+x.fA * y0)=i0+x.fA * y0:=IntWalk.i64_in _ (by unfold Smp at *;omega)
  by_cases hq:cs_=1
  ·
   subst hq
   have HTL:=hide (HT1.out.1 rfl)
   have hl1:st.length=1:=by omega
   have hdl:(st.drop 1).length≤1048576:=by rw[List.length_drop];omega
   go_enter Tryz.func286,Tryz.ntmps286
   go_wp2
   generalize (w.alloc (.cells #[.int .i64 17,.int .i64 x.fA,.int .i64 x.fB,(.slice va3 x.zH.length vc3)] 167))=W at *
   have g0:=xE HK0.out;have g1:=yG ((HB0.out.cell lbi).trans c0);have g2:=yG ((HB0.out.cell lbs).trans s0)
   refine xD (by kernel_rfl) (by kernel_rfl) ?_
   repeat(first|go_big_quiet_skip|(go_big_quiet_want;go_big_quiet_op;first|go_big_quiet_on|(apply Exists.intro;refine⟨fun _=>?_,?_⟩;(· (first|(go_at_call 242;exact Calls.yK (c_Wrap _ _))));go_big_quiet_on)))
   refine wpQuiet_nil ?_
   rintro w9 ⟨uu,rfl⟩
   have hb9:=yH W uu
   generalize bel W uu=w9 at *
   have HB9:=hide (yJ HB0.out HB0.out.size hb9);have hs9:=HB9.out.size;clear g0 g1 g2 hb9
   go_wp2_with fail
   refine(c_clone _ (st.drop 1) _ (RdI.below HTL.out HB9.out) hdl).mono ?_;rintro e w3 ⟨v3,rfl,ho,hb⟩
   have HO3:=hide (wH ho hs9);have HB3:=hide (yJ HB9.out hs9 hb);have hs3:=HB3.out.size;clear ho hb
   go_wp2_with (at_builtin;refine uQ rfl _ _ rfl rfl HO3.out rfl (by omega) hs3 ?_;intro v8 w8 ho8 hg8 hv8;have HB8:=hide (wW HB3.out HO3.out hg8 (Nat.le_refl _) hs3);have HO8:=hide ho8;clear ho8 hg8 hv8)
   go_ret2
   exact⟨_,by rw[HE.out];rfl,by rw[HNX.out,HE.out];exact HO8.out,HB8.out⟩
  ·
   have HTL:=hide (HT1.out.2 (by omega))
   have q1:(1:Int)<(cs_:Int):=(by omega);have q2:1<cs_:=(by omega);have q3:(1:Int)≤(st.length:Int):=(by omega)
   have hdl:(st.drop 1).length≤1048576:=by rw[List.length_drop];omega
   go_enter Tryz.func286,Tryz.ntmps286
   go_wp2
   generalize (w.alloc (.cells #[.int .i64 17,.int .i64 x.fA,.int .i64 x.fB,(.slice va3 x.zH.length vc3)] 167))=W at *
   have g0:=xE HK0.out;have g1:=yG ((HB0.out.cell lbi).trans c0);have g2:=yG ((HB0.out.cell lbs).trans s0)
   refine xD (by kernel_rfl) (by kernel_rfl) ?_
   repeat(first|go_big_quiet_skip|(go_big_quiet_want;go_big_quiet_op;first|go_big_quiet_on|(apply Exists.intro;refine⟨fun _=>?_,?_⟩;(· (first|(go_at_call 242;exact Calls.yK (c_Wrap _ _))));go_big_quiet_on)))
   refine wpQuiet_nil ?_
   rintro w9 ⟨uu,rfl⟩
   have hb9:=yH W uu
   generalize bel W uu=w9 at *
   have HB9:=hide (yJ HB0.out HB0.out.size hb9);have hs9:=HB9.out.size;clear g0 g1 g2 hb9
   go_wp2_with fail
   refine(c_clone _ (st.drop 1) _ (RdI.below HTL.out HB9.out) hdl).mono ?_;rintro e w3 ⟨v3,rfl,ho,hb⟩
   have HO3:=hide (wH ho hs9);have HB3:=hide (yJ HB9.out hs9 hb);have hs3:=HB3.out.size;clear ho hb
   go_wp2_with (at_builtin;refine uQ rfl _ _ rfl rfl HO3.out rfl (by omega) hs3 ?_;intro v8 w8 ho8 hg8 hv8;have HB8:=hide (wW HB3.out HO3.out hg8 (Nat.le_refl _) hs3);have HO8:=hide ho8;clear ho8 hg8 hv8)
   go_ret2
   exact⟨_,by rw[HE.out];rfl,by rw[HNX.out,HE.out];exact HO8.out,HB8.out⟩
end Go.Proofs.YtoibekfhepnedaaGreat
