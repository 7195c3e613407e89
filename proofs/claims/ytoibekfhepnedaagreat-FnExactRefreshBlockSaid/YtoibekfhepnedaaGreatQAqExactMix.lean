/- Contract: the next state of a node, by the reference. -/
import Derived.Test.YtoibekfhepnedaaGreatQAoExactMix
import Derived.Test.YtoibekfhepnedaaGreatQApExactMix
import Derived.Test.YtoibekfhepnedaaGreatQAbExactMix
set_option linter.unusedVariables false
set_option linter.unusedSimpArgs false
set_option maxHeartbeats 8000000
set_option maxRecDepth 100000
namespace Go.Proofs.YtoibekfhepnedaaGreat
open Go.RowKit
theorem yRy {w:World} {b off n cap:Nat} {xs:List Int} (h:RdI w (.slice (some ⟨b,off,none⟩) n cap) xs) (hn:1≤n):(cap=1→RdI w (.slice (some ⟨b,off,none⟩) 0 0) (xs.drop 1))∧(1<cap→RdI w (.slice (some ⟨b,off+1,none⟩) (n - 1) (cap - 1)) (xs.drop 1)):=by
 obtain⟨h1,A,c,h2,h3,h4,h5⟩:=h;injection h2 with e1 e2 e3;subst e1 e3;have hl:(xs.drop 1).length=n - 1:=by rw[List.length_drop];omega
 have hx:xs.length=n:=e2.symm
 constructor
 ·intro hc
  have h0:(xs.drop 1).length=0:=by omega
  have e:xs.drop 1= []:=List.eq_nil_of_length_eq_zero h0;rw[e];exact⟨rfl,some ⟨b,off,none⟩,0,rfl,zJ,by omega,fun hq=>absurd hq (by simp)⟩
 ·intro hc
  refine⟨by simp,some ⟨b,off+1,none⟩,cap - 1,by rw[hl],by rw[hl];omega,by omega,fun hq=>?_⟩;obtain⟨b',off',e,hb,hcell⟩:=h5 zM;injection e with e;injection e with e1 e2;subst e1 e2;refine⟨b,off+1,rfl,hb,fun j u hj=>?_⟩;have:=hcell (j+1) u (by rw[List.map_drop,List.getElem?_drop] at hj;rw[Nat.add_comm];exact hj);rw[show off+1+j=off+(j+1) by omega];exact this
theorem lit1 (w:World) (n:Int):OwI 2 (w.alloc (.cells #[.int .i64 n] 2)) w.heap.size (.slice (some ⟨w.heap.size,0,none⟩) 1 1) [n]:=World.ownsRow_lit (base:=w.heap.size) (e:=2) (size:=1) w #[.int .i64 n] 1 zJ (by decide) rfl
theorem uL {w:World} {ops:Array Oper} {o:Oper} {a:Act} {K:Act→World→Prop} {Q:Exit→Act→World→Prop} {E:Prop} (hgd:o.guard=none) (s x:Operand)
  (ho:o.op= .call { callee:= .builtin .append,args:= #[s,x],argTypes:= #[26,26] }) {B:Nat} {v:Value} {xs:List Int} (hs:a.eval s=v) (hown:OwI 2 w B v xs)
  {y:Value} {ys:List Int} (hx:a.eval x=y) (hr:RdI w y ys) (hl:xs.length+ys.length≤8796093022208) (hB:B≤w.heap.size)
  (h: ∀ v' w',OwI 2 w' B v' (xs++ys)→w.grownBy w' v.ownBlock→(∀ k,v'.ownBlock=some k→v.ownBlock=some k∨w.heap.size≤k)→K (a.put o.dst v') w'):
  if Region.wanted o (yielded ops a.tmps)=true then Oper.wp Tryz.prog o a w K Q else E:=
 vYz hgd s x _ ho B _ _ 1 8 Tryz.underlying26 xWz rfl zM v xs.length _ hs hown y ys.length _ hx hr (fun u hu=>by obtain⟨n,_,rfl⟩:=List.mem_map.1 hu;rfl) zM (by unfold maxLen;omega) hB
  fun v' w' h1 h2 h3=>h v' w' (by unfold OwI;simpa using h1) h2 h3
theorem vS {P:Program} {ops:Array Oper} {Q:Exit→Act→World→Prop} {md:Region.Mode} {S:World→Prop} {n:List Nat} {i j:Nat} {o o2:Oper} {fuel:Nat} {listed:Array Bool} {a:Act} {w:World} (hr:Region.ready md ops listed= [i,j]) (ho:ops[i]?=some o) (ho2:ops[j]?=some o2)
  (h: ∀ K':Act→World→Prop,Shut (∀ a w,S w→(S w→uM P md ops Q S n fuel (listed.setIfInBounds i true) a w)→K' a w)→if Region.wanted o (yielded ops a.tmps)=true then Oper.wp P o a w K' Q else K' (a.put o.dst undef) w)
  (h2: ∀ K':Act→World→Prop,Shut (∀ a w,S w→(S w→uM P md ops Q S n fuel (listed.setIfInBounds j true) a w)→K' a w)→if Region.wanted o2 (yielded ops a.tmps)=true then Oper.wp P o2 a w K' Q else K' (a.put o2.dst undef) w):
  uM P md ops Q S n (fuel+1) listed a w:=
 ⟨fun h0=>(by rw[h0] at hr;cases hr),fun q hq=>by
  rw[hr,List.mem_cons,List.mem_singleton] at hq
  rcases hq with rfl|rfl
  ·exact wpOp_step ho (fun K' hK=>h K' (fun a w hS hW=>hK a w ⟨.inr hS,hW hS⟩))
  ·exact wpOp_step ho2 (fun K' hK=>h2 K' (fun a w hS hW=>hK a w ⟨.inr hS,hW hS⟩))⟩
theorem c_l06Next (x:xR) (b o:Nat) (tables:List (List Int)) (ins st:List Int) (iv sv:Value) (out:Int) (w:World) (hP:uRz x tables ins st) (hI:RdI w iv ins) (hS:RdI w sv st) (h:T.at w x.fs b o):Calls Tryz.prog 285 #[.pointer (some ⟨b,o,none⟩),iv,sv,.int .i64 out] w fun e w'=> ∃ v,e= .returned v∧OwI 2 w' w.heap.size v (xW x ins st out)∧Below w.heap.size w w':=by
 have HAT:=xN h;obtain⟨hlt0,cs,hr,hc⟩:=h;obtain⟨v3,rfl,h3⟩:=xR.yV hr;clear hr;obtain⟨va3,vc3,rfl,vl3,vm3,R3,HX3⟩:=oI h3;clear h3;have HL:=xN hlt0;have HCC:=xN hc;have HB0:=xN (Below.refl w.heap.size w);clear hlt0 hc;have HP:=xN hP;have HI:=xN hI;have HS:=xN hS;have hk:=xK.1 hP.ok.kind;have h17:x.zG=1∨x.zG=2∨x.zG=3∨x.zG=4∨x.zG=5∨x.zG=6∨x.zG=7∨x.zG=8∨x.zG=9∨x.zG=10∨x.zG=11∨x.zG=12∨x.zG=13∨x.zG=14∨x.zG=15∨x.zG=16∨x.zG=17:=by omega
 have HA0:=xN hP.ok.a;have HB0_:=xN hP.ok.b;have HTB:=xN hP.ok.table;clear hP hI hS hk;have p0:w.cell? ⟨b,o,none⟩=some (.int .i64 x.zG):=(HB0.out.cell HL.out).trans (HCC.out 0 _ rfl);have p1:w.cell? ⟨b,o+1,none⟩=some (.int .i64 x.fA):=(HB0.out.cell HL.out).trans (HCC.out 1 _ rfl);have p2:w.cell? ⟨b,o+2,none⟩=some (.int .i64 x.fB):=(HB0.out.cell HL.out).trans (HCC.out 2 _ rfl);have p3:w.cell? ⟨b,o+3,none⟩=some (.slice va3 x.zK.length vc3):=(HB0.out.cell HL.out).trans (HCC.out 3 _ rfl);have lb:b<w.heap.size:=zW HL.out HB0.out.size
 rcases h17 with e|e|e|e|e|e|e|e|e|e|e|e|e|e|e|e|e
 ·
  have hnum:=HP.out.num;have hst:=HP.out.state;have hia:=HP.out.ins_;have hsa:=HP.out.st_;rw[e] at hnum;replace hnum:ins.length=1:=by rw[hnum];rfl
  obtain⟨i0,rfl⟩:=xEz hnum;obtain⟨IA,ci,rfl,li,mi,_⟩:=HI.out.open_;have hs0:Smp i0:=hia i0 (by simp);simp only[List.length_cons,List.length_nil] at li;obtain⟨SA,cs_,rfl,ls,ms,_⟩:=HS.out.open_;clear hnum hst hia hsa;have HE:=xN (show xW x [i0] st out= [] by unfold xW;simp only[e];rfl);rw[e] at p0;generalize xW x [i0] st out=OO at *;clear e
  go_enter Tryz.func285,Tryz.ntmps285
  go_wp2;go_ret
  exact⟨_,rfl,by rw[HE.out];exact vL w,zR.alloc zJ _⟩
 ·
  have hnum:=HP.out.num;have hst:=HP.out.state;have hia:=HP.out.ins_;have hsa:=HP.out.st_;rw[e] at hnum;replace hnum:ins.length=0:=by rw[hnum];rfl
  obtain rfl:ins= []:=List.eq_nil_of_length_eq_zero hnum;obtain⟨IA,ci,rfl,li,mi,_⟩:=HI.out.open_;obtain⟨SA,cs_,rfl,ls,ms,_⟩:=HS.out.open_;clear hnum hst hia hsa;have HE:=xN (show xW x [] st out= [] by unfold xW;simp only[e];rfl);rw[e] at p0;generalize xW x [] st out=OO at *;clear e
  go_enter Tryz.func285,Tryz.ntmps285
  go_wp2;go_ret
  exact⟨_,rfl,by rw[HE.out];exact vL w,zR.alloc zJ _⟩
 ·
  have hnum:=HP.out.num;have hst:=HP.out.state;have hia:=HP.out.ins_;have hsa:=HP.out.st_;rw[e] at hnum;replace hnum:ins.length=2:=by rw[hnum];rfl
  obtain⟨i0,i1,rfl⟩:=lnI2 hnum;obtain⟨IA,ci,rfl,li,mi,_⟩:=HI.out.open_;have hs0:Smp i0:=hia i0 (by simp);have hs1:Smp i1:=hia i1 (by simp);simp only[List.length_cons,List.length_nil] at li;obtain⟨SA,cs_,rfl,ls,ms,_⟩:=HS.out.open_;clear hnum hst hia hsa;have HE:=xN (show xW x [i0,i1] st out= [] by unfold xW;simp only[e];rfl);rw[e] at p0;generalize xW x [i0,i1] st out=OO at *;clear e
  go_enter Tryz.func285,Tryz.ntmps285
  go_wp2;go_ret
  exact⟨_,rfl,by rw[HE.out];exact vL w,zR.alloc zJ _⟩
 ·
  have hnum:=HP.out.num;have hst:=HP.out.state;have hia:=HP.out.ins_;have hsa:=HP.out.st_;rw[e] at hnum;replace hnum:ins.length=2:=by rw[hnum];rfl
  obtain⟨i0,i1,rfl⟩:=lnI2 hnum;obtain⟨IA,ci,rfl,li,mi,_⟩:=HI.out.open_;have hs0:Smp i0:=hia i0 (by simp);have hs1:Smp i1:=hia i1 (by simp);simp only[List.length_cons,List.length_nil] at li;obtain⟨SA,cs_,rfl,ls,ms,_⟩:=HS.out.open_;clear hnum hst hia hsa;have HE:=xN (show xW x [i0,i1] st out= [] by unfold xW;simp only[e];rfl);rw[e] at p0;generalize xW x [i0,i1] st out=OO at *;clear e
  go_enter Tryz.func285,Tryz.ntmps285
  go_wp2;go_ret
  exact⟨_,rfl,by rw[HE.out];exact vL w,zR.alloc zJ _⟩
 ·
  have hA:Smp x.fA:=by have h:=HA0.out;rw[e] at h;exact xK.1 h
  have hnum:=HP.out.num;have hst:=HP.out.state;have hia:=HP.out.ins_;have hsa:=HP.out.st_;rw[e] at hnum;replace hnum:ins.length=1:=by rw[hnum];rfl
  obtain⟨i0,rfl⟩:=xEz hnum;obtain⟨IA,ci,rfl,li,mi,_⟩:=HI.out.open_;have hs0:Smp i0:=hia i0 (by simp);simp only[List.length_cons,List.length_nil] at li;obtain⟨SA,cs_,rfl,ls,ms,_⟩:=HS.out.open_;clear hnum hst hia hsa;have HE:=xN (show xW x [i0] st out= [] by unfold xW;simp only[e];rfl);rw[e] at p0;generalize xW x [i0] st out=OO at *;clear e
  go_enter Tryz.func285,Tryz.ntmps285
  go_wp2;go_ret
  exact⟨_,rfl,by rw[HE.out];exact vL w,zR.alloc zJ _⟩
 ·
  have HA:=xN (show 1≤x.fA∧x.fA≤16 by have h:=HA0.out;rw[e] at h;exact xK.1 h);have hnum:=HP.out.num;have hst:=HP.out.state;have hia:=HP.out.ins_;have hsa:=HP.out.st_;rw[e] at hnum;replace hnum:ins.length=1:=by rw[hnum];rfl
  obtain⟨i0,rfl⟩:=xEz hnum;obtain⟨bi,oi,ci,rfl,li,mi,lbi,hci⟩:=xY HI.out (by simp);have c0:=hci 0 i0 rfl;rw[Nat.add_zero] at c0;clear hci;have hs0:Smp i0:=hia i0 (by simp);simp only[List.length_cons,List.length_nil] at li;have hst0:0<st.length:=by rw[hst];unfold wO;simp only[e];simp;have:=HA.out;omega
  obtain⟨bs,os,cs_,rfl,ls,ms,lbs,hcs_⟩:=xY HS.out hst0;have hgs:=gE hst0;have s0:=hcs_ 0 _ hgs;rw[Nat.add_zero] at s0;have hss:Smp st[0]:=hsa _ (List.getElem_mem hst0);have HSD:=xN (show st.getD 0 0=st[0] by rw[List.getD_eq_getElem?_getD,hgs];rfl);generalize st[0]=y0 at *;clear hcs_ hgs;clear hnum hst hia hsa;have HE:=xN (show xW x [i0] st out=st.drop 1++ [i0] by unfold xW;simp only[e];rfl);rw[e] at p0;generalize xW x [i0] st out=OO at *;have HK_:=xN e;clear e;have hst1:1≤st.length:=hst0;have hsl:st.length≤1048576:=by have h:=HP.out.state;unfold wO at h;simp only[HK_.out] at h;simp at h;have:=HA.out;omega
  have HT1:=xN (yRy HS.out hst1);by_cases hq:cs_=1
  ·
   subst hq;have HTL:=xN (HT1.out.1 rfl);have hl1:st.length=1:=by omega
   have hdl:(st.drop 1).length≤1048576:=by rw[List.length_drop];omega
   go_enter Tryz.func285,Tryz.ntmps285
   go_wp2;refine wH (fun w'=>w'.cell? ⟨bi,oi,none⟩=some (.int .i64 i0)) [] (by kernel_rfl) ?_ (fun hS0=>?_)
   ·exact c0
   have HCd:=xN (show w.drew.cell? ⟨bi,oi,none⟩=some (.int .i64 i0) from c0);have HTd:=xN (RdI.below HTL.out (Below.refl w.heap.size w).drew);have HBd:=xN (Below.refl w.heap.size w).drew;have hdz:w.drew.heap.size=w.heap.size:=rfl;clear c0 p0 p1 p2 p3 lb;generalize w.drew=wd at *;refine zN 0 hS0 ?_;refine zN 1 hS0 ?_;refine zN 3 hS0 ?_;refine zN 4 hS0 ?_;refine zN 5 hS0 ?_;refine vS (i:=2) (j:=6) (o:=_) (o2:=_) (by kernel_rfl) rfl rfl (fun K hK=>?_) (fun K hK=>?_)
   ·
    go_simp;go_wp2_with (go_at_call 95;refine(uB _ (st.drop 1) _ HTd.out hdl).mono ?_;rintro e w3 ⟨v3,rfl,ho,hb⟩)
    rw[hdz] at ho hb;have HC3:=xN ((hb.cell (by rw[←hdz];exact World.block_lt_of_cell? _ _ HCd.out)).trans HCd.out);have HO3:=xN ho;have HB3:=xN (yQ HBd.out zM (by rw[hdz];exact hb));have hs3:w.heap.size≤w3.heap.size:=(by have:=hb.size;omega);clear ho hb;refine uN hK ?_ (fun hS1=>?_)
    ·exact HC3.out
    clear hK K hS0;have HA4:=xN (show Below w3.heap.size w3 (w3.alloc (.cells #[.int .i64 i0] 2)) from zR.alloc zJ _);have HO4:=xN (wX HO3.out HA4.out);have HB4:=xN (yQ HB3.out hs3 HA4.out);have HL4:=xN (OwI.rd (lit1 w3 i0));have HC4:=xN ((HA4.out.cell (World.block_lt_of_cell? _ _ HC3.out)).trans HC3.out);have hs4:=HB4.out.size;refine pN 6 (fun K hK=>?_);go_simp;refine uN hK ?_ (fun hS2=>?_)
    ·exact HC4.out
    clear hK K hS1;refine pN 7 (fun K hK=>?_);refine uL rfl _ _ rfl rfl HO4.out (ys:= [i0]) rfl HL4.out (by simp only[List.length_cons,List.length_nil];omega) hs4 ?_;intro v8 w8 ho hg hv;have HB8:=xN (vH HB4.out HO4.out hg zJ hs4);have HO8:=xN ho;have HC8:=xN (show w8.cell? ⟨bi,oi,none⟩=some (.int .i64 i0) from(HB8.out.cell lbi).trans ((HB4.out.cell lbi).symm.trans HC4.out));clear ho hg hv;refine uN hK ?_ (fun hS3=>?_)
    ·exact HC8.out
    clear hK K hS2;refine pN 8 (fun K hK=>?_);go_simp;refine uN hK ?_ (fun hS4=>?_)
    ·exact HC8.out
    clear hK K hS3;refine qN ?_;clear hS4;go_wp2;go_ret
    exact⟨_,rfl,by rw[HE.out];exact HO8.out,HB8.out⟩
   ·
    have HA3:=xN (show Below wd.heap.size wd (wd.alloc (.cells #[.int .i64 i0] 2)) from zR.alloc zJ _);have HL3:=xN (show RdI (wd.alloc (.cells #[.int .i64 i0] 2)) (.slice (some ⟨w.heap.size,0,none⟩) 1 1) [i0] by have:=OwI.rd (lit1 wd i0);rwa [hdz] at this);have HC3:=xN ((HA3.out.cell (World.block_lt_of_cell? _ _ HCd.out)).trans HCd.out);have HB3:=xN (yQ HBd.out zM HA3.out);have HT3:=xN (RdI.below HTd.out HA3.out);have hs3:=HB3.out.size;go_simp;refine uN hK ?_ (fun hS1=>?_)
    ·exact HC3.out
    clear hK K hS0;generalize wd.alloc (.cells #[.int .i64 i0] 2)=W3 at *;refine pN 2 (fun K hK=>?_);go_simp;go_wp2_with (go_at_call 95;refine(uB _ (st.drop 1) _ HT3.out hdl).mono ?_;rintro e w4 ⟨v3,rfl,ho,hb⟩)
    have HB4:=xN (yQ HB3.out hs3 hb);have HO4:=xN (wU ho hs3);have HL4:=xN (RdI.below HL3.out hb);have HC4:=xN ((hb.cell (World.block_lt_of_cell? _ _ HC3.out)).trans HC3.out);have hs4:=HB4.out.size;clear ho hb;refine uN hK ?_ (fun hS2=>?_)
    ·exact HC4.out
    clear hK K hS1;refine pN 7 (fun K hK=>?_);refine uL rfl _ _ rfl rfl HO4.out (ys:= [i0]) rfl HL4.out (by simp only[List.length_cons,List.length_nil];omega) hs4 ?_;intro v8 w8 ho hg hv;have HB8:=xN (vH HB4.out HO4.out hg zJ hs4);have HO8:=xN ho;have HC8:=xN (show w8.cell? ⟨bi,oi,none⟩=some (.int .i64 i0) from(HB8.out.cell lbi).trans ((HB4.out.cell lbi).symm.trans HC4.out));clear ho hg hv;refine uN hK ?_ (fun hS3=>?_)
    ·exact HC8.out
    clear hK K hS2;refine pN 8 (fun K hK=>?_);go_simp;refine uN hK ?_ (fun hS4=>?_)
    ·exact HC8.out
    clear hK K hS3;refine qN ?_;clear hS4;go_wp2;go_ret
    exact⟨_,rfl,by rw[HE.out];exact HO8.out,HB8.out⟩
  ·
   have HTL:=xN (HT1.out.2 zM);have q1:(1:Int)<(cs_:Int):=zM;have q2:1<cs_:=zM;have q3:(1:Int)≤(st.length:Int):=zM;have hdl:(st.drop 1).length≤1048576:=by rw[List.length_drop];omega
   go_enter Tryz.func285,Tryz.ntmps285
   go_wp2;refine wH (fun w'=>w'.cell? ⟨bi,oi,none⟩=some (.int .i64 i0)) [] (by kernel_rfl) ?_ (fun hS0=>?_)
   ·exact c0
   have HCd:=xN (show w.drew.cell? ⟨bi,oi,none⟩=some (.int .i64 i0) from c0);have HTd:=xN (RdI.below HTL.out (Below.refl w.heap.size w).drew);have HBd:=xN (Below.refl w.heap.size w).drew;have hdz:w.drew.heap.size=w.heap.size:=rfl;clear c0 p0 p1 p2 p3 lb;generalize w.drew=wd at *;refine zN 0 hS0 ?_;refine zN 1 hS0 ?_;refine zN 3 hS0 ?_;refine zN 4 hS0 ?_;refine zN 5 hS0 ?_;refine vS (i:=2) (j:=6) (o:=_) (o2:=_) (by kernel_rfl) rfl rfl (fun K hK=>?_) (fun K hK=>?_)
   ·
    go_simp;go_wp2_with (go_at_call 95;refine(uB _ (st.drop 1) _ HTd.out hdl).mono ?_;rintro e w3 ⟨v3,rfl,ho,hb⟩)
    rw[hdz] at ho hb;have HC3:=xN ((hb.cell (by rw[←hdz];exact World.block_lt_of_cell? _ _ HCd.out)).trans HCd.out);have HO3:=xN ho;have HB3:=xN (yQ HBd.out zM (by rw[hdz];exact hb));have hs3:w.heap.size≤w3.heap.size:=(by have:=hb.size;omega);clear ho hb;refine uN hK ?_ (fun hS1=>?_)
    ·exact HC3.out
    clear hK K hS0;have HA4:=xN (show Below w3.heap.size w3 (w3.alloc (.cells #[.int .i64 i0] 2)) from zR.alloc zJ _);have HO4:=xN (wX HO3.out HA4.out);have HB4:=xN (yQ HB3.out hs3 HA4.out);have HL4:=xN (OwI.rd (lit1 w3 i0));have HC4:=xN ((HA4.out.cell (World.block_lt_of_cell? _ _ HC3.out)).trans HC3.out);have hs4:=HB4.out.size;refine pN 6 (fun K hK=>?_);go_simp;refine uN hK ?_ (fun hS2=>?_)
    ·exact HC4.out
    clear hK K hS1;refine pN 7 (fun K hK=>?_);refine uL rfl _ _ rfl rfl HO4.out (ys:= [i0]) rfl HL4.out (by simp only[List.length_cons,List.length_nil];omega) hs4 ?_;intro v8 w8 ho hg hv;have HB8:=xN (vH HB4.out HO4.out hg zJ hs4);have HO8:=xN ho;have HC8:=xN (show w8.cell? ⟨bi,oi,none⟩=some (.int .i64 i0) from(HB8.out.cell lbi).trans ((HB4.out.cell lbi).symm.trans HC4.out));clear ho hg hv;refine uN hK ?_ (fun hS3=>?_)
    ·exact HC8.out
    clear hK K hS2;refine pN 8 (fun K hK=>?_);go_simp;refine uN hK ?_ (fun hS4=>?_)
    ·exact HC8.out
    clear hK K hS3;refine qN ?_;clear hS4;go_wp2;go_ret
    exact⟨_,rfl,by rw[HE.out];exact HO8.out,HB8.out⟩
   ·
    have HA3:=xN (show Below wd.heap.size wd (wd.alloc (.cells #[.int .i64 i0] 2)) from zR.alloc zJ _);have HL3:=xN (show RdI (wd.alloc (.cells #[.int .i64 i0] 2)) (.slice (some ⟨w.heap.size,0,none⟩) 1 1) [i0] by have:=OwI.rd (lit1 wd i0);rwa [hdz] at this);have HC3:=xN ((HA3.out.cell (World.block_lt_of_cell? _ _ HCd.out)).trans HCd.out);have HB3:=xN (yQ HBd.out zM HA3.out);have HT3:=xN (RdI.below HTd.out HA3.out);have hs3:=HB3.out.size;go_simp;refine uN hK ?_ (fun hS1=>?_)
    ·exact HC3.out
    clear hK K hS0;generalize wd.alloc (.cells #[.int .i64 i0] 2)=W3 at *;refine pN 2 (fun K hK=>?_);go_simp;go_wp2_with (go_at_call 95;refine(uB _ (st.drop 1) _ HT3.out hdl).mono ?_;rintro e w4 ⟨v3,rfl,ho,hb⟩)
    have HB4:=xN (yQ HB3.out hs3 hb);have HO4:=xN (wU ho hs3);have HL4:=xN (RdI.below HL3.out hb);have HC4:=xN ((hb.cell (World.block_lt_of_cell? _ _ HC3.out)).trans HC3.out);have hs4:=HB4.out.size;clear ho hb;refine uN hK ?_ (fun hS2=>?_)
    ·exact HC4.out
    clear hK K hS1;refine pN 7 (fun K hK=>?_);refine uL rfl _ _ rfl rfl HO4.out (ys:= [i0]) rfl HL4.out (by simp only[List.length_cons,List.length_nil];omega) hs4 ?_;intro v8 w8 ho hg hv;have HB8:=xN (vH HB4.out HO4.out hg zJ hs4);have HO8:=xN ho;have HC8:=xN (show w8.cell? ⟨bi,oi,none⟩=some (.int .i64 i0) from(HB8.out.cell lbi).trans ((HB4.out.cell lbi).symm.trans HC4.out));clear ho hg hv;refine uN hK ?_ (fun hS3=>?_)
    ·exact HC8.out
    clear hK K hS2;refine pN 8 (fun K hK=>?_);go_simp;refine uN hK ?_ (fun hS4=>?_)
    ·exact HC8.out
    clear hK K hS3;refine qN ?_;clear hS4;go_wp2;go_ret
    exact⟨_,rfl,by rw[HE.out];exact HO8.out,HB8.out⟩
 ·
  have hnum:=HP.out.num;have hst:=HP.out.state;have hia:=HP.out.ins_;have hsa:=HP.out.st_;rw[e] at hnum;replace hnum:ins.length=1:=by rw[hnum];rfl
  obtain⟨i0,rfl⟩:=xEz hnum;obtain⟨IA,ci,rfl,li,mi,_⟩:=HI.out.open_;have hs0:Smp i0:=hia i0 (by simp);simp only[List.length_cons,List.length_nil] at li;obtain⟨SA,cs_,rfl,ls,ms,_⟩:=HS.out.open_;clear hnum hst hia hsa;have HE:=xN (show xW x [i0] st out= [out] by unfold xW;simp only[e];rfl);rw[e] at p0;generalize xW x [i0] st out=OO at *;clear e
  go_enter Tryz.func285,Tryz.ntmps285
  go_wp2;go_ret
  exact⟨_,rfl,by rw[HE.out];exact lit1 w _,zR.alloc zJ _⟩
 ·
  have hnum:=HP.out.num;have hst:=HP.out.state;have hia:=HP.out.ins_;have hsa:=HP.out.st_;rw[e] at hnum;replace hnum:ins.length=1:=by rw[hnum];rfl
  obtain⟨i0,rfl⟩:=xEz hnum;obtain⟨bi,oi,ci,rfl,li,mi,lbi,hci⟩:=xY HI.out (by simp);have c0:=hci 0 i0 rfl;rw[Nat.add_zero] at c0;clear hci;have hs0:Smp i0:=hia i0 (by simp);simp only[List.length_cons,List.length_nil] at li;obtain⟨SA,cs_,rfl,ls,ms,_⟩:=HS.out.open_;clear hnum hst hia hsa;have HE:=xN (show xW x [i0] st out= [i0] by unfold xW;simp only[e];rfl);rw[e] at p0;generalize xW x [i0] st out=OO at *;clear e
  go_enter Tryz.func285,Tryz.ntmps285
  go_wp2;go_ret
  exact⟨_,rfl,by rw[HE.out];exact lit1 w _,zR.alloc zJ _⟩
 ·
  have hnum:=HP.out.num;have hst:=HP.out.state;have hia:=HP.out.ins_;have hsa:=HP.out.st_;rw[e] at hnum;replace hnum:ins.length=2:=by rw[hnum];rfl
  obtain⟨i0,i1,rfl⟩:=lnI2 hnum;obtain⟨IA,ci,rfl,li,mi,_⟩:=HI.out.open_;have hs0:Smp i0:=hia i0 (by simp);have hs1:Smp i1:=hia i1 (by simp);simp only[List.length_cons,List.length_nil] at li;obtain⟨SA,cs_,rfl,ls,ms,_⟩:=HS.out.open_;clear hnum hst hia hsa;have HE:=xN (show xW x [i0,i1] st out= [] by unfold xW;simp only[e];rfl);rw[e] at p0;generalize xW x [i0,i1] st out=OO at *;clear e
  go_enter Tryz.func285,Tryz.ntmps285
  go_wp2;go_ret
  exact⟨_,rfl,by rw[HE.out];exact vL w,zR.alloc zJ _⟩
 ·
  have hA:0≤x.fA∧x.fA≤31:=by have h:=HA0.out;rw[e] at h;exact xK.1 h
  have hnum:=HP.out.num;have hst:=HP.out.state;have hia:=HP.out.ins_;have hsa:=HP.out.st_;rw[e] at hnum;replace hnum:ins.length=1:=by rw[hnum];rfl
  obtain⟨i0,rfl⟩:=xEz hnum;obtain⟨IA,ci,rfl,li,mi,_⟩:=HI.out.open_;have hs0:Smp i0:=hia i0 (by simp);simp only[List.length_cons,List.length_nil] at li;obtain⟨SA,cs_,rfl,ls,ms,_⟩:=HS.out.open_;clear hnum hst hia hsa;have HE:=xN (show xW x [i0] st out= [] by unfold xW;simp only[e];rfl);rw[e] at p0;generalize xW x [i0] st out=OO at *;clear e
  go_enter Tryz.func285,Tryz.ntmps285
  go_wp2;go_ret
  exact⟨_,rfl,by rw[HE.out];exact vL w,zR.alloc zJ _⟩
 ·
  have hA:0≤x.fA∧x.fA≤2147483647:=by have h:=HA0.out;rw[e] at h;exact xK.1 h
  have hnum:=HP.out.num;have hst:=HP.out.state;have hia:=HP.out.ins_;have hsa:=HP.out.st_;rw[e] at hnum;replace hnum:ins.length=1:=by rw[hnum];rfl
  obtain⟨i0,rfl⟩:=xEz hnum;obtain⟨IA,ci,rfl,li,mi,_⟩:=HI.out.open_;have hs0:Smp i0:=hia i0 (by simp);simp only[List.length_cons,List.length_nil] at li;obtain⟨SA,cs_,rfl,ls,ms,_⟩:=HS.out.open_;clear hnum hst hia hsa;have HE:=xN (show xW x [i0] st out= [] by unfold xW;simp only[e];rfl);rw[e] at p0;generalize xW x [i0] st out=OO at *;clear e
  go_enter Tryz.func285,Tryz.ntmps285
  go_wp2;go_ret
  exact⟨_,rfl,by rw[HE.out];exact vL w,zR.alloc zJ _⟩
 ·
  have hnum:=HP.out.num;have hst:=HP.out.state;have hia:=HP.out.ins_;have hsa:=HP.out.st_;rw[e] at hnum;replace hnum:ins.length=1:=by rw[hnum];rfl
  obtain⟨i0,rfl⟩:=xEz hnum;obtain⟨bi,oi,ci,rfl,li,mi,lbi,hci⟩:=xY HI.out (by simp);have c0:=hci 0 i0 rfl;rw[Nat.add_zero] at c0;clear hci;have hs0:Smp i0:=hia i0 (by simp);simp only[List.length_cons,List.length_nil] at li;have hst0:0<st.length:=by rw[hst];unfold wO;simp only[e];simp
  obtain⟨bs,os,cs_,rfl,ls,ms,lbs,hcs_⟩:=xY HS.out hst0;have hgs:=gE hst0;have s0:=hcs_ 0 _ hgs;rw[Nat.add_zero] at s0;have hss:Smp st[0]:=hsa _ (List.getElem_mem hst0);have HSD:=xN (show st.getD 0 0=st[0] by rw[List.getD_eq_getElem?_getD,hgs];rfl);generalize st[0]=y0 at *;clear hcs_ hgs;clear hnum hst hia hsa;have HE:=xN (show xW x [i0] st out= [wrp (y0+i0)] by unfold xW;simp only[e];(try rw[HSD.out]);(try rfl));rw[e] at p0;generalize xW x [i0] st out=OO at *;clear e
  go_enter Tryz.func285,Tryz.ntmps285
  go_wp2;refine wH (fun w'=>w'.cell? ⟨bi,oi,none⟩=some (.int .i64 i0)∧w'.cell? ⟨bs,os,none⟩=some (.int .i64 y0)) [] (by kernel_rfl) ?_ (fun hS0=>?_)
  ·exact⟨c0,s0⟩
  have HCd:=xN (show w.drew.cell? ⟨bi,oi,none⟩=some (.int .i64 i0)∧w.drew.cell? ⟨bs,os,none⟩=some (.int .i64 y0) from⟨c0,s0⟩);have HBd:=xN (Below.refl w.heap.size w).drew;have hdz:w.drew.heap.size=w.heap.size:=rfl;clear c0 s0 p0 p1 p2 p3 lb;generalize w.drew=wd at *;refine zN 0 hS0 ?_;refine zN 1 hS0 ?_;refine zN 2 hS0 ?_;refine zN 3 hS0 ?_;refine zN 4 hS0 ?_;refine zN 5 hS0 ?_;refine pN 6 (fun K hK=>?_);go_simp;go_wp2_with (go_at_call 238;refine(c_mAdd _ _ _ hss hs0).mono ?_;rintro e w' ⟨rfl,rfl⟩)
  refine uN hK ?_ (fun hS1=>?_)
  ·exact HCd.out
  clear hK K hS0;have HA4:=xN (show Below wd.heap.size wd (wd.alloc (.cells #[.int .i64 (wrp (y0+i0))] 2)) from zR.alloc zJ _);have HC4:=xN (show (wd.alloc (.cells #[.int .i64 (wrp (y0+i0))] 2)).cell? ⟨bi,oi,none⟩=some (.int .i64 i0)∧(wd.alloc (.cells #[.int .i64 (wrp (y0+i0))] 2)).cell? ⟨bs,os,none⟩=some (.int .i64 y0) from⟨(HA4.out.cell (World.block_lt_of_cell? _ _ HCd.out.1)).trans HCd.out.1,(HA4.out.cell (World.block_lt_of_cell? _ _ HCd.out.2)).trans HCd.out.2⟩);refine pN 7 (fun K hK=>?_);go_simp;refine uN hK ?_ (fun hS2=>?_)
  ·exact HC4.out
  clear hK K hS1;refine pN 8 (fun K hK=>?_);go_simp;refine uN hK ?_ (fun hS3=>?_)
  ·exact HC4.out
  clear hK K hS2;refine qN ?_;clear hS3;go_wp2;go_ret
  exact⟨_,rfl,by rw[HE.out,←hdz];exact lit1 wd _,yQ HBd.out zM HA4.out⟩
 ·
  have hA:0≤x.fA∧x.fA≤3:=by have h:=HA0.out;rw[e] at h;exact xK.1 h
  have hAt:x.fA<(tables.length:Int):=HTB.out e;have hnum:=HP.out.num;have hst:=HP.out.state;have hia:=HP.out.ins_;have hsa:=HP.out.st_;rw[e] at hnum;replace hnum:ins.length=1:=by rw[hnum];rfl
  obtain⟨i0,rfl⟩:=xEz hnum;obtain⟨IA,ci,rfl,li,mi,_⟩:=HI.out.open_;have hs0:Smp i0:=hia i0 (by simp);simp only[List.length_cons,List.length_nil] at li;obtain⟨SA,cs_,rfl,ls,ms,_⟩:=HS.out.open_;clear hnum hst hia hsa;have HE:=xN (show xW x [i0] st out= [] by unfold xW;simp only[e];rfl);rw[e] at p0;generalize xW x [i0] st out=OO at *;clear e
  go_enter Tryz.func285,Tryz.ntmps285
  go_wp2;go_ret
  exact⟨_,rfl,by rw[HE.out];exact vL w,zR.alloc zJ _⟩
 ·
  have hnum:=HP.out.num;have hst:=HP.out.state;have hia:=HP.out.ins_;have hsa:=HP.out.st_;rw[e] at hnum;replace hnum:ins.length=0:=by rw[hnum];rfl
  obtain rfl:ins= []:=List.eq_nil_of_length_eq_zero hnum;obtain⟨IA,ci,rfl,li,mi,_⟩:=HI.out.open_;have hst0:0<st.length:=by rw[hst];unfold wO;simp only[e];simp
  obtain⟨bs,os,cs_,rfl,ls,ms,lbs,hcs_⟩:=xY HS.out hst0;have hgs:=gE hst0;have s0:=hcs_ 0 _ hgs;rw[Nat.add_zero] at s0;have hss:Smp st[0]:=hsa _ (List.getElem_mem hst0);have HSD:=xN (show st.getD 0 0=st[0] by rw[List.getD_eq_getElem?_getD,hgs];rfl);generalize st[0]=y0 at *;clear hcs_ hgs;clear hnum hst hia hsa;have HE:=xN (show xW x [] st out= [wOz y0] by unfold xW;simp only[e];(try rw[HSD.out]);(try rfl));rw[e] at p0;generalize xW x [] st out=OO at *;clear e
  go_enter Tryz.func285,Tryz.ntmps285
  go_wp2_with (go_at_call 292;refine(c_l06Noise _ _).mono ?_;rintro e w' ⟨rfl,rfl⟩)
  go_ret
  exact⟨_,rfl,by rw[HE.out];exact lit1 w _,zR.alloc zJ _⟩
 ·
  have hnum:=HP.out.num;have hst:=HP.out.state;have hia:=HP.out.ins_;have hsa:=HP.out.st_;rw[e] at hnum;replace hnum:ins.length=3:=by rw[hnum];rfl
  obtain⟨i0,i1,i2,rfl⟩:=lnI3 hnum;obtain⟨IA,ci,rfl,li,mi,_⟩:=HI.out.open_;have hs0:Smp i0:=hia i0 (by simp);have hs1:Smp i1:=hia i1 (by simp);have hs2:Smp i2:=hia i2 (by simp);simp only[List.length_cons,List.length_nil] at li;obtain⟨SA,cs_,rfl,ls,ms,_⟩:=HS.out.open_;clear hnum hst hia hsa;have HE:=xN (show xW x [i0,i1,i2] st out= [] by unfold xW;simp only[e];rfl);rw[e] at p0;generalize xW x [i0,i1,i2] st out=OO at *;clear e
  go_enter Tryz.func285,Tryz.ntmps285
  go_wp2;go_ret
  exact⟨_,rfl,by rw[HE.out];exact vL w,zR.alloc zJ _⟩
 ·
  have hnum:=HP.out.num;have hst:=HP.out.state;have hia:=HP.out.ins_;have hsa:=HP.out.st_;rw[e] at hnum;replace hnum:ins.length=2:=by rw[hnum];rfl
  obtain⟨i0,i1,rfl⟩:=lnI2 hnum;obtain⟨IA,ci,rfl,li,mi,_⟩:=HI.out.open_;have hs0:Smp i0:=hia i0 (by simp);have hs1:Smp i1:=hia i1 (by simp);simp only[List.length_cons,List.length_nil] at li;obtain⟨SA,cs_,rfl,ls,ms,_⟩:=HS.out.open_;clear hnum hst hia hsa;have HE:=xN (show xW x [i0,i1] st out= [out] by unfold xW;simp only[e];rfl);rw[e] at p0;generalize xW x [i0,i1] st out=OO at *;clear e
  go_enter Tryz.func285,Tryz.ntmps285
  go_wp2;go_ret
  exact⟨_,rfl,by rw[HE.out];exact lit1 w _,zR.alloc zJ _⟩
 ·
  have hA:Smp x.fA:=by have h:=HA0.out;rw[e] at h;exact xK.1 h
  have HA:=xN (show 1≤x.fB∧x.fB≤16 by have h:=HB0_.out;rw[e] at h;exact xK.1 h);have hnum:=HP.out.num;have hst:=HP.out.state;have hia:=HP.out.ins_;have hsa:=HP.out.st_;rw[e] at hnum;replace hnum:ins.length=1:=by rw[hnum];rfl
  obtain⟨i0,rfl⟩:=xEz hnum;obtain⟨IA,ci,rfl,li,mi,_⟩:=HI.out.open_;have hs0:Smp i0:=hia i0 (by simp);simp only[List.length_cons,List.length_nil] at li;have hst0:0<st.length:=by rw[hst];unfold wO;simp only[e];simp;have:=HA.out;omega
  obtain⟨bs,os,cs_,rfl,ls,ms,lbs,hcs_⟩:=xY HS.out hst0;have hgs:=gE hst0;have s0:=hcs_ 0 _ hgs;rw[Nat.add_zero] at s0;have hss:Smp st[0]:=hsa _ (List.getElem_mem hst0);have HSD:=xN (show st.getD 0 0=st[0] by rw[List.getD_eq_getElem?_getD,hgs];rfl);generalize st[0]=y0 at *;clear hcs_ hgs;clear hnum hst hia hsa;have HE:=xN (show xW x [i0] st out=st.drop 1++ [out] by unfold xW;simp only[e];rfl);rw[e] at p0;generalize xW x [i0] st out=OO at *;have HK_:=xN e;clear e;have hst1:1≤st.length:=hst0;have hsl:st.length≤1048576:=by have h:=HP.out.state;unfold wO at h;simp only[HK_.out] at h;simp at h;have:=HA.out;omega
  have HT1:=xN (yRy HS.out hst1);by_cases hq:cs_=1
  ·
   subst hq;have HTL:=xN (HT1.out.1 rfl);have hl1:st.length=1:=by omega
   have hdl:(st.drop 1).length≤1048576:=by rw[List.length_drop];omega
   go_enter Tryz.func285,Tryz.ntmps285
   go_wp2_with fail
   refine(uB _ (st.drop 1) _ HTL.out hdl).mono ?_;rintro e w3 ⟨v3,rfl,ho,hb⟩;have HO3:=xN ho;have HB3:=xN hb;have hs3:=hb.size;clear ho hb;go_wp2_with (at_builtin;refine zDz rfl _ _ rfl rfl HO3.out rfl zM hs3 ?_;intro v8 w8 ho8 hg8 hv8;have HB8:=xN (vH HB3.out HO3.out hg8 zJ hs3);have HO8:=xN ho8;clear ho8 hg8 hv8)
   go_ret
   exact⟨_,rfl,by rw[HE.out];exact HO8.out,HB8.out⟩
  ·
   have HTL:=xN (HT1.out.2 zM);have q1:(1:Int)<(cs_:Int):=zM;have q2:1<cs_:=zM;have q3:(1:Int)≤(st.length:Int):=zM;have hdl:(st.drop 1).length≤1048576:=by rw[List.length_drop];omega
   go_enter Tryz.func285,Tryz.ntmps285
   go_wp2_with fail
   refine(uB _ (st.drop 1) _ HTL.out hdl).mono ?_;rintro e w3 ⟨v3,rfl,ho,hb⟩;have HO3:=xN ho;have HB3:=xN hb;have hs3:=hb.size;clear ho hb;go_wp2_with (at_builtin;refine zDz rfl _ _ rfl rfl HO3.out rfl zM hs3 ?_;intro v8 w8 ho8 hg8 hv8;have HB8:=xN (vH HB3.out HO3.out hg8 zJ hs3);have HO8:=xN ho8;clear ho8 hg8 hv8)
   go_ret
   exact⟨_,rfl,by rw[HE.out];exact HO8.out,HB8.out⟩
end Go.Proofs.YtoibekfhepnedaaGreat
