/- Contract: l31Lasting, reference. -/
import Derived.Test.YteiflbhcehajkaaGreatQBiExactEditCache
import Derived.Test.YteiflbhcehajkaaGreatQAiExactEditCache
import Derived.Test.YteiflbhcehajkaaGreatQBeExactEditCache
import Derived.StillTailTactics
set_option linter.unusedVariables false
set_option linter.unusedSimpArgs false
set_option maxHeartbeats 2000000
set_option maxRecDepth 100000
namespace Go.Proofs.YteiflbhcehajkaaGreat
open Go.RowKit
theorem range_set (n k:Nat) (f:Nat→Bool):((List.range n).map f).set k true=(List.range n).map (fun i=>if i=k then true else f i):=by
 apply List.ext_getElem
 ·simp
 ·intro i h1 h2
  rw[List.getElem_set]
  by_cases e:k=i
  ·simp[e]
  ·have e': ¬ i=k:=fun h=>e h.symm
   simp[e,e']
theorem range_get {n k:Nat} {f:Nat→Bool} (h:k<n):((List.range n).map f)[k]?=some (f k):=by
 rw[List.getElem?_map,List.getElem?_range h];rfl
theorem range_true {n k:Nat} {f:Nat→Bool} (h:((List.range n).map f)[k]?=some true):k<n∧f k=true:=by
 have hk:k<n:=by have:=(List.getElem?_eq_some_iff.1 h).1;simpa using this
 rw[range_get hk] at h
 exact⟨hk,by injection h⟩
/-- The strips that an edit begins with. -/
def beg (jy:Nat) (ek ev:Int) (j:Int):Prop:=j=(jy:Int)∨(ek=4∧j=ev)
theorem conc_begin {s:GSession} {R:Prop} {jy n:Nat} {ek ev:Int} {f:Nat→Bool} (hR:R↔Ring s (jy:Int)∨(ek=4∧Ring s ev)) (h1: ∀ k:Nat,f k=true→beg jy ek ev (k:Int)) (h2: ∀ j:Int,beg jy ek ev j→j.toNat<n∧f j.toNat=true):Conc s R (beg jy ek ev) ((List.range n).map f) 0:=
 ⟨fun k hk hr=>hR.2 (by
   rcases h1 k (range_true hk).2 with e|⟨e4,e⟩
   ·rw[e] at hr;exact .inl hr
   ·rw[e] at hr;exact .inr ⟨e4,hr⟩),
  fun j hj=>by rw[range_get (h2 j hj).1,(h2 j hj).2],
  fun k hk=>absurd hk (Nat.not_lt_zero k)⟩
theorem sendsAt_mem {s:GSession} {k:Nat} {y:GSend} (h:y ∈ sendsAt s (k:Int)): ∃ st,s.zF.zD[k]?=some st∧y ∈ st.zS:=by
 unfold sendsAt at h
 rw[Int.toNat_natCast] at h
 cases hk:s.zF.zD[k]? with
 |none=>rw[hk] at h;simp at h
 |some st=>rw[hk] at h;exact⟨st,rfl,by simpa using h⟩
theorem c_l31Lasting (x:GSession) (b o:Nat) (ed:GEdit) (b' o':Nat) (w:World) (hs:x.small) (hv:SessionOk x) (hr:RangeOk x ed) (hk:ed.zC=1∨ed.zC=2∨ed.zC=3∨ed.zC=4) (he:T.at w ed.fs b' o') (h:T.at w x.fs b o):Calls Tryz.prog 167 #[.pointer (some ⟨b,o,none⟩),.pointer (some ⟨b',o',none⟩)] w fun e w'=>e= .returned (.bool (tf (Lasting x ed)))∧Below w.heap.size w w':=by
 have HAT:=hide h
 have HRG:=hide hr;have HV:=hide hv;have HK:=hide hk;clear hr hv hk
 obtain⟨hlt0,cs,hr,hc⟩:=h
 obtain⟨v1,v2,v3,v4,v5,rfl,h1,h2,h3,h4,h5⟩:=GSession.yL hr
 clear hr
 have R1:=hide h1;obtain⟨va1,vc1,rfl,vl1,vm1,vx1⟩:=T.yK h1
 have HX1:=hide vx1;clear vx1 h1
 have R2:=hide h2;obtain⟨va2,vc2,rfl,vl2,vm2,vx2⟩:=T.yK h2
 have HX2:=hide vx2;clear vx2 h2
 have h3i:=T.yQ.1 h3;obtain⟨va3,vc3,rfl,vl3,vm3,vx3⟩:=h3i.open_
 have R3:=hide h3i;have HX3:=hide vx3;clear vx3 h3 h3i
 have R4:=hide h4;obtain⟨va4,vc4,rfl,vl4,vm4,vx4⟩:=T.yK h4
 have HX4:=hide vx4;clear vx4 h4
 have R5:=hide h5;obtain⟨va5,vc5,rfl,vl5,vm5,vx5⟩:=T.yK h5
 have HX5:=hide vx5;clear vx5 h5
 have HL:=hide hlt0;have HCC:=hide hc;have HB0:=hide (Below.refl w.heap.size w);clear hlt0 hc
 have hn8:=HV.out.mixer.few;clear hs
 obtain⟨ek,et,ec,ev,ns,nf,nl,na,ng⟩:=ed
 obtain⟨hlt',cs',hr',hc'⟩:=he
 obtain rfl:=GEdit.yL hr'
 dsimp only at hc' HK
 have hk5:(⟨ek,et,ec,ev,⟨ns,nf,nl,na,ng⟩⟩:GEdit).zC≠5:=by have:=HK.out;show ek≠5;omega
 obtain⟨k,t,hk,ht⟩:=range_track HRG.out hk5
 obtain rfl:et=(k:Int):=hk
 have hlf:k<x.zK.length:=by have h1:=(List.getElem?_eq_some_iff.1 ht).1;have h2:=HV.out.feed;omega
 have hgk:=List.getElem?_eq_getElem hlf
 have hfd:x.zK.getD k 0=x.zK[k]:=by rw[List.getD_eq_getElem?_getD,hgk];rfl
 have hfe:=HV.out.feeds _ _ hgk
 generalize x.zK[k]=y at *
 obtain⟨jy,rfl⟩: ∃ jy:Nat,y=(jy:Int):=⟨y.toNat,by omega⟩
 have hjy:jy<x.zF.zD.length:=by omega
 obtain⟨b3,of3,hA3,hb3,hcell3⟩:=HX3.out k _ hgk
 subst hA3;clear ht hfe
 have HLA:=hide (show Lasting x ⟨ek,(k:Int),ec,ev,⟨ns,nf,nl,na,ng⟩⟩↔Ring x (jy:Int)∨(ek=4∧Ring x ev) from by unfold Lasting;dsimp only;rw[Int.toNat_natCast,hfd])
 generalize hLP:Lasting x ⟨ek,(k:Int),ec,ev,⟨ns,nf,nl,na,ng⟩⟩=LP at *;clear hLP hfd hgk
 have HEV:=hide (show ek=4→0≤ev∧ev<(x.zF.zD.length:Int) from fun h4=>by have hev:=HRG.out;unfold RangeOk at hev;rw[if_neg hk5] at hev;have hev:=hev.2;rw[if_neg (by dsimp only;omega),if_neg (by dsimp only;omega),if_neg (by dsimp only;omega)] at hev;have hev:=yY.1 hev;dsimp only at hev;omega)
 clear hk5
 have c0:w.cell? ⟨b',o',none⟩=some (.int .i64 ek):=hc' 0 _ rfl
 have c1:w.cell? ⟨b',o'+1,none⟩=some (.int .i64 (k:Int)):=hc' 1 _ rfl
 have c3:w.cell? ⟨b',o'+3,none⟩=some (.int .i64 ev):=hc' 3 _ rfl
 clear hc' hr'
 have hi0:(0:Int)≤(k:Int):=by omega
 have hi1:(k:Int)<(x.zK.length:Int):=by omega
 have hj0:(0:Int)≤(jy:Int):=by omega
 have hj1:(jy:Int)<(x.zF.zD.length:Int):=by omega
 have p5:w.cell? ⟨b,o+5,none⟩=some (.slice va5 x.zF.zD.length vc5):=(HB0.out.cell HL.out).trans (HCC.out 5 _ rfl)
 have lb:b<w.heap.size:=Nat.lt_of_lt_of_le HL.out HB0.out.size
 obtain⟨i0,hi,hz0,hz1,hz2⟩:=info_parts info_bool
 go_enter Tryz.func167,Tryz.ntmps167
 go_wp2_with (at_make;refine wpList_make_full _ rfl _ _ _ rfl w.heap.size 4 i0 _ 1 Tryz.underlying245 hi hz0 hz1 .i64 .i64 _ _ x.zF.zD.length rfl rfl rfl rfl (by rw[hz2];omega) (by unfold maxLen;omega) (Nat.le_refl _) ?_;intro w1 hown1 hg1)
 have HT1:=hide (Tk.made hown1)
 have HB1:=hide ((Below.refl w.heap.size w).grown hg1 (Nat.le_refl _) (by simp));clear hown1 hg1 hi hz0 hz1 hz2 p5 lb
 have p3:w1.cell? ⟨b,o+3,none⟩=some (.slice (some ⟨b3,of3,none⟩) x.zK.length vc3):=(HB1.out.cell HL.out).trans (HCC.out 3 _ rfl)
 have lb:b<w1.heap.size:=Nat.lt_of_lt_of_le HL.out HB1.out.size
 have m0:=(HB1.out.cell hlt').trans c0;have m1:=(HB1.out.cell hlt').trans c1;have mf:=(HB1.out.cell hb3).trans hcell3
 have lb':=Nat.lt_of_lt_of_le hlt' HB1.out.size;have lb3:=Nat.lt_of_lt_of_le hb3 HB1.out.size
 have tc:=HT1.out.cell hjy;have tf_:=HT1.out.free jy;have tl:=HT1.out.lt
 have n1: ¬ w.heap.size=b':=by omega
 have n2: ¬ b'=w.heap.size:=by omega
 have HT1b:=hide hj1;have HI5:=hide HEV.out
 by_cases k4:ek=4
 rotate_left
 ·
  have q4:(ek == 4)=false:=yO k4;have HN4:=hide k4;clear k4
  go_wp2
  refine wp_region_still_tail 12 (by kernel_rfl) (by kernel_rfl) ?_
  simp only[List.take_succ_cons,List.take_zero,List.drop_succ_cons,List.drop_zero]
  change wpStill _ _ (World.drew w1) (fun a'=>wpList _ _ _ _ a' (World.drew w1)) _ _
  repeat still_step
  refine wpStill_nil ?_
  clear p3 m1 mf
  go_wp2
  have HT2:=hide (show Tk (w1.setCell ⟨w.heap.size,jy,none⟩ (.bool true)).drew w.heap.size w.heap.size x.zF.zD.length _ from HT1.out.set_ jy);have HB2:=hide ((Below.setCell (p:=⟨w.heap.size,jy,none⟩) HB1.out (Nat.le_refl _) (.bool true)).drew)
  have HC2:=hide (conc_begin (n:=x.zF.zD.length) (f:=fun i=>if i=jy then true else false) HLA.out (fun k h=>by by_cases e:k=jy;(· exact .inl (by omega));(· simp[e] at h)) (fun j hj=>by rcases hj with e|⟨e4,_⟩;(· subst e;exact⟨by simpa using HT1b.out,by simp⟩);(· exact absurd e4 HN4.out)))
  clear m0 tc tf_ tl
  generalize (w1.setCell ⟨w.heap.size,jy,none⟩ (.bool true)).drew=w2 at *
  go_loopw [7] (fun i wr=> ∃ (q:Nat) (f:Nat→Bool),q≤x.zF.zD.length∧i= .int .i64 q∧Tk wr w.heap.size w.heap.size x.zF.zD.length f∧Conc x LP (beg jy ek ev) ((List.range x.zF.zD.length).map f) q∧Below w.heap.size w wr) (fun i _=>x.zF.zD.length - (intOf i).toNat)
  case atStart=>exact⟨0,_,Nat.zero_le _,rfl,HT2.out,HC2.out,HB2.out⟩
  case round=>
   obtain⟨q,f,hq,rfl,htk,hcn,hbw⟩:=hrel
   have HT:=hide htk;have HC:=hide hcn;have HB:=hide hbw;clear htk hcn hbw HT2 HC2 HB2
   generalize wr=wo at *
   by_cases hlt:q<x.zF.zD.length
   rotate_left
   ·
    have HN:=hide (HC.out.none (by simp;omega) (fun j hj=>by rcases hj with e|⟨e4,e⟩;(· omega);(· have:=HI5.out e4;omega)) (fun k y hy=>by obtain⟨st,hst,hm⟩:=sendsAt_mem hy;have:=sends_to HV.out hst y hm;omega))
    go_wp2
    go_ret
    exact⟨yF (yV (fun h=>(HLA.out.1 h).elim (HN.out _ (.inl rfl)) (fun h2=>HN.out _ (.inr ⟨h2.1,rfl⟩) h2.2))).symm,HB.out⟩
   have hq0:(0:Int)≤(q:Int):=by omega
   have hq1:(q:Int)<(x.zF.zD.length:Int):=by omega
   have tq:=HT.out.cell hlt;have tl:=HT.out.lt
   by_cases hfq:f q=true
   rotate_left
   ·
    have hfq:f q=false:=by simpa using hfq
    rw[hfq] at tq
    have HS:=hide (HC.out.skip (by rw[range_get hlt,hfq]));clear hfq
    go_wp2
    go_roundw
    case rel=>exact⟨q+1,f,by omega,by go_num,HT.out,HS.out,HB.out⟩
    case measure=>simp[intOf];omega
   rw[hfq] at tq;have HFQ:=hide hfq;clear hfq
   have hle:q<x.zJ.length:=by have:=HV.out.effect;omega
   have hge:=List.getElem?_eq_getElem hle;have hgs:=List.getElem?_eq_getElem hlt
   obtain⟨b4,o4,cs4,hA4,hb4,hcs4,hcell4⟩:=HX4.out q x.zJ[q] hge
   obtain⟨b5,o5,cs5,hA5,hb5,hcs5,hcell5⟩:=HX5.out q x.zF.zD[q] hgs
   subst hA4 hA5
   generalize x.zJ[q]=ef at *;generalize x.zF.zD[q]=st at *
   have HPO:=hide (effectOk_nodes (HV.out.effects q ef hge));have HTO:=hide (sends_to HV.out hgs)
   have HEF:=hide (show effectAt x (q:Int)=ef by unfold effectAt;rw[Int.toNat_natCast,hge];rfl);have HSE:=hide (sendsAt_of hgs);clear hge hgs
   have HAE:=hide (T.at_elem (o:=o4+q * 4) hb4 (show T.rds w ef.fs cs4 by simpa only[GPatch.t,T.rd] using hcs4) hcell4 rfl);clear hcs4 hcell4
   have HBr:=hide (Below.refl w.heap.size w)
   obtain⟨u2,rfl,hRY2⟩:=GStrip.yL (show T.rds _ _ _ by simpa only[GStrip.t,T.rd] using hcs5)
   have d0:=(HBr.out.cell hb5).trans (hcell5 0 (.string st.zX) rfl)
   have d1:=(HBr.out.cell hb5).trans (hcell5 1 (.int .i64 st.zT) rfl)
   have d2:=(HBr.out.cell hb5).trans (hcell5 2 (u2) rfl)
   rw[show o5+(q * 3+0)=o5+q * 3 by omega] at d0
   rw[show o5+(q * 3+1)=o5+q * 3+1 by omega] at d1
   rw[show o5+(q * 3+2)=o5+q * 3+2 by omega] at d2
   have RY2:=hide (T.yC hRY2 HBr.out);clear hRY2
   clear hcs5 hcell5
   obtain⟨ua2,uc2,rfl,ul2,um2,ux2⟩:=T.yK RY2.out;have HUX:=hide ux2;clear ux2
   have p4:wo.cell? ⟨b,o+4,none⟩=some (.slice (some ⟨b4,o4,none⟩) x.zJ.length vc4):=(HB.out.cell HL.out).trans (HCC.out 4 _ rfl)
   have lb:b<wo.heap.size:=Nat.lt_of_lt_of_le HL.out HB.out.size
   have hqe:(q:Int)<(x.zJ.length:Int):=by omega
   go_wp2_with fail
   refine(c_l31Stateful ef b4 (o4+q * 4) _ HPO.out (T.at_below HAE.out HB.out)).mono ?_;rintro e w3 ⟨rfl,hb⟩
   have HB3:=hide (yG HB.out HB.out.size hb);have HT3:=hide (HT.out.all hb);clear hb p4 lb tq tl
   by_cases hS:statefulB ef=true
   ·
    have HF:=hide (HC.out.found (by rw[range_get hlt,HFQ.out]) (by rw[HEF.out];exact hS))
    rw[hS];clear hS
    go_wp2
    go_ret
    exact⟨yF (yW HF.out).symm,HB3.out⟩
   have hS:statefulB ef=false:=by simpa using hS
   rw[hS];have HS:=hide hS;clear hS
   go_wp2
   go_loopw [8] (fun i wr=> ∃ (r:Nat) (f:Nat→Bool),r≤st.zS.length∧i= .int .i64 r∧Tk wr w.heap.size w.heap.size x.zF.zD.length f∧Conc x LP (beg jy ek ev) ((List.range x.zF.zD.length).map f) q∧f q=true∧Upto st.zS (fun _ z=>f z.yB.toNat=true) r∧Below w.heap.size w wr) (fun i _=>st.zS.length - (intOf i).toNat)
   case atStart=>exact⟨0,f,Nat.zero_le _,rfl,HT3.out,HC.out,HFQ.out,Upto.zero,HB3.out⟩
   case round=>
    clear HT3 HC HFQ HB3 HT HB
    obtain⟨r,g,hr,rfl,htk,hcn,hgq,hup,hbw⟩:=hrel
    have HT:=hide htk;have HC:=hide hcn;have HB:=hide hbw;have HGQ:=hide hgq;have HUP:=hide hup;clear htk hcn hbw hgq hup
    have p5:wr.cell? ⟨b,o+5,none⟩=some (.slice (some ⟨b5,o5,none⟩) x.zF.zD.length vc5):=(HB.out.cell HL.out).trans (HCC.out 5 _ rfl)
    have lb:b<wr.heap.size:=Nat.lt_of_lt_of_le HL.out HB.out.size
    have e2:=(HB.out.cell hb5).trans d2;have tl:=HT.out.lt;have lb5:=Nat.lt_of_lt_of_le hb5 HB.out.size
    by_cases hlr:r<st.zS.length
    rotate_left
    ·
     have HST:=hide (HC.out.step (by rw[HEF.out];exact HS.out) (fun z hz=>by rw[HSE.out] at hz;obtain⟨i,hi⟩:=List.mem_iff_getElem?.1 hz;have h1:=HTO.out z hz;rw[range_get (by omega)];rw[(HUP.out.all (by omega)) i z hi]))
     go_wp2
     go_roundw
     case rel=>exact⟨q+1,g,by omega,by go_num,HT.out,HST.out,HB.out⟩
     case measure=>simp[intOf];omega
    have hgz:=List.getElem?_eq_getElem hlr
    obtain⟨b6,o6,cs6,hA6,hb6,hcs6,hcell6⟩:=HUX.out r st.zS[r] hgz
    subst hA6
    generalize st.zS[r]=z at *
    have hz:=HTO.out z (List.mem_of_getElem? hgz)
    obtain rfl:=GSend.yL (show T.rds _ _ _ by simpa only[GSend.t,T.rd] using hcs6)
    have s0:=(HB.out.cell hb6).trans (hcell6 0 (.int .i64 z.yB) rfl)
    have s1:=(HB.out.cell hb6).trans (hcell6 1 (.int .i64 z.zQ) rfl)
    rw[show o6+(r * 2+0)=o6+r * 2 by omega] at s0
    rw[show o6+(r * 2+1)=o6+r * 2+1 by omega] at s1
    clear hcs6 hcell6
    have HGZ:=hide hgz;clear hgz
    obtain⟨to,hto⟩: ∃ to:Nat,z.yB=(to:Int):=⟨z.yB.toNat,by omega⟩
    rw[hto] at s0
    have hto1:to<x.zF.zD.length:=by omega
    have hr0:(0:Int)≤(r:Int):=by omega
    have hr1:(r:Int)<(st.zS.length:Int):=by omega
    have ht0:(0:Int)≤(to:Int):=by omega
    have ht1:(to:Int)<(x.zF.zD.length:Int):=by omega
    have tt:=HT.out.cell hto1;have tfr:=HT.out.free to;have lb6:=Nat.lt_of_lt_of_le hb6 HB.out.size
    have HMK:=hide (HC.out.mark (x:=z) (by rw[range_get hlt,HGQ.out]) (by rw[HSE.out];exact List.mem_of_getElem? HGZ.out) (by omega) (by simp;omega));have HTT:=hide (show z.yB.toNat=to by omega);clear hz hto
    go_wp2
    go_roundw
    case rel=>
     refine⟨r+1,fun i=>if i=to then true else g i,by omega,by go_num,HT.out.set_ to,?_,?_,?_,Below.setCell (p:=⟨w.heap.size,to,none⟩) HB.out (Nat.le_refl _) (.bool true)⟩
     ·have:=HMK.out;rw[HTT.out,range_set] at this;exact this
     ·dsimp only;split;rfl;exact HGQ.out
     ·refine Upto.step (fun i y hi hy=>?_) HGZ.out (by rw[HTT.out];simp)
      have:=HUP.out i y hi hy;dsimp only;split;rfl;exact this
    case measure=>simp[intOf];omega
 have q4:(ek == 4)=true:=yP k4;have HK4:=hide k4
 obtain⟨jv,rfl⟩: ∃ jv:Nat,ev=(jv:Int):=⟨ev.toNat,by have:=HEV.out k4;omega⟩
 have hjv:jv<x.zF.zD.length:=by have:=HEV.out k4;omega
 have hv0:(0:Int)≤(jv:Int):=by omega
 have hv1:(jv:Int)<(x.zF.zD.length:Int):=by omega
 have m3:=(HB1.out.cell hlt').trans c3;have td:=HT1.out.cell hjv;have tg:=HT1.out.free jv;clear k4
 go_wp2
 refine wp_region_still_tail 12 (by kernel_rfl) (by kernel_rfl) ?_
 simp only[List.take_succ_cons,List.take_zero,List.drop_succ_cons,List.drop_zero]
 change wpStill _ _ (World.drew w1) (fun a'=>wpList _ _ _ _ a' (World.drew w1)) _ _
 repeat still_step
 refine wpStill_nil ?_
 clear p3 m1 mf
 have td2:=(HT1.out.set_ jy).cell hjv;have tg2:=(HT1.out.set_ jy).free jv
 go_wp2
 have HT2:=hide (show Tk ((w1.setCell ⟨w.heap.size,jy,none⟩ (.bool true)).setCell ⟨w.heap.size,jv,none⟩ (.bool true)).drew w.heap.size w.heap.size x.zF.zD.length _ from(HT1.out.set_ jy).set_ jv);have HB2:=hide ((Below.setCell (p:=⟨w.heap.size,jv,none⟩) (Below.setCell (p:=⟨w.heap.size,jy,none⟩) HB1.out (Nat.le_refl _) (.bool true)) (Nat.le_refl _) (.bool true)).drew)
 have HC2:=hide (conc_begin (n:=x.zF.zD.length) (f:=fun i=>if i=jv then true else if i=jy then true else false) HLA.out (fun k h=>by by_cases e:k=jy;(· exact .inl (by omega));(· by_cases e2:k=jv;(· exact .inr ⟨HK4.out,by omega⟩);(· simp[e,e2] at h))) (fun j hj=>by rcases hj with e|⟨_,e⟩;(· subst e;exact⟨by simpa using HT1b.out,by simp⟩);(· subst e;exact⟨by rw[Int.toNat_natCast];exact hjv,by simp⟩)))
 clear td2 tg2
 clear m0 tc tf_ tl m3 td tg
 generalize ((w1.setCell ⟨w.heap.size,jy,none⟩ (.bool true)).setCell ⟨w.heap.size,jv,none⟩ (.bool true)).drew=w2 at *
 go_loopw [7] (fun i wr=> ∃ (q:Nat) (f:Nat→Bool),q≤x.zF.zD.length∧i= .int .i64 q∧Tk wr w.heap.size w.heap.size x.zF.zD.length f∧Conc x LP (beg jy ek (jv:Int)) ((List.range x.zF.zD.length).map f) q∧Below w.heap.size w wr) (fun i _=>x.zF.zD.length - (intOf i).toNat)
 case atStart=>exact⟨0,_,Nat.zero_le _,rfl,HT2.out,HC2.out,HB2.out⟩
 case round=>
  obtain⟨q,f,hq,rfl,htk,hcn,hbw⟩:=hrel
  have HT:=hide htk;have HC:=hide hcn;have HB:=hide hbw;clear htk hcn hbw HT2 HC2 HB2
  generalize wr=wo at *
  by_cases hlt:q<x.zF.zD.length
  rotate_left
  ·
   have HN:=hide (HC.out.none (by simp;omega) (fun j hj=>by rcases hj with e|⟨e4,e⟩;(· omega);(· have:=HI5.out e4;omega)) (fun k y hy=>by obtain⟨st,hst,hm⟩:=sendsAt_mem hy;have:=sends_to HV.out hst y hm;omega))
   go_wp2
   go_ret
   exact⟨yF (yV (fun h=>(HLA.out.1 h).elim (HN.out _ (.inl rfl)) (fun h2=>HN.out _ (.inr ⟨h2.1,rfl⟩) h2.2))).symm,HB.out⟩
  have hq0:(0:Int)≤(q:Int):=by omega
  have hq1:(q:Int)<(x.zF.zD.length:Int):=by omega
  have tq:=HT.out.cell hlt;have tl:=HT.out.lt
  by_cases hfq:f q=true
  rotate_left
  ·
   have hfq:f q=false:=by simpa using hfq
   rw[hfq] at tq
   have HS:=hide (HC.out.skip (by rw[range_get hlt,hfq]));clear hfq
   go_wp2
   go_roundw
   case rel=>exact⟨q+1,f,by omega,by go_num,HT.out,HS.out,HB.out⟩
   case measure=>simp[intOf];omega
  rw[hfq] at tq;have HFQ:=hide hfq;clear hfq
  have hle:q<x.zJ.length:=by have:=HV.out.effect;omega
  have hge:=List.getElem?_eq_getElem hle;have hgs:=List.getElem?_eq_getElem hlt
  obtain⟨b4,o4,cs4,hA4,hb4,hcs4,hcell4⟩:=HX4.out q x.zJ[q] hge
  obtain⟨b5,o5,cs5,hA5,hb5,hcs5,hcell5⟩:=HX5.out q x.zF.zD[q] hgs
  subst hA4 hA5
  generalize x.zJ[q]=ef at *;generalize x.zF.zD[q]=st at *
  have HPO:=hide (effectOk_nodes (HV.out.effects q ef hge));have HTO:=hide (sends_to HV.out hgs)
  have HEF:=hide (show effectAt x (q:Int)=ef by unfold effectAt;rw[Int.toNat_natCast,hge];rfl);have HSE:=hide (sendsAt_of hgs);clear hge hgs
  have HAE:=hide (T.at_elem (o:=o4+q * 4) hb4 (show T.rds w ef.fs cs4 by simpa only[GPatch.t,T.rd] using hcs4) hcell4 rfl);clear hcs4 hcell4
  have HBr:=hide (Below.refl w.heap.size w)
  obtain⟨u2,rfl,hRY2⟩:=GStrip.yL (show T.rds _ _ _ by simpa only[GStrip.t,T.rd] using hcs5)
  have d0:=(HBr.out.cell hb5).trans (hcell5 0 (.string st.zX) rfl)
  have d1:=(HBr.out.cell hb5).trans (hcell5 1 (.int .i64 st.zT) rfl)
  have d2:=(HBr.out.cell hb5).trans (hcell5 2 (u2) rfl)
  rw[show o5+(q * 3+0)=o5+q * 3 by omega] at d0
  rw[show o5+(q * 3+1)=o5+q * 3+1 by omega] at d1
  rw[show o5+(q * 3+2)=o5+q * 3+2 by omega] at d2
  have RY2:=hide (T.yC hRY2 HBr.out);clear hRY2
  clear hcs5 hcell5
  obtain⟨ua2,uc2,rfl,ul2,um2,ux2⟩:=T.yK RY2.out;have HUX:=hide ux2;clear ux2
  have p4:wo.cell? ⟨b,o+4,none⟩=some (.slice (some ⟨b4,o4,none⟩) x.zJ.length vc4):=(HB.out.cell HL.out).trans (HCC.out 4 _ rfl)
  have lb:b<wo.heap.size:=Nat.lt_of_lt_of_le HL.out HB.out.size
  have hqe:(q:Int)<(x.zJ.length:Int):=by omega
  go_wp2_with fail
  refine(c_l31Stateful ef b4 (o4+q * 4) _ HPO.out (T.at_below HAE.out HB.out)).mono ?_;rintro e w3 ⟨rfl,hb⟩
  have HB3:=hide (yG HB.out HB.out.size hb);have HT3:=hide (HT.out.all hb);clear hb p4 lb tq tl
  by_cases hS:statefulB ef=true
  ·
   have HF:=hide (HC.out.found (by rw[range_get hlt,HFQ.out]) (by rw[HEF.out];exact hS))
   rw[hS];clear hS
   go_wp2
   go_ret
   exact⟨yF (yW HF.out).symm,HB3.out⟩
  have hS:statefulB ef=false:=by simpa using hS
  rw[hS];have HS:=hide hS;clear hS
  go_wp2
  go_loopw [8] (fun i wr=> ∃ (r:Nat) (f:Nat→Bool),r≤st.zS.length∧i= .int .i64 r∧Tk wr w.heap.size w.heap.size x.zF.zD.length f∧Conc x LP (beg jy ek (jv:Int)) ((List.range x.zF.zD.length).map f) q∧f q=true∧Upto st.zS (fun _ z=>f z.yB.toNat=true) r∧Below w.heap.size w wr) (fun i _=>st.zS.length - (intOf i).toNat)
  case atStart=>exact⟨0,f,Nat.zero_le _,rfl,HT3.out,HC.out,HFQ.out,Upto.zero,HB3.out⟩
  case round=>
   clear HT3 HC HFQ HB3 HT HB
   obtain⟨r,g,hr,rfl,htk,hcn,hgq,hup,hbw⟩:=hrel
   have HT:=hide htk;have HC:=hide hcn;have HB:=hide hbw;have HGQ:=hide hgq;have HUP:=hide hup;clear htk hcn hbw hgq hup
   have p5:wr.cell? ⟨b,o+5,none⟩=some (.slice (some ⟨b5,o5,none⟩) x.zF.zD.length vc5):=(HB.out.cell HL.out).trans (HCC.out 5 _ rfl)
   have lb:b<wr.heap.size:=Nat.lt_of_lt_of_le HL.out HB.out.size
   have e2:=(HB.out.cell hb5).trans d2;have tl:=HT.out.lt;have lb5:=Nat.lt_of_lt_of_le hb5 HB.out.size
   by_cases hlr:r<st.zS.length
   rotate_left
   ·
    have HST:=hide (HC.out.step (by rw[HEF.out];exact HS.out) (fun z hz=>by rw[HSE.out] at hz;obtain⟨i,hi⟩:=List.mem_iff_getElem?.1 hz;have h1:=HTO.out z hz;rw[range_get (by omega)];rw[(HUP.out.all (by omega)) i z hi]))
    go_wp2
    go_roundw
    case rel=>exact⟨q+1,g,by omega,by go_num,HT.out,HST.out,HB.out⟩
    case measure=>simp[intOf];omega
   have hgz:=List.getElem?_eq_getElem hlr
   obtain⟨b6,o6,cs6,hA6,hb6,hcs6,hcell6⟩:=HUX.out r st.zS[r] hgz
   subst hA6
   generalize st.zS[r]=z at *
   have hz:=HTO.out z (List.mem_of_getElem? hgz)
   obtain rfl:=GSend.yL (show T.rds _ _ _ by simpa only[GSend.t,T.rd] using hcs6)
   have s0:=(HB.out.cell hb6).trans (hcell6 0 (.int .i64 z.yB) rfl)
   have s1:=(HB.out.cell hb6).trans (hcell6 1 (.int .i64 z.zQ) rfl)
   rw[show o6+(r * 2+0)=o6+r * 2 by omega] at s0
   rw[show o6+(r * 2+1)=o6+r * 2+1 by omega] at s1
   clear hcs6 hcell6
   have HGZ:=hide hgz;clear hgz
   obtain⟨to,hto⟩: ∃ to:Nat,z.yB=(to:Int):=⟨z.yB.toNat,by omega⟩
   rw[hto] at s0
   have hto1:to<x.zF.zD.length:=by omega
   have hr0:(0:Int)≤(r:Int):=by omega
   have hr1:(r:Int)<(st.zS.length:Int):=by omega
   have ht0:(0:Int)≤(to:Int):=by omega
   have ht1:(to:Int)<(x.zF.zD.length:Int):=by omega
   have tt:=HT.out.cell hto1;have tfr:=HT.out.free to;have lb6:=Nat.lt_of_lt_of_le hb6 HB.out.size
   have HMK:=hide (HC.out.mark (x:=z) (by rw[range_get hlt,HGQ.out]) (by rw[HSE.out];exact List.mem_of_getElem? HGZ.out) (by omega) (by simp;omega));have HTT:=hide (show z.yB.toNat=to by omega);clear hz hto
   go_wp2
   go_roundw
   case rel=>
    refine⟨r+1,fun i=>if i=to then true else g i,by omega,by go_num,HT.out.set_ to,?_,?_,?_,Below.setCell (p:=⟨w.heap.size,to,none⟩) HB.out (Nat.le_refl _) (.bool true)⟩
    ·have:=HMK.out;rw[HTT.out,range_set] at this;exact this
    ·dsimp only;split;rfl;exact HGQ.out
    ·refine Upto.step (fun i y hi hy=>?_) HGZ.out (by rw[HTT.out];simp)
     have:=HUP.out i y hi hy;dsimp only;split;rfl;exact this
   case measure=>simp[intOf];omega
end Go.Proofs.YteiflbhcehajkaaGreat
