/- Contracts: the range of an edit, by the program, its end. Contract: l31Dirty, reference. -/
import Derived.Test.YteiflbhcehajkaaGreatQBeExactEditCache
import Derived.Test.YteiflbhcehajkaaGreatQAcExactEditCache
import Derived.Test.YteiflbhcehajkaaGreatQBiExactEditCache
import Derived.Test.YteiflbhcehajkaaGreatQBjExactEditCache
import Derived.Test.YteiflbhcehajkaaGreatQAoExactEditCache
set_option linter.unusedVariables false
set_option linter.unusedSimpArgs false
set_option maxHeartbeats 2000000
set_option maxRecDepth 100000
section
namespace Go.Proofs.YteiflbhcehajkaaGreat
open Go.RowKit
theorem changed_ok {s:GSession} {e:GEdit} (hv:SessionOk s) (hf:FieldsOk e) (hr:RangeOk s e) (h5:e.zC≠5): ∀ c ∈ changedL s e,ClipOk c:=by
 intro c hc
 obtain⟨k,t,hk,ht⟩:=range_track hr h5
 have tk:=(hv.tracks k t ht).1
 have hin: ∀ x ∈ t.zL,ClipOk x:=fun x hx=>by
  obtain⟨i,hi⟩:=List.mem_iff_getElem?.1 hx
  exact(tk.clips i x hi).1
 have hr':=hr
 unfold RangeOk at hr'
 rw[if_neg h5] at hr'
 have hr2:=hr'.2
 rw[hk,clipsAt_of ht] at hr2
 have hcl:e.zC=2∨e.zC=3→ClipOk (clipAt s e):=fun h=>by
  have hj:0≤e.zZ∧e.zZ≤(t.zL.length:Int) - 1:=by
   rcases h with h|h
   ·rw[if_neg (by omega),if_neg (by omega),if_pos h] at hr2;exact yY.1 hr2
   ·rw[if_neg (by omega),if_pos h] at hr2;exact yY.1 hr2.1
  have hlt:e.zZ.toNat<t.zL.length:=by omega
  unfold clipAt
  rw[hk,clipsAt_of ht,List.getD_eq_getElem?_getD,List.getElem?_eq_getElem hlt]
  exact hin _ (List.getElem_mem hlt)
 have hnew:e.zC=1∨e.zC=3→ClipOk e.zP:=fun h=>by
  unfold FieldsOk at hf
  rw[if_pos h] at hf
  exact hf.2
 unfold changedL at hc
 split at hc
 ·next h=>simp at hc;subst hc;exact hnew (.inl h)
 ·split at hc
  ·next h=>simp at hc;subst hc;exact hcl (.inl h)
  ·split at hc
   ·next h=>
    simp at hc
    rcases hc with rfl|rfl
    ·exact hcl (.inr h)
    ·exact hnew (.inr h)
   ·split at hc
    ·simp at hc
    ·rw[hk,clipsAt_of ht] at hc
     exact hin c hc
theorem rangeOf_5 {s:GSession} {e:GEdit} (h:e.zC=5):rangeOf s e=(0,s.zA):=by unfold rangeOf;rw[if_pos h]
theorem rangeOf_nil {s:GSession} {e:GEdit} (h:e.zC≠5) (hc:changedL s e= []):rangeOf s e=(0,0):=by unfold rangeOf;rw[if_neg h,if_pos hc]
theorem rangeOf_in2 {s:GSession} {e:GEdit} (h:e.zC≠5) (hc: ¬ changedL s e= []) {m:Int} (hm:m=if tf (Lasting s e)=true then s.zA else (spanF (changedL s e)).2):
  rangeOf s e=if (spanF (changedL s e)).1<min m s.zA then ((spanF (changedL s e)).1,min m s.zA) else (0,0):=by
 subst hm;unfold rangeOf;rw[if_neg h,if_neg hc]
theorem span_lt {l:List GClip} (hl: ∀ c ∈ l,ClipOk c) (h: ¬ l= []):(spanF l).1<(spanF l).2:=by
 cases l with
 |nil=>exact absurd rfl h
 |cons c r=>exact spanF_lt (by have:=yY.1 (hl c (by simp)).length;omega)
theorem span_bd {l:List GClip} (hl: ∀ c ∈ l,ClipOk c):0≤(spanF l).1∧(spanF l).1≤4000∧0≤(spanF l).2∧(spanF l).2≤4000:=by
 cases l with
 |nil=>simp[spanF]
 |cons c r=>
  have h1:=yY.1 (hl c (by simp)).at_
  have h2:=yY.1 (hl c (by simp)).length
  have h3:=lowF_bd (a:=c.zW) (by omega) hl
  have h4:=highF_bd (a:=0) (by omega) hl
  exact⟨h3.1,h3.2,h4.1,h4.2⟩
theorem c_dirtyRange (x:GSession) (cs:List Value) (ed:GEdit) (w:World) (hv:SessionOk x) (hf:FieldsOk ed) (hr:RangeOk x ed) (h:T.rds w x.fs cs):Calls Tryz.prog 58 #[.agg cs.toArray,.agg #[.int .i64 ed.zC,.int .i64 ed.zV,.int .i64 ed.zZ,.int .i64 ed.zY,.int .i64 ed.zP.zO,.int .i64 ed.zP.zI,.int .i64 ed.zP.zA,.int .i64 ed.zP.zW,.int .i64 ed.zP.zQ]] w fun e w'=>e= .returned (.tuple #[.int .i64 (rangeOf x ed).1,.int .i64 (rangeOf x ed).2])∧Below w.heap.size w w':=by
 obtain⟨ek,et,ec,ev,ns,nf,nl,na,ng⟩:=ed
 dsimp only
 obtain⟨v1,v2,v3,v4,v5,rfl,h1,h2,h3,h4,h5⟩:=GSession.yL h
 clear h
 have R1:=hide h1;obtain⟨va1,vc1,rfl,vl1,vm1,vx1⟩:=T.yK h1
 have HX1:=hide vx1;clear vx1 h1
 have R2:=hide h2;obtain⟨va2,vc2,rfl,vl2,vm2,vx2⟩:=T.yK h2
 have HX2:=hide vx2;clear vx2 h2
 have h3i:=T.yQ.1 h3;obtain⟨va3,vc3,rfl,vl3,vm3,vx3⟩:=h3i.open_
 have R3:=hide h3i;have HX3:=hide vx3;clear vx3 h3 h3i
 have R4:=hide h4;obtain⟨va4,vc4,rfl,vl4,vm4,vx4⟩:=T.yK h4
 have HX4:=hide vx4;clear vx4 h4
 have R5:=hide h5;obtain⟨va5,vc5,rfl,vl5,vm5,vx5⟩:=T.yK h5
 have HX5:=hide vx5;clear vx5 h5
 have HB0:=hide (show Below w.heap.size w (w.alloc (.cells #[.int .i64 x.zA,(.slice va1 x.zG.length vc1),(.slice va2 x.zE.length vc2),(.slice va3 x.zK.length vc3),(.slice va4 x.zJ.length vc4),(.slice va5 x.zF.zD.length vc5)] 41)) from(Below.refl _ _).alloc (Nat.le_refl _) _)
 have HK0:=hide (Bk.born w 41 #[.int .i64 x.zA,(.slice va1 x.zG.length vc1),(.slice va2 x.zE.length vc2),(.slice va3 x.zK.length vc3),(.slice va4 x.zJ.length vc4),(.slice va5 x.zF.zD.length vc5)])
 have HV:=hide hv;have HF:=hide hf;have HRG:=hide hr;clear hv hr hf
 have GX:=hide (show ∀ w',Below w.heap.size w w'→T.rds w' x.fs [.int .i64 x.zA,(.slice va1 x.zG.length vc1),(.slice va2 x.zE.length vc2),(.slice va3 x.zK.length vc3),(.slice va4 x.zJ.length vc4),(.slice va5 x.zF.zD.length vc5)] from fun w' hb=>GSession.rd_mk (T.yC R1.out hb) (T.yC R2.out hb) (T.yQ.2 (Rd.below R3.out hb)) (T.yC R4.out hb) (T.yC R5.out hb))
 have hlen:=yY.1 HV.out.length
 by_cases k5:ek=5
 ·
  have q5:(ek == 5)=true:=yP k5
  have HR:=hide (rangeOf_5 (s:=x) (e:=⟨ek,et,ec,ev,⟨ns,nf,nl,na,ng⟩⟩) k5);clear k5
  have HBa:=hide (HB0.out.alloc HB0.out.size (.cells #[.int .i64 ek,.int .i64 et,.int .i64 ec,.int .i64 ev,.int .i64 ns,.int .i64 nf,.int .i64 nl,.int .i64 na,.int .i64 ng] 62))
  have HP:=hide (HK0.out.alloc (.cells #[.int .i64 ek,.int .i64 et,.int .i64 ec,.int .i64 ev,.int .i64 ns,.int .i64 nf,.int .i64 nl,.int .i64 na,.int .i64 ng] 62));have HE:=hide (Bk.born1' w (.cells #[.int .i64 x.zA,(.slice va1 x.zG.length vc1),(.slice va2 x.zE.length vc2),(.slice va3 x.zK.length vc3),(.slice va4 x.zJ.length vc4),(.slice va5 x.zF.zD.length vc5)] 41) 62 #[.int .i64 ek,.int .i64 et,.int .i64 ec,.int .i64 ev,.int .i64 ns,.int .i64 nf,.int .i64 nl,.int .i64 na,.int .i64 ng])
  clear HB0 HK0
  generalize hW4:((w.alloc (.cells #[.int .i64 x.zA,(.slice va1 x.zG.length vc1),(.slice va2 x.zE.length vc2),(.slice va3 x.zK.length vc3),(.slice va4 x.zJ.length vc4),(.slice va5 x.zF.zD.length vc5)] 41)).alloc (.cells #[.int .i64 ek,.int .i64 et,.int .i64 ec,.int .i64 ev,.int .i64 ns,.int .i64 nf,.int .i64 nl,.int .i64 na,.int .i64 ng] 62))=W4 at *
  have HW4:=hide hW4;clear hW4
  go_enter Tryz.func58,Tryz.ntmps58
  have hkp:=HP.out.cell;have hke:=HE.out.cell
  go_wp2_with fail
  rw[HW4.out]
  have g0:=xA HP.out
  have g1:=xA HE.out
  refine yZ (by kernel_rfl) (by kernel_rfl) ?_
  repeat(first|go_big_quiet_skip|(go_big_quiet_want;go_big_quiet_op;first|go_big_quiet_on|(apply Exists.intro;refine⟨fun _=>?_,?_⟩;(· (fail));go_big_quiet_on)))
  refine wpQuiet_nil ?_
  rintro w9 ⟨uu,rfl⟩
  have hb9:=yE W4 uu
  generalize bel W4 uu=w9 at *
  have HB9:=hide (yG HBa.out HBa.out.size hb9);clear hb9 g0 g1 hkp hke
  go_wp2
  refine bodyPost_ret (v:= .tuple #[.int .i64 0,.int .i64 x.zA]) (by simp[results,Tryz.results58,go_sem]) rfl ?_
  exact⟨by rw[HR.out],HB9.out⟩
 have q5:(ek == 5)=false:=yO k5
 have hkind:ek=1∨ek=2∨ek=3∨ek=4:=by have:=fields_kind HF.out;dsimp only at this;omega
 obtain⟨k,t,hk,ht⟩:=range_track HRG.out k5
 obtain rfl:et=(k:Int):=hk
 have hlf:k<x.zK.length:=by have h1:=(List.getElem?_eq_some_iff.1 ht).1;have h2:=HV.out.feed;omega
 have hgk:=List.getElem?_eq_getElem hlf
 have hfd:x.zK.getD k 0=x.zK[k]:=by rw[List.getD_eq_getElem?_getD,hgk];rfl
 have hfe:=HV.out.feeds _ _ hgk
 generalize x.zK[k]=y at *
 obtain⟨jy,rfl⟩: ∃ jy:Nat,y=(jy:Int):=⟨y.toNat,by omega⟩
 have hjy:jy<x.zF.zD.length:=by omega
 obtain⟨b3,of3,hA3,hb3,hcell3⟩:=HX3.out k _ hgk
 subst hA3;clear ht hfe
 have hi0:(0:Int)≤(k:Int):=by omega
 have hi1:(k:Int)<(x.zK.length:Int):=by omega
 have HCO:=hide (changed_ok HV.out HF.out HRG.out k5);have HK5:=hide k5;clear k5
 have IC:=hide (fun(W:World) (hb:Below w.heap.size w W)=>c_changedClips x _ ⟨ek,(k:Int),ec,ev,⟨ns,nf,nl,na,ng⟩⟩ W HV.out HRG.out hkind (GX.out W hb))
 have HFD:=hide hfd;clear hfd hgk
 have HLA:=hide (show Lasting x ⟨ek,(k:Int),ec,ev,⟨ns,nf,nl,na,ng⟩⟩↔Ring x (jy:Int)∨(ek=4∧Ring x ev) from by unfold Lasting;dsimp only;rw[Int.toNat_natCast,HFD.out])
 generalize hCL:changedL x ⟨ek,(k:Int),ec,ev,⟨ns,nf,nl,na,ng⟩⟩=CL at *
 have HCL:=hide hCL;clear hCL
 have hsb:=span_bd HCO.out
 have HRN:=hide (fun(h:CL= [])=>rangeOf_nil (s:=x) (e:=⟨ek,(k:Int),ec,ev,⟨ns,nf,nl,na,ng⟩⟩) HK5.out (HCL.out.trans h))
 have HRI:=hide (fun(h: ¬ CL= []) (m:Int) (hm:m=if tf (Lasting x ⟨ek,(k:Int),ec,ev,⟨ns,nf,nl,na,ng⟩⟩)=true then x.zA else (spanF CL).2)=>(by have:=rangeOf_in2 (s:=x) (e:=⟨ek,(k:Int),ec,ev,⟨ns,nf,nl,na,ng⟩⟩) HK5.out (fun e=>h (HCL.out.symm.trans e)) (m:=m) (by rw[HCL.out];exact hm);rw[HCL.out] at this;exact this:rangeOf x ⟨ek,(k:Int),ec,ev,⟨ns,nf,nl,na,ng⟩⟩=if (spanF CL).1<min m x.zA then ((spanF CL).1,min m x.zA) else (0,0)))
 have HSL:=hide (span_lt HCO.out)
 obtain⟨sa,sb,hS⟩: ∃ sa sb,spanF CL=(sa,sb):=⟨_,_,rfl⟩
 have IS:=hide (fun(v:Value) (W:World) (h:T.rd W (T.sl 60 5 (CL.map GClip.t)) [v])=>(by have:=c_spanOf v CL W HCO.out h;rw[hS] at this;exact this:Calls Tryz.prog 111 #[v] W fun e w'=>e= .returned (.tuple #[.int .i64 sa,.int .i64 sb])∧Below W.heap.size W w'))
 rw[hS] at HRI hsb HSL;have HS:=hide hS;clear hS hkind;dsimp only at hsb
 have HBa:=hide (HB0.out.alloc HB0.out.size (.cells #[.int .i64 ek,.int .i64 (k:Int),.int .i64 ec,.int .i64 ev,.int .i64 ns,.int .i64 nf,.int .i64 nl,.int .i64 na,.int .i64 ng] 62))
 have HP:=hide (HK0.out.alloc (.cells #[.int .i64 ek,.int .i64 (k:Int),.int .i64 ec,.int .i64 ev,.int .i64 ns,.int .i64 nf,.int .i64 nl,.int .i64 na,.int .i64 ng] 62));have HE:=hide (Bk.born1' w (.cells #[.int .i64 x.zA,(.slice va1 x.zG.length vc1),(.slice va2 x.zE.length vc2),(.slice (some ⟨b3,of3,none⟩) x.zK.length vc3),(.slice va4 x.zJ.length vc4),(.slice va5 x.zF.zD.length vc5)] 41) 62 #[.int .i64 ek,.int .i64 (k:Int),.int .i64 ec,.int .i64 ev,.int .i64 ns,.int .i64 nf,.int .i64 nl,.int .i64 na,.int .i64 ng])
 clear HB0 HK0
 generalize hW4:((w.alloc (.cells #[.int .i64 x.zA,(.slice va1 x.zG.length vc1),(.slice va2 x.zE.length vc2),(.slice (some ⟨b3,of3,none⟩) x.zK.length vc3),(.slice va4 x.zJ.length vc4),(.slice va5 x.zF.zD.length vc5)] 41)).alloc (.cells #[.int .i64 ek,.int .i64 (k:Int),.int .i64 ec,.int .i64 ev,.int .i64 ns,.int .i64 nf,.int .i64 nl,.int .i64 na,.int .i64 ng] 62))=W4 at *
 have HW4:=hide hW4;clear hW4
 go_enter Tryz.func58,Tryz.ntmps58
 have hkp:=HP.out.cell;have hke:=HE.out.cell;have lkp:=HP.out.lt;have lke:=HE.out.lt
 go_wp2_with fail
 rw[HW4.out]
 refine(IC.out _ HBa.out).mono ?_;rintro e w1 ⟨v,rfl,hrd,hb⟩
 have HRD:=hide hrd;have HB1:=hide (yG HBa.out HBa.out.size hb);have HP1:=hide (HP.out.below hb HP.out.lt);have HE1:=hide (HE.out.below hb HE.out.lt);clear hrd hb hkp hke lkp lke
 obtain⟨vA,vL,vC,rfl⟩:=T.yS HRD.out
 go_wp2_with fail
 refine(IS.out _ _ HRD.out).mono ?_;rintro e w2 ⟨rfl,hb⟩
 have HB2:=hide (yG HB1.out HB1.out.size hb);have HP2:=hide (HP1.out.below hb HP1.out.lt);have HE2:=hide (HE1.out.below hb HE1.out.lt);clear hb
 by_cases hn:CL= []
 ·
  have hz:sa=0∧sb=0:=by have h:=HS.out;rw[hn] at h;injection h with h1 h2;exact⟨h1.symm,h2.symm⟩
  obtain⟨rfl,rfl⟩:=hz
  have HR:=hide (HRN.out hn);clear hn
  go_wp2
  refine bodyPost_ret (v:= .tuple #[.int .i64 0,.int .i64 0]) (by simp[results,Tryz.results58,go_sem]) rfl ?_
  exact⟨by rw[HR.out],HB2.out⟩
 have hlt:=HSL.out hn;have HRI2:=hide (HRI.out hn);clear hn
 (try dsimp only at hlt);(try dsimp only at HRI2)
 have q0:(sa == sb)=false:=yO (by omega)
 have HLT:=hide hlt;clear hlt
 have RG:=hide (fun(j:Nat) (hj:j<x.zF.zD.length) (W:World) (hb:Below w.heap.size w W)=>c_rings x HV.out x.zF.zD.length j (by omega) hj W _ (GX.out W hb))
 have hkp:=HP2.out.cell;have hke:=HE2.out.cell;have lkp:=HP2.out.lt;have lke:=HE2.out.lt;have m3:=(HB2.out.cell hb3).trans hcell3;have lb3:=Nat.lt_of_lt_of_le hb3 HB2.out.size
 go_wp2
 by_cases hr1:Ring x (jy:Int)
 ·
  have HR1:=hide (yW hr1);have HR1':=hide hr1;clear hr1
  have RG1:=hide (fun(W:World) (hb:Below w.heap.size w W)=>(by have:=RG.out jy hjy W hb;rw[HR1.out] at this;exact this:Calls Tryz.prog 113 #[.agg #[.int .i64 x.zA,(.slice va1 x.zG.length vc1),(.slice va2 x.zE.length vc2),(.slice (some ⟨b3,of3,none⟩) x.zK.length vc3),(.slice va4 x.zJ.length vc4),(.slice va5 x.zF.zD.length vc5)],.int .i64 (jy:Int)] W fun e w'=>e= .returned (.bool true)∧Below W.heap.size W w'))
  clear hkp hke lkp lke m3 lb3
  have m3:=yD ((HB2.out.cell hb3).trans hcell3)
  have g0:=xA HP2.out
  have g1:=xA HE2.out
  refine yZ (by kernel_rfl) (by kernel_rfl) ?_
  repeat(first|go_big_quiet_skip|(go_big_quiet_want;go_big_quiet_op;first|go_big_quiet_on|(apply Exists.intro;refine⟨fun _=>?_,?_⟩;(· (first|(go_at_call_of 113 (Value.int IntKind.i64 (jy:Int));exact Calls.yI (RG1.out _ (yG HB2.out HB2.out.size (yE w2 _))))));go_big_quiet_on)))
  refine wpQuiet_nil ?_
  rintro w9 ⟨uu,rfl⟩
  have hb9:=yE w2 uu
  generalize bel w2 uu=w9 at *
  have HB9:=hide (yG HB2.out HB2.out.size hb9);have HP9:=hide (HP2.out.below hb9 HP2.out.lt);clear hb9 g0 g1 m3
  have hkp:=HP9.out.cell;have lkp:=HP9.out.lt
  have HLS:=hide (yW (HLA.out.2 (.inl HR1'.out)))
  have HRF:=hide (HRI2.out x.zA (by rw[HLS.out];rfl))
  have c1: ¬ x.zA<x.zA:=by omega
  have HM:Sec (min x.zA x.zA=x.zA):=hide (by omega)
  by_cases c2:x.zA≤sa
  ·
   go_wp2
   refine bodyPost_ret (v:= .tuple #[.int .i64 0,.int .i64 0]) (by simp[results,Tryz.results58,go_sem]) rfl ?_
   exact⟨by rw[HRF.out,HM.out,if_neg (by omega)],HB9.out⟩
  go_wp2
  refine bodyPost_ret (v:= .tuple #[.int .i64 sa,.int .i64 x.zA]) (by simp[results,Tryz.results58,go_sem]) rfl ?_
  exact⟨by rw[HRF.out,HM.out,if_pos (by omega)],HB9.out⟩
 have HR1:=hide (yV hr1);have HR1':=hide hr1;clear hr1
 by_cases k4:ek=4
 rotate_left
 ·
  have q4:(ek == 4)=false:=yO k4;have HN4:=hide k4;clear k4
  have RG1:=hide (fun(W:World) (hb:Below w.heap.size w W)=>(by have:=RG.out jy hjy W hb;rw[HR1.out] at this;exact this:Calls Tryz.prog 113 #[.agg #[.int .i64 x.zA,(.slice va1 x.zG.length vc1),(.slice va2 x.zE.length vc2),(.slice (some ⟨b3,of3,none⟩) x.zK.length vc3),(.slice va4 x.zJ.length vc4),(.slice va5 x.zF.zD.length vc5)],.int .i64 (jy:Int)] W fun e w'=>e= .returned (.bool false)∧Below W.heap.size W w'))
  clear hkp hke lkp lke m3 lb3
  have m3:=yD ((HB2.out.cell hb3).trans hcell3)
  have g0:=xA HP2.out
  have g1:=xA HE2.out
  refine yZ (by kernel_rfl) (by kernel_rfl) ?_
  repeat(first|go_big_quiet_skip|(go_big_quiet_want;go_big_quiet_op;first|go_big_quiet_on|(apply Exists.intro;refine⟨fun _=>?_,?_⟩;(· (first|(go_at_call_of 113 (Value.int IntKind.i64 (jy:Int));exact Calls.yI (RG1.out _ (yG HB2.out HB2.out.size (yE w2 _))))));go_big_quiet_on)))
  refine wpQuiet_nil ?_
  rintro w9 ⟨uu,rfl⟩
  have hb9:=yE w2 uu
  generalize bel w2 uu=w9 at *
  have HB9:=hide (yG HB2.out HB2.out.size hb9);have HP9:=hide (HP2.out.below hb9 HP2.out.lt);clear hb9 g0 g1 m3
  have hkp:=HP9.out.cell;have lkp:=HP9.out.lt
  have HLS:=hide (yV (fun h=>(HLA.out.1 h).elim HR1'.out (fun h=>HN4.out h.1)))
  have HRF:=hide (HRI2.out sb (by rw[HLS.out];rfl))
  by_cases c1:x.zA<sb
  ·
   have HM:Sec (min sb x.zA=x.zA):=hide (by omega)
   by_cases c2:x.zA≤sa
   ·
    go_wp2
    refine bodyPost_ret (v:= .tuple #[.int .i64 0,.int .i64 0]) (by simp[results,Tryz.results58,go_sem]) rfl ?_
    exact⟨by rw[HRF.out,HM.out,if_neg (by omega)],HB9.out⟩
   go_wp2
   refine bodyPost_ret (v:= .tuple #[.int .i64 sa,.int .i64 x.zA]) (by simp[results,Tryz.results58,go_sem]) rfl ?_
   exact⟨by rw[HRF.out,HM.out,if_pos (by omega)],HB9.out⟩
  have HM:Sec (min sb x.zA=sb):=hide (by omega)
  by_cases c2:sb≤sa
  ·
   go_wp2
   refine bodyPost_ret (v:= .tuple #[.int .i64 0,.int .i64 0]) (by simp[results,Tryz.results58,go_sem]) rfl ?_
   exact⟨by rw[HRF.out,HM.out,if_neg (by omega)],HB9.out⟩
  go_wp2
  refine bodyPost_ret (v:= .tuple #[.int .i64 sa,.int .i64 sb]) (by simp[results,Tryz.results58,go_sem]) rfl ?_
  exact⟨by rw[HRF.out,HM.out,if_pos (by omega)],HB9.out⟩
 have q4:(ek == 4)=true:=yP k4;have HK4:=hide k4
 have hev:=HRG.out;unfold RangeOk at hev;rw[if_neg HK5.out] at hev;have hev:=hev.2;rw[if_neg (by dsimp only;omega),if_neg (by dsimp only;omega),if_neg (by dsimp only;omega)] at hev;have hev:=yY.1 hev
 obtain⟨jv,rfl⟩: ∃ jv:Nat,ev=(jv:Int):=⟨ev.toNat,by dsimp only at hev;omega⟩
 have hjv:jv<x.zF.zD.length:=by dsimp only at hev;omega
 clear hev k4
 by_cases hr2:Ring x (jv:Int)
 ·
  have HR2:=hide (yW hr2);have HR2':=hide hr2;clear hr2
  have RG1:=hide (fun(W:World) (hb:Below w.heap.size w W)=>(by have:=RG.out jy hjy W hb;rw[HR1.out] at this;exact this:Calls Tryz.prog 113 #[.agg #[.int .i64 x.zA,(.slice va1 x.zG.length vc1),(.slice va2 x.zE.length vc2),(.slice (some ⟨b3,of3,none⟩) x.zK.length vc3),(.slice va4 x.zJ.length vc4),(.slice va5 x.zF.zD.length vc5)],.int .i64 (jy:Int)] W fun e w'=>e= .returned (.bool false)∧Below W.heap.size W w'))
  have RG2:=hide (fun(W:World) (hb:Below w.heap.size w W)=>(by have:=RG.out jv hjv W hb;rw[HR2.out] at this;exact this:Calls Tryz.prog 113 #[.agg #[.int .i64 x.zA,(.slice va1 x.zG.length vc1),(.slice va2 x.zE.length vc2),(.slice (some ⟨b3,of3,none⟩) x.zK.length vc3),(.slice va4 x.zJ.length vc4),(.slice va5 x.zF.zD.length vc5)],.int .i64 (jv:Int)] W fun e w'=>e= .returned (.bool true)∧Below W.heap.size W w'))
  clear hkp hke lkp lke m3 lb3
  have m3:=yD ((HB2.out.cell hb3).trans hcell3)
  have g0:=xA HP2.out
  have g1:=xA HE2.out
  refine yZ (by kernel_rfl) (by kernel_rfl) ?_
  repeat(first|go_big_quiet_skip|(go_big_quiet_want;go_big_quiet_op;first|go_big_quiet_on|(apply Exists.intro;refine⟨fun _=>?_,?_⟩;(· (first|(go_at_call_of 113 (Value.int IntKind.i64 (jy:Int));exact Calls.yI (RG1.out _ (yG HB2.out HB2.out.size (yE w2 _))))|(go_at_call_of 113 (Value.int IntKind.i64 (jv:Int));exact Calls.yI (RG2.out _ (yG HB2.out HB2.out.size (yE w2 _))))));go_big_quiet_on)))
  refine wpQuiet_nil ?_
  rintro w9 ⟨uu,rfl⟩
  have hb9:=yE w2 uu
  generalize bel w2 uu=w9 at *
  have HB9:=hide (yG HB2.out HB2.out.size hb9);have HP9:=hide (HP2.out.below hb9 HP2.out.lt);clear hb9 g0 g1 m3
  have hkp:=HP9.out.cell;have lkp:=HP9.out.lt
  have HLS:=hide (yW (HLA.out.2 (.inr ⟨HK4.out,HR2'.out⟩)))
  have HRF:=hide (HRI2.out x.zA (by rw[HLS.out];rfl))
  have c1: ¬ x.zA<x.zA:=by omega
  have HM:Sec (min x.zA x.zA=x.zA):=hide (by omega)
  by_cases c2:x.zA≤sa
  ·
   go_wp2
   refine bodyPost_ret (v:= .tuple #[.int .i64 0,.int .i64 0]) (by simp[results,Tryz.results58,go_sem]) rfl ?_
   exact⟨by rw[HRF.out,HM.out,if_neg (by omega)],HB9.out⟩
  go_wp2
  refine bodyPost_ret (v:= .tuple #[.int .i64 sa,.int .i64 x.zA]) (by simp[results,Tryz.results58,go_sem]) rfl ?_
  exact⟨by rw[HRF.out,HM.out,if_pos (by omega)],HB9.out⟩
 have HR2:=hide (yV hr2);have HR2':=hide hr2;clear hr2
 have RG1:=hide (fun(W:World) (hb:Below w.heap.size w W)=>(by have:=RG.out jy hjy W hb;rw[HR1.out] at this;exact this:Calls Tryz.prog 113 #[.agg #[.int .i64 x.zA,(.slice va1 x.zG.length vc1),(.slice va2 x.zE.length vc2),(.slice (some ⟨b3,of3,none⟩) x.zK.length vc3),(.slice va4 x.zJ.length vc4),(.slice va5 x.zF.zD.length vc5)],.int .i64 (jy:Int)] W fun e w'=>e= .returned (.bool false)∧Below W.heap.size W w'))
 have RG2:=hide (fun(W:World) (hb:Below w.heap.size w W)=>(by have:=RG.out jv hjv W hb;rw[HR2.out] at this;exact this:Calls Tryz.prog 113 #[.agg #[.int .i64 x.zA,(.slice va1 x.zG.length vc1),(.slice va2 x.zE.length vc2),(.slice (some ⟨b3,of3,none⟩) x.zK.length vc3),(.slice va4 x.zJ.length vc4),(.slice va5 x.zF.zD.length vc5)],.int .i64 (jv:Int)] W fun e w'=>e= .returned (.bool false)∧Below W.heap.size W w'))
 clear hkp hke lkp lke m3 lb3
 have m3:=yD ((HB2.out.cell hb3).trans hcell3)
 have g0:=xA HP2.out
 have g1:=xA HE2.out
 refine yZ (by kernel_rfl) (by kernel_rfl) ?_
 repeat(first|go_big_quiet_skip|(go_big_quiet_want;go_big_quiet_op;first|go_big_quiet_on|(apply Exists.intro;refine⟨fun _=>?_,?_⟩;(· (first|(go_at_call_of 113 (Value.int IntKind.i64 (jy:Int));exact Calls.yI (RG1.out _ (yG HB2.out HB2.out.size (yE w2 _))))|(go_at_call_of 113 (Value.int IntKind.i64 (jv:Int));exact Calls.yI (RG2.out _ (yG HB2.out HB2.out.size (yE w2 _))))));go_big_quiet_on)))
 refine wpQuiet_nil ?_
 rintro w9 ⟨uu,rfl⟩
 have hb9:=yE w2 uu
 generalize bel w2 uu=w9 at *
 have HB9:=hide (yG HB2.out HB2.out.size hb9);have HP9:=hide (HP2.out.below hb9 HP2.out.lt);clear hb9 g0 g1 m3
 have hkp:=HP9.out.cell;have lkp:=HP9.out.lt
 have HLS:=hide (yV (fun h=>(HLA.out.1 h).elim HR1'.out (fun h=>HR2'.out h.2)))
 have HRF:=hide (HRI2.out sb (by rw[HLS.out];rfl))
 by_cases c1:x.zA<sb
 ·
  have HM:Sec (min sb x.zA=x.zA):=hide (by omega)
  by_cases c2:x.zA≤sa
  ·
   go_wp2
   refine bodyPost_ret (v:= .tuple #[.int .i64 0,.int .i64 0]) (by simp[results,Tryz.results58,go_sem]) rfl ?_
   exact⟨by rw[HRF.out,HM.out,if_neg (by omega)],HB9.out⟩
  go_wp2
  refine bodyPost_ret (v:= .tuple #[.int .i64 sa,.int .i64 x.zA]) (by simp[results,Tryz.results58,go_sem]) rfl ?_
  exact⟨by rw[HRF.out,HM.out,if_pos (by omega)],HB9.out⟩
 have HM:Sec (min sb x.zA=sb):=hide (by omega)
 by_cases c2:sb≤sa
 ·
  go_wp2
  refine bodyPost_ret (v:= .tuple #[.int .i64 0,.int .i64 0]) (by simp[results,Tryz.results58,go_sem]) rfl ?_
  exact⟨by rw[HRF.out,HM.out,if_neg (by omega)],HB9.out⟩
 go_wp2
 refine bodyPost_ret (v:= .tuple #[.int .i64 sa,.int .i64 sb]) (by simp[results,Tryz.results58,go_sem]) rfl ?_
 exact⟨by rw[HRF.out,HM.out,if_pos (by omega)],HB9.out⟩
end Go.Proofs.YteiflbhcehajkaaGreat
end
section
namespace Go.Proofs.YteiflbhcehajkaaGreat
open Go.RowKit
theorem c_l31Dirty (x:GSession) (b o:Nat) (ed:GEdit) (b' o':Nat) (w:World) (hs:x.small) (hv:SessionOk x) (hf:FieldsOk ed) (hr:RangeOk x ed) (he:T.at w ed.fs b' o') (h:T.at w x.fs b o):Calls Tryz.prog 105 #[.pointer (some ⟨b,o,none⟩),.pointer (some ⟨b',o',none⟩)] w fun e w'=>e= .returned (.tuple #[.int .i64 (rangeOf x ed).1,.int .i64 (rangeOf x ed).2])∧Below w.heap.size w w':=by
 have HAT:=hide h
 have HRG:=hide hr;have HV:=hide hv;have HF:=hide hf;have HSM:=hide hs;have HEAT:=hide he;clear hr hv hf hs
 obtain⟨hlt0,cs,hr,hc⟩:=h
 obtain⟨v1,v2,v3,v4,v5,rfl,h1,h2,h3,h4,h5⟩:=GSession.yL hr
 clear hr
 have R1:=hide h1;obtain⟨va1,vc1,rfl,vl1,vm1,vx1⟩:=T.yK h1
 have HX1:=hide vx1;clear vx1 h1
 have R2:=hide h2;obtain⟨va2,vc2,rfl,vl2,vm2,vx2⟩:=T.yK h2
 have HX2:=hide vx2;clear vx2 h2
 have h3i:=T.yQ.1 h3;obtain⟨va3,vc3,rfl,vl3,vm3,vx3⟩:=h3i.open_
 have R3:=hide h3i;have HX3:=hide vx3;clear vx3 h3 h3i
 have R4:=hide h4;obtain⟨va4,vc4,rfl,vl4,vm4,vx4⟩:=T.yK h4
 have HX4:=hide vx4;clear vx4 h4
 have R5:=hide h5;obtain⟨va5,vc5,rfl,vl5,vm5,vx5⟩:=T.yK h5
 have HX5:=hide vx5;clear vx5 h5
 have HL:=hide hlt0;have HCC:=hide hc;have HB0:=hide (Below.refl w.heap.size w);clear hlt0 hc
 obtain⟨hlt',cs',hr',hc'⟩:=he
 obtain⟨ek,et,ec,ev,ns,nf,nl,na,ng⟩:=ed
 obtain rfl:=GEdit.yL hr'
 dsimp only at hc'
 have c0:w.cell? ⟨b',o',none⟩=some (.int .i64 ek):=hc' 0 _ rfl
 clear hc' hr'
 have p0:w.cell? ⟨b,o,none⟩=some (.int .i64 x.zA):=(HB0.out.cell HL.out).trans (HCC.out 0 _ rfl)
 have lb:b<w.heap.size:=Nat.lt_of_lt_of_le HL.out HB0.out.size
 by_cases k5:ek=5
 ·
  have q5:(ek == 5)=true:=yP k5
  have HR:=hide (rangeOf_5 (s:=x) (e:=⟨ek,et,ec,ev,⟨ns,nf,nl,na,ng⟩⟩) k5);clear k5
  go_enter Tryz.func105,Tryz.ntmps105
  go_wp2
  have g0:=yD p0;clear p0 c0
  refine yZ (by kernel_rfl) (by kernel_rfl) ?_
  repeat(first|go_big_quiet_skip|(go_big_quiet_want;go_big_quiet_op;first|go_big_quiet_on|(apply Exists.intro;refine⟨fun _=>?_,?_⟩;(· (fail));go_big_quiet_on)))
  refine wpQuiet_nil ?_
  rintro w9 ⟨uu,rfl⟩
  have hb9:=yE w uu
  generalize bel w uu=w9 at *
  have HB9:=hide hb9;clear hb9 g0
  go_wp2
  refine bodyPost_ret (v:= .tuple #[.int .i64 0,.int .i64 x.zA]) (by simp[results,Tryz.results105,go_sem]) rfl ?_
  exact⟨by rw[HR.out],HB9.out⟩
 have q5:(ek == 5)=false:=yO k5
 have hkind:ek=1∨ek=2∨ek=3∨ek=4:=by have:=fields_kind HF.out;dsimp only at this;omega
 have HKD:=hide hkind;clear hkind
 have hcs:= @clipsL_span x ⟨ek,et,ec,ev,⟨ns,nf,nl,na,ng⟩⟩
 have HCO:=hide (fun c hc=>changed_ok HV.out HF.out HRG.out k5 c ((hcs.2.2 c).1 hc): ∀ c ∈ clipsL x ⟨ek,et,ec,ev,⟨ns,nf,nl,na,ng⟩⟩,ClipOk c)
 have HRN:=hide (fun(h:clipsL x ⟨ek,et,ec,ev,⟨ns,nf,nl,na,ng⟩⟩= [])=>rangeOf_nil (s:=x) (e:=⟨ek,et,ec,ev,⟨ns,nf,nl,na,ng⟩⟩) k5 (hcs.2.1.1 h))
 have HRI:=hide (fun(h: ¬ clipsL x ⟨ek,et,ec,ev,⟨ns,nf,nl,na,ng⟩⟩= []) (m:Int) (hm:m=if tf (Lasting x ⟨ek,et,ec,ev,⟨ns,nf,nl,na,ng⟩⟩)=true then x.zA else (spanF (clipsL x ⟨ek,et,ec,ev,⟨ns,nf,nl,na,ng⟩⟩)).2)=>(by have:=rangeOf_in2 (s:=x) (e:=⟨ek,et,ec,ev,⟨ns,nf,nl,na,ng⟩⟩) k5 (fun e=>h (hcs.2.1.2 e)) (m:=m) (by rw[←hcs.1];exact hm);rw[←hcs.1] at this;exact this:rangeOf x ⟨ek,et,ec,ev,⟨ns,nf,nl,na,ng⟩⟩=if (spanF (clipsL x ⟨ek,et,ec,ev,⟨ns,nf,nl,na,ng⟩⟩)).1<min m x.zA then ((spanF (clipsL x ⟨ek,et,ec,ev,⟨ns,nf,nl,na,ng⟩⟩)).1,min m x.zA) else (0,0)))
 have IC:=hide (c_l31Clips x b o ⟨ek,et,ec,ev,⟨ns,nf,nl,na,ng⟩⟩ b' o' w HSM.out HV.out HRG.out HKD.out HEAT.out HAT.out)
 generalize hCL:clipsL x ⟨ek,et,ec,ev,⟨ns,nf,nl,na,ng⟩⟩=CL at *;clear hCL hcs k5
 go_enter Tryz.func105,Tryz.ntmps105
 go_wp2_with fail
 refine IC.out.mono ?_;rintro e w1 ⟨v,rfl,hrd,hb⟩
 have HB1:=hide hb;clear hb p0 c0 lb IC
 obtain⟨A,cap,rfl,hln,hc,hx⟩:=T.yK hrd;have HX:=hide hx;clear hx hrd
 by_cases h0:CL.length=0
 ·
  have HR:=hide (HRN.out (List.eq_nil_of_length_eq_zero h0))
  obtain rfl:CL= []:=List.eq_nil_of_length_eq_zero h0;clear h0
  go_wp2
  refine bodyPost_ret (v:= .tuple #[.int .i64 0,.int .i64 0]) (by simp[results,Tryz.results105,go_sem]) rfl ?_
  exact⟨by rw[HR.out],HB1.out⟩
 have HNE:=hide (fun e=>h0 (by rw[e];rfl): ¬ CL= [])
 have hlt0:0<CL.length:=by omega
 have hg0:=List.getElem?_eq_getElem hlt0
 obtain⟨b0,of0,cs0,hA0,hb0,hcs0,hcell0⟩:=HX.out 0 CL[0] hg0
 subst hA0
 generalize CL[0]=z at *
 have HSP:=hide (spanF_at hg0);have HZ:=hide (HCO.out z (List.mem_of_getElem? hg0));clear hg0
 have HBr:=hide (Below.refl w1.heap.size w1)
 obtain rfl:=GClip.yL (show T.rds _ _ _ by simpa only[GClip.t,T.rd] using hcs0)
 have p0:=(HBr.out.cell hb0).trans (hcell0 0 (.int .i64 z.zO) rfl)
 have p1:=(HBr.out.cell hb0).trans (hcell0 1 (.int .i64 z.zI) rfl)
 have p2:=(HBr.out.cell hb0).trans (hcell0 2 (.int .i64 z.zA) rfl)
 have p3:=(HBr.out.cell hb0).trans (hcell0 3 (.int .i64 z.zW) rfl)
 have p4:=(HBr.out.cell hb0).trans (hcell0 4 (.int .i64 z.zQ) rfl)
 rw[show of0+(0 * 5+0)=of0 by omega] at p0
 rw[show of0+(0 * 5+1)=of0+1 by omega] at p1
 rw[show of0+(0 * 5+2)=of0+2 by omega] at p2
 rw[show of0+(0 * 5+3)=of0+3 by omega] at p3
 rw[show of0+(0 * 5+4)=of0+4 by omega] at p4
 clear hcs0 hcell0
 have hz1:=yY.1 HZ.out.at_;have hz2:=yY.1 HZ.out.length
 have h0i:((CL.length:Int) == 0)=false:=yO (by omega)
 clear h0
 go_wp2
 go_loopw [7,8,9] (fun a b i wr=> ∃ (k:Nat) (am bm:Int),k≤CL.length∧i= .int .i64 k∧a= .int .i64 am∧b= .int .i64 bm∧am=lowF z.zW (CL.take k)∧bm=highF 0 (CL.take k)∧Below w1.heap.size w1 wr) (fun _ _ i _=>CL.length - (intOf i).toNat)
 case atStart=>exact⟨0,_,_,Nat.zero_le _,rfl,rfl,rfl,rfl,rfl,Below.refl _ _⟩
 case round=>
  obtain⟨k,am,bm,hk,rfl,rfl,rfl,ha,hb,hbw⟩:=hrel
  have HA:=hide ha;have HBM:=hide hb;have HW:=hide hbw;clear ha hb hbw
  by_cases hlt:k<CL.length
  rotate_left
  ·
   obtain rfl:k=CL.length:=by omega
   have hA:=HA.out;have hB:=HBM.out;rw[List.take_length] at hA hB
   have hS:spanF CL=(am,bm):=by rw[HSP.out,←hA,←hB]
   have hsb:=span_bd HCO.out;rw[hS] at hsb;dsimp only at hsb
   have HRI2:=hide (HRI.out HNE.out);rw[hS] at HRI2;clear hA hB hS
   (try dsimp only at HRI2)
   have HB2:=hide (yG HB1.out HB1.out.size HW.out)
   go_wp2_with fail
   refine(c_l31Lasting x b o ⟨ek,et,ec,ev,⟨ns,nf,nl,na,ng⟩⟩ b' o' wr HSM.out HV.out HRG.out HKD.out (T.at_below HEAT.out HB2.out) (T.at_below HAT.out HB2.out)).mono ?_;rintro e w3 ⟨rfl,hb⟩
   have HB3:=hide (yG HB2.out HB2.out.size hb);clear hb
   have p0:w3.cell? ⟨b,o,none⟩=some (.int .i64 x.zA):=(HB3.out.cell HL.out).trans (HCC.out 0 _ rfl)
   have lb:b<w3.heap.size:=Nat.lt_of_lt_of_le HL.out HB3.out.size
   by_cases hl:Lasting x ⟨ek,et,ec,ev,⟨ns,nf,nl,na,ng⟩⟩
   ·
    rw[yW hl] at HRI2;rw[yW hl];clear hl
    have HRF:=hide (HRI2.out x.zA rfl);clear HRI2
    go_wp2_with fail
    refine(c_qMin x.zA x.zA _).mono ?_;rintro e w4 ⟨rfl,rfl⟩
    obtain⟨mm,hmm⟩: ∃ mm,mm=min x.zA x.zA:=⟨_,rfl⟩
    rw[←hmm]
    have HM:Sec (min x.zA x.zA=mm):=hide hmm.symm
    clear hmm;rw[HM.out] at HRF;clear HM
    by_cases c2:mm≤am
    ·
     have HR:=hide (HRF.out.trans (if_neg (by omega)))
     go_wp2
     refine bodyPost_ret (v:= .tuple #[.int .i64 0,.int .i64 0]) (by simp[results,Tryz.results105,go_sem]) rfl ?_
     exact⟨by rw[HR.out],HB3.out⟩
    have HR:=hide (HRF.out.trans (if_pos (by omega)))
    go_wp2
    refine bodyPost_ret (v:= .tuple #[.int .i64 am,.int .i64 mm]) (by simp[results,Tryz.results105,go_sem]) rfl ?_
    exact⟨by rw[HR.out],HB3.out⟩
   rw[yV hl] at HRI2;rw[yV hl];clear hl
   have HRF:=hide (HRI2.out bm rfl);clear HRI2
   go_wp2_with fail
   refine(c_qMin bm x.zA _).mono ?_;rintro e w4 ⟨rfl,rfl⟩
   obtain⟨mm,hmm⟩: ∃ mm,mm=min bm x.zA:=⟨_,rfl⟩
   rw[←hmm]
   have HM:Sec (min bm x.zA=mm):=hide hmm.symm
   clear hmm;rw[HM.out] at HRF;clear HM
   by_cases c2:mm≤am
   ·
    have HR:=hide (HRF.out.trans (if_neg (by omega)))
    go_wp2
    refine bodyPost_ret (v:= .tuple #[.int .i64 0,.int .i64 0]) (by simp[results,Tryz.results105,go_sem]) rfl ?_
    exact⟨by rw[HR.out],HB3.out⟩
   have HR:=hide (HRF.out.trans (if_pos (by omega)))
   go_wp2
   refine bodyPost_ret (v:= .tuple #[.int .i64 am,.int .i64 mm]) (by simp[results,Tryz.results105,go_sem]) rfl ?_
   exact⟨by rw[HR.out],HB3.out⟩
  have hgk:=List.getElem?_eq_getElem hlt
  obtain⟨b1,off,cs1,hA,hb1,hcs,hcell⟩:=HX.out k CL[k] hgk
  obtain⟨rfl,rfl⟩:b0=b1∧of0=off:=by injection hA with hA;injection hA with e1 e2;exact⟨e1,e2⟩
  clear hA
  generalize CL[k]=y at *
  have HG:=hide hgk;clear hgk p0 p1 p2 p3 p4
  obtain rfl:=GClip.yL (show T.rds _ _ _ by simpa only[GClip.t,T.rd] using hcs)
  have d0:=(HW.out.cell hb1).trans (hcell 0 (.int .i64 y.zO) rfl)
  have d1:=(HW.out.cell hb1).trans (hcell 1 (.int .i64 y.zI) rfl)
  have d2:=(HW.out.cell hb1).trans (hcell 2 (.int .i64 y.zA) rfl)
  have d3:=(HW.out.cell hb1).trans (hcell 3 (.int .i64 y.zW) rfl)
  have d4:=(HW.out.cell hb1).trans (hcell 4 (.int .i64 y.zQ) rfl)
  rw[show of0+(k * 5+0)=of0+k * 5 by omega] at d0
  rw[show of0+(k * 5+1)=of0+k * 5+1 by omega] at d1
  rw[show of0+(k * 5+2)=of0+k * 5+2 by omega] at d2
  rw[show of0+(k * 5+3)=of0+k * 5+3 by omega] at d3
  rw[show of0+(k * 5+4)=of0+k * 5+4 by omega] at d4
  clear hcs hcell
  have hq1:b0<wr.heap.size:=Nat.lt_of_lt_of_le hb1 HW.out.size
  have HY:=hide (HCO.out y (List.mem_of_getElem? HG.out))
  have hy1:=yY.1 HY.out.at_;have hy2:=yY.1 HY.out.length
  have hwr:IntKind.i64.wrap (y.zW+y.zA)=y.zW+y.zA:=IntWalk.i64_in _ (by omega)
  have HA2:=hide (lowF_take (a:=z.zW) HG.out);have HB2:=hide (highF_take (a:=0) HG.out)
  go_wp2_with fail
  refine(c_qMin am y.zW _).mono ?_;rintro e w4 ⟨rfl,rfl⟩
  obtain⟨nm,hnm⟩: ∃ nm,nm=min am y.zW:=⟨_,rfl⟩
  rw[←hnm];have HNM:=hide hnm;clear hnm
  go_wp2
  have g2:=yD d2;have g3:=yD d3;clear d0 d1 d2 d3 d4
  refine yZ (by kernel_rfl) (by kernel_rfl) ?_
  repeat(first|go_big_quiet_skip|(go_big_quiet_want;go_big_quiet_op;first|go_big_quiet_on|(apply Exists.intro;refine⟨fun _=>?_,?_⟩;(· (go_at_call 166;exact Calls.yH (c_qMax _ _ _)));go_big_quiet_on)))
  refine wpQuiet_nil ?_
  rintro w9 ⟨uu,rfl⟩
  have hb9:=yE wr uu
  generalize bel wr uu=w9 at *
  have HC:=hide (yG HW.out HW.out.size hb9);clear hb9 g2 g3
  go_wp2
  go_roundw
  case rel=>exact⟨k+1,_,_,by omega,by go_num,rfl,rfl,by rw[HA2.out,←HA.out,HNM.out],by rw[HB2.out,←HBM.out],HC.out⟩
  case measure=>simp[intOf];omega
end Go.Proofs.YteiflbhcehajkaaGreat
end
