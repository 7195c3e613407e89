/- Contracts: the range of an edit, by the program, its end. Contract: the program's DirtyRange. The law Edits. The words of the translation's head, without running through its whole list of roots; and the closed facts of a row out of them. -/
import Derived.Test.YtdcofkabaigjpaaGreatQBfEdits
import Derived.Test.YtdcofkabaigjpaaGreatQBlEdits
import Derived.ProofKit
set_option linter.unusedVariables false
set_option linter.unusedSimpArgs false
set_option maxHeartbeats 4000000
set_option maxRecDepth 100000
namespace Go.Proofs.YtdcofkabaigjpaaGreat
section
open Go.RowKit
theorem changed_ok {s:xO} {e:wV} (hv:xW s) (hf:wH e) (hr:xZ s e) (h5:e.zD≠5): ∀ c ∈ wO s e,zLz c:=by
 intro c hc;obtain⟨k,t,hk,ht⟩:=vV hr h5;have tk:=(hv.tracks k t ht).1
 have hin: ∀ x ∈ t.zS,zLz x:=fun x hx=>by
  obtain⟨i,hi⟩:=List.mem_iff_getElem?.1 hx;exact(tk.clips i x hi).1
 have hr':=hr;unfold xZ at hr';rw[if_neg h5] at hr';have hr2:=hr'.2;rw[hk,wU ht] at hr2
 have hcl:e.zD=2∨e.zD=3→zLz (uS s e):=fun h=>by
  have hj:0≤e.yG∧e.yG≤(t.zS.length:Int) - 1:=by
   rcases h with h|h
   ·rw[if_neg zM,if_neg zM,if_pos h] at hr2;exact xK.1 hr2
   ·rw[if_neg zM,if_pos h] at hr2;exact xK.1 hr2.1
  have hlt:e.yG.toNat<t.zS.length:=by omega
  unfold uS;rw[hk,wU ht,List.getD_eq_getElem?_getD,gE hlt];exact hin _ (List.getElem_mem hlt)
 have hnew:e.zD=1∨e.zD=3→zLz e.yC:=fun h=>by
  unfold wH at hf;rw[if_pos h] at hf;exact hf.2
 unfold wO at hc
 split at hc
 ·next h=>simp at hc;subst hc;exact hnew (.inl h)
 ·split at hc
  ·next h=>simp at hc;subst hc;exact hcl (.inl h)
  ·split at hc
   ·next h=>
    simp at hc
    rcases hc with rfl|rfl
    ·exact hcl (.inr h)
    ·exact hnew (.inr h)
   ·split at hc
    ·simp at hc
    ·rw[hk,wU ht] at hc
     exact hin c hc
theorem rangeOf_5 {s:xO} {e:wV} (h:e.zD=5):vH s e=(0,s.zB):=by unfold vH;rw[if_pos h]
theorem rangeOf_nil {s:xO} {e:wV} (h:e.zD≠5) (hc:wO s e= []):vH s e=(0,0):=by unfold vH;rw[if_neg h,if_pos hc]
theorem rangeOf_in2 {s:xO} {e:wV} (h:e.zD≠5) (hc: ¬ wO s e= []) {m:Int} (hm:m=if tf (xDz s e)=true then s.zB else (uV (wO s e)).2):
  vH s e=if (uV (wO s e)).1<min m s.zB then ((uV (wO s e)).1,min m s.zB) else (0,0):=by
 subst hm;unfold vH;rw[if_neg h,if_neg hc]
theorem span_lt {l:List xU} (hl: ∀ c ∈ l,zLz c) (h: ¬ l= []):(uV l).1<(uV l).2:=by
 cases l with
 |nil=>exact absurd rfl h
 |cons c r=>exact spanF_lt (by have:=xK.1 (hl c (by simp)).length;omega)
theorem span_bd {l:List xU} (hl: ∀ c ∈ l,zLz c):0≤(uV l).1∧(uV l).1≤4000∧0≤(uV l).2∧(uV l).2≤4000:=by
 cases l with
 |nil=>simp[uV]
 |cons c r=>
  have h1:=xK.1 (hl c (by simp)).at_;have h2:=xK.1 (hl c (by simp)).length;have h3:=lowF_bd (a:=c.yE) zM hl;have h4:=highF_bd (a:=0) zM hl;exact⟨h3.1,h3.2,h4.1,h4.2⟩
theorem c_dirtyRange (x:xO) (cs:List Value) (ed:wV) (w:World) (hv:xW x) (hf:wH ed) (hr:xZ x ed) (h:T.rds w x.fs cs):Calls Tryz.prog 32 #[.agg cs.toArray,.agg #[.int .i64 ed.zD,.int .i64 ed.yD,.int .i64 ed.yG,.int .i64 ed.yF,.int .i64 ed.yC.zV,.int .i64 ed.yC.zO,.int .i64 ed.yC.zB,.int .i64 ed.yC.yE,.int .i64 ed.yC.yB]] w fun e w'=>e= .returned (.tuple #[.int .i64 (vH x ed).1,.int .i64 (vH x ed).2])∧Below w.heap.size w w':=by
 obtain⟨ek,et,ec,ev,ns,nf,nl,na,ng⟩:=ed;dsimp only;obtain⟨v1,v2,v3,v4,v5,rfl,h1,h2,h3,h4,h5⟩:=xO.yT h;clear h;obtain⟨va1,vc1,rfl,vl1,vm1,R1,HX1⟩:=oG h1;clear h1;obtain⟨va2,vc2,rfl,vl2,vm2,R2,HX2⟩:=oG h2;clear h2;obtain⟨va3,vc3,rfl,vl3,vm3,R3,HX3⟩:=oI h3;clear h3;obtain⟨va4,vc4,rfl,vl4,vm4,R4,HX4⟩:=oG h4;clear h4;obtain⟨va5,vc5,rfl,vl5,vm5,R5,HX5⟩:=oG h5;clear h5;obtain⟨HB0,HK0⟩:=aK w 32 #[.int .i64 x.zB,(.slice va1 x.zI.length vc1),(.slice va2 x.zG.length vc2),(.slice va3 x.zL.length vc3),(.slice va4 x.zK.length vc4),(.slice va5 x.zH.zC.length vc5)];have HV:=xN hv;have HF:=xN hf;have HRG:=xN hr;clear hv hr hf;have GX:=xN (show ∀ w',Below w.heap.size w w'→T.rds w' x.fs [.int .i64 x.zB,(.slice va1 x.zI.length vc1),(.slice va2 x.zG.length vc2),(.slice va3 x.zL.length vc3),(.slice va4 x.zK.length vc4),(.slice va5 x.zH.zC.length vc5)] from fun w' hb=>xO.rd_mk (T.yJ R1.o hb) (T.yJ R2.o hb) (T.xB.2 (Rd.below R3.o hb)) (T.yJ R4.o hb) (T.yJ R5.o hb));have hlen:=xK.1 HV.o.length;by_cases k5:ek=5
 ·
  have q5:(ek == 5)=true:=xA k5;have HR:=xN (rangeOf_5 (s:=x) (e:=⟨ek,et,ec,ev,⟨ns,nf,nl,na,ng⟩⟩) k5);clear k5;have HBa:=xN (HB0.o.alloc HB0.o.size (.cells #[.int .i64 ek,.int .i64 et,.int .i64 ec,.int .i64 ev,.int .i64 ns,.int .i64 nf,.int .i64 nl,.int .i64 na,.int .i64 ng] 41));have HP:=xN (HK0.o.alloc (.cells #[.int .i64 ek,.int .i64 et,.int .i64 ec,.int .i64 ev,.int .i64 ns,.int .i64 nf,.int .i64 nl,.int .i64 na,.int .i64 ng] 41));have HE:=xN (Bk.born1' w (.cells #[.int .i64 x.zB,(.slice va1 x.zI.length vc1),(.slice va2 x.zG.length vc2),(.slice va3 x.zL.length vc3),(.slice va4 x.zK.length vc4),(.slice va5 x.zH.zC.length vc5)] 32) 41 #[.int .i64 ek,.int .i64 et,.int .i64 ec,.int .i64 ev,.int .i64 ns,.int .i64 nf,.int .i64 nl,.int .i64 na,.int .i64 ng]);clear HB0 HK0;generalize hW4:((w.alloc (.cells #[.int .i64 x.zB,(.slice va1 x.zI.length vc1),(.slice va2 x.zG.length vc2),(.slice va3 x.zL.length vc3),(.slice va4 x.zK.length vc4),(.slice va5 x.zH.zC.length vc5)] 32)).alloc (.cells #[.int .i64 ek,.int .i64 et,.int .i64 ec,.int .i64 ev,.int .i64 ns,.int .i64 nf,.int .i64 nl,.int .i64 na,.int .i64 ng] 41))=W4 at *;have HW4:=xN hW4;clear hW4
  go_enter Tryz.func32,Tryz.ntmps32
  have hkp:=HP.o.cell;have hke:=HE.o.cell;go_wp2_with fail
  rw[HW4.o];have g0:=xM HP.o;have g1:=xM HE.o;refine rB ?_
  repeat(first|go_big_quiet_skip|(go_big_quiet_want;go_big_quiet_op;go_big_quiet_on))
  refine wpQuiet_nil ?_;rintro w9 ⟨uu,rfl⟩;have hb9:=yM W4 uu;generalize bel W4 uu=w9 at *;have HB9:=xN (yO HBa.o HBa.o.size hb9);clear hb9 g0 g1 hkp hke;go_wp2;refine bodyPost_ret (v:= .tuple #[.int .i64 0,.int .i64 x.zB]) (by simp[results,Tryz.results32,go_sem]) rfl ?_;exact⟨by rw[HR.o],HB9.o⟩
 have q5:(ek == 5)=false:=yZ k5;have hkind:ek=1∨ek=2∨ek=3∨ek=4:=by have:=wNz HF.o;dsimp only at this;omega
 obtain⟨k,t,hk,ht⟩:=vV HRG.o k5;obtain rfl:et=(k:Int):=hk;have hlf:k<x.zL.length:=by have h1:=(List.getElem?_eq_some_iff.1 ht).1;have h2:=HV.o.feed;omega
 have hgk:=gE hlf;have hfd:x.zL.getD k 0=x.zL[k]:=by rw[List.getD_eq_getElem?_getD,hgk];rfl
 have hfe:=HV.o.feeds _ _ hgk;generalize x.zL[k]=y at *;obtain⟨jy,rfl⟩: ∃ jy:Nat,y=(jy:Int):=⟨y.toNat,by omega⟩;have hjy:jy<x.zH.zC.length:=by omega
 obtain⟨b3,of3,hA3,hb3,hcell3⟩:=HX3.o k _ hgk;subst hA3;clear ht hfe;have hi0:(0:Int)≤(k:Int):=by omega
 have hi1:(k:Int)<(x.zL.length:Int):=by omega
 have HCO:=xN (changed_ok HV.o HF.o HRG.o k5);have HK5:=xN k5;clear k5;have IC:=xN (fun(W:World) (hb:Below w.heap.size w W)=>c_changedClips x _ ⟨ek,(k:Int),ec,ev,⟨ns,nf,nl,na,ng⟩⟩ W HV.o HRG.o hkind (GX.o W hb));have HFD:=xN hfd;clear hfd hgk;have HLA:=xN (show xDz x ⟨ek,(k:Int),ec,ev,⟨ns,nf,nl,na,ng⟩⟩↔Ring x (jy:Int)∨(ek=4∧Ring x ev) from by unfold xDz;dsimp only;rw[Int.toNat_natCast,HFD.o]);generalize hCL:wO x ⟨ek,(k:Int),ec,ev,⟨ns,nf,nl,na,ng⟩⟩=CL at *;have HCL:=xN hCL;clear hCL;have hsb:=span_bd HCO.o;have HRN:=xN (fun(h:CL= [])=>rangeOf_nil (s:=x) (e:=⟨ek,(k:Int),ec,ev,⟨ns,nf,nl,na,ng⟩⟩) HK5.o (HCL.o.trans h));have HRI:=xN (fun(h: ¬ CL= []) (m:Int) (hm:m=if tf (xDz x ⟨ek,(k:Int),ec,ev,⟨ns,nf,nl,na,ng⟩⟩)=true then x.zB else (uV CL).2)=>(by have:=rangeOf_in2 (s:=x) (e:=⟨ek,(k:Int),ec,ev,⟨ns,nf,nl,na,ng⟩⟩) HK5.o (fun e=>h (HCL.o.symm.trans e)) (m:=m) (by rw[HCL.o];exact hm);rw[HCL.o] at this;exact this:vH x ⟨ek,(k:Int),ec,ev,⟨ns,nf,nl,na,ng⟩⟩=if (uV CL).1<min m x.zB then ((uV CL).1,min m x.zB) else (0,0)));have HSL:=xN (span_lt HCO.o);obtain⟨sa,sb,hS⟩: ∃ sa sb,uV CL=(sa,sb):=⟨_,_,rfl⟩;have IS:=xN (fun(v:Value) (W:World) (h:T.rd W (T.sl 39 5 (CL.map xU.t)) [v])=>(by have:=c_spanOf v CL W HCO.o h;rw[hS] at this;exact this:Calls Tryz.prog 64 #[v] W fun e w'=>e= .returned (.tuple #[.int .i64 sa,.int .i64 sb])∧Below W.heap.size W w'));rw[hS] at HRI hsb HSL;have HS:=xN hS;clear hS hkind;dsimp only at hsb;have HBa:=xN (HB0.o.alloc HB0.o.size (.cells #[.int .i64 ek,.int .i64 (k:Int),.int .i64 ec,.int .i64 ev,.int .i64 ns,.int .i64 nf,.int .i64 nl,.int .i64 na,.int .i64 ng] 41));have HP:=xN (HK0.o.alloc (.cells #[.int .i64 ek,.int .i64 (k:Int),.int .i64 ec,.int .i64 ev,.int .i64 ns,.int .i64 nf,.int .i64 nl,.int .i64 na,.int .i64 ng] 41));have HE:=xN (Bk.born1' w (.cells #[.int .i64 x.zB,(.slice va1 x.zI.length vc1),(.slice va2 x.zG.length vc2),(.slice (some ⟨b3,of3,none⟩) x.zL.length vc3),(.slice va4 x.zK.length vc4),(.slice va5 x.zH.zC.length vc5)] 32) 41 #[.int .i64 ek,.int .i64 (k:Int),.int .i64 ec,.int .i64 ev,.int .i64 ns,.int .i64 nf,.int .i64 nl,.int .i64 na,.int .i64 ng]);clear HB0 HK0;generalize hW4:((w.alloc (.cells #[.int .i64 x.zB,(.slice va1 x.zI.length vc1),(.slice va2 x.zG.length vc2),(.slice (some ⟨b3,of3,none⟩) x.zL.length vc3),(.slice va4 x.zK.length vc4),(.slice va5 x.zH.zC.length vc5)] 32)).alloc (.cells #[.int .i64 ek,.int .i64 (k:Int),.int .i64 ec,.int .i64 ev,.int .i64 ns,.int .i64 nf,.int .i64 nl,.int .i64 na,.int .i64 ng] 41))=W4 at *;have HW4:=xN hW4;clear hW4
 go_enter Tryz.func32,Tryz.ntmps32
 have hkp:=HP.o.cell;have hke:=HE.o.cell;have lkp:=HP.o.lt;have lke:=HE.o.lt;go_wp2_with fail
 rw[HW4.o];refine(IC.o _ HBa.o).mono ?_;rintro e w1 ⟨v,rfl,hrd,hb⟩;have HRD:=xN hrd;have HB1:=xN (yO HBa.o HBa.o.size hb);have HP1:=xN (HP.o.below hb HP.o.lt);have HE1:=xN (HE.o.below hb HE.o.lt);clear hrd hb hkp hke lkp lke;obtain⟨vA,vL,vC,rfl⟩:=T.xD HRD.o;go_wp2_with fail
 refine(IS.o _ _ HRD.o).mono ?_;rintro e w2 ⟨rfl,hb⟩;have HB2:=xN (yO HB1.o HB1.o.size hb);have HP2:=xN (HP1.o.below hb HP1.o.lt);have HE2:=xN (HE1.o.below hb HE1.o.lt);clear hb;by_cases hn:CL= []
 ·
  have hz:sa=0∧sb=0:=by have h:=HS.o;rw[hn] at h;injection h with h1 h2;exact⟨h1.symm,h2.symm⟩
  obtain⟨rfl,rfl⟩:=hz;have HR:=xN (HRN.o hn);clear hn;go_wp2;refine bodyPost_ret (v:= .tuple #[.int .i64 0,.int .i64 0]) (by simp[results,Tryz.results32,go_sem]) rfl ?_;exact⟨by rw[HR.o],HB2.o⟩
 have hlt:=HSL.o hn;have HRI2:=xN (HRI.o hn);clear hn
 (try dsimp only at hlt);(try dsimp only at HRI2)
 have q0:(sa == sb)=false:=yZ zM;have HLT:=xN hlt;clear hlt;have RG:=xN (fun(j:Nat) (hj:j<x.zH.zC.length) (W:World) (hb:Below w.heap.size w W)=>c_rings x HV.o x.zH.zC.length j zM hj W _ (GX.o W hb));have hkp:=HP2.o.cell;have hke:=HE2.o.cell;have lkp:=HP2.o.lt;have lke:=HE2.o.lt;have m3:=(HB2.o.cell hb3).trans hcell3;have lb3:=zW hb3 HB2.o.size;go_wp2;by_cases hr1:Ring x (jy:Int)
 ·
  have HR1:=xN (xI hr1);have HR1':=xN hr1;clear hr1;have RG1:=xN (fun(W:World) (hb:Below w.heap.size w W)=>(by have:=RG.o jy hjy W hb;rw[HR1.o] at this;exact this:Calls Tryz.prog 66 #[.agg #[.int .i64 x.zB,(.slice va1 x.zI.length vc1),(.slice va2 x.zG.length vc2),(.slice (some ⟨b3,of3,none⟩) x.zL.length vc3),(.slice va4 x.zK.length vc4),(.slice va5 x.zH.zC.length vc5)],.int .i64 (jy:Int)] W fun e w'=>e= .returned (.bool true)∧Below W.heap.size W w'));clear hkp hke lkp lke m3 lb3;have m3:=yK ((HB2.o.cell hb3).trans hcell3);have g0:=xM HP2.o;have g1:=xM HE2.o;refine rB ?_
  repeat(first|go_big_quiet_skip|(go_big_quiet_want;go_big_quiet_op;first|go_big_quiet_on|(apply Exists.intro;refine⟨fun _=>?_,?_⟩;(· (first|(go_at_call_of 66 (Value.int IntKind.i64 (jy:Int));exact Calls.yQ (RG1.o _ (yO HB2.o HB2.o.size (yM w2 _))))));go_big_quiet_on)))
  refine wpQuiet_nil ?_;rintro w9 ⟨uu,rfl⟩;have hb9:=yM w2 uu;generalize bel w2 uu=w9 at *;have HB9:=xN (yO HB2.o HB2.o.size hb9);have HP9:=xN (HP2.o.below hb9 HP2.o.lt);clear hb9 g0 g1 m3;have hkp:=HP9.o.cell;have lkp:=HP9.o.lt;have HLS:=xN (xI (HLA.o.2 (.inl HR1'.o)));have HRF:=xN (HRI2.o x.zB (by rw[HLS.o];rfl));have c1: ¬ x.zB<x.zB:=by omega
  have HM:Sec (min x.zB x.zB=x.zB):=xN zM;by_cases c2:x.zB≤sa
  ·
   go_wp2;refine bodyPost_ret (v:= .tuple #[.int .i64 0,.int .i64 0]) (by simp[results,Tryz.results32,go_sem]) rfl ?_;exact⟨by rw[HRF.o,HM.o,if_neg zM],HB9.o⟩
  go_wp2;refine bodyPost_ret (v:= .tuple #[.int .i64 sa,.int .i64 x.zB]) (by simp[results,Tryz.results32,go_sem]) rfl ?_;exact⟨by rw[HRF.o,HM.o,if_pos zM],HB9.o⟩
 have HR1:=xN (xH hr1);have HR1':=xN hr1;clear hr1;by_cases k4:ek=4
 rotate_left
 ·
  have q4:(ek == 4)=false:=yZ k4;have HN4:=xN k4;clear k4;have RG1:=xN (fun(W:World) (hb:Below w.heap.size w W)=>(by have:=RG.o jy hjy W hb;rw[HR1.o] at this;exact this:Calls Tryz.prog 66 #[.agg #[.int .i64 x.zB,(.slice va1 x.zI.length vc1),(.slice va2 x.zG.length vc2),(.slice (some ⟨b3,of3,none⟩) x.zL.length vc3),(.slice va4 x.zK.length vc4),(.slice va5 x.zH.zC.length vc5)],.int .i64 (jy:Int)] W fun e w'=>e= .returned (.bool false)∧Below W.heap.size W w'));clear hkp hke lkp lke m3 lb3;have m3:=yK ((HB2.o.cell hb3).trans hcell3);have g0:=xM HP2.o;have g1:=xM HE2.o;refine rB ?_
  repeat(first|go_big_quiet_skip|(go_big_quiet_want;go_big_quiet_op;first|go_big_quiet_on|(apply Exists.intro;refine⟨fun _=>?_,?_⟩;(· (first|(go_at_call_of 66 (Value.int IntKind.i64 (jy:Int));exact Calls.yQ (RG1.o _ (yO HB2.o HB2.o.size (yM w2 _))))));go_big_quiet_on)))
  refine wpQuiet_nil ?_;rintro w9 ⟨uu,rfl⟩;have hb9:=yM w2 uu;generalize bel w2 uu=w9 at *;have HB9:=xN (yO HB2.o HB2.o.size hb9);have HP9:=xN (HP2.o.below hb9 HP2.o.lt);clear hb9 g0 g1 m3;have hkp:=HP9.o.cell;have lkp:=HP9.o.lt;have HLS:=xN (xH (fun h=>(HLA.o.1 h).elim HR1'.o (fun h=>HN4.o h.1)));have HRF:=xN (HRI2.o sb (by rw[HLS.o];rfl));by_cases c1:x.zB<sb
  ·
   have HM:Sec (min sb x.zB=x.zB):=xN zM;by_cases c2:x.zB≤sa
   ·
    go_wp2;refine bodyPost_ret (v:= .tuple #[.int .i64 0,.int .i64 0]) (by simp[results,Tryz.results32,go_sem]) rfl ?_;exact⟨by rw[HRF.o,HM.o,if_neg zM],HB9.o⟩
   go_wp2;refine bodyPost_ret (v:= .tuple #[.int .i64 sa,.int .i64 x.zB]) (by simp[results,Tryz.results32,go_sem]) rfl ?_;exact⟨by rw[HRF.o,HM.o,if_pos zM],HB9.o⟩
  have HM:Sec (min sb x.zB=sb):=xN zM;by_cases c2:sb≤sa
  ·
   go_wp2;refine bodyPost_ret (v:= .tuple #[.int .i64 0,.int .i64 0]) (by simp[results,Tryz.results32,go_sem]) rfl ?_;exact⟨by rw[HRF.o,HM.o,if_neg zM],HB9.o⟩
  go_wp2;refine bodyPost_ret (v:= .tuple #[.int .i64 sa,.int .i64 sb]) (by simp[results,Tryz.results32,go_sem]) rfl ?_;exact⟨by rw[HRF.o,HM.o,if_pos zM],HB9.o⟩
 have q4:(ek == 4)=true:=xA k4;have HK4:=xN k4;have hev:=HRG.o;unfold xZ at hev;rw[if_neg HK5.o] at hev;have hev:=hev.2;rw[if_neg (by dsimp only;omega),if_neg (by dsimp only;omega),if_neg (by dsimp only;omega)] at hev;have hev:=xK.1 hev;obtain⟨jv,rfl⟩: ∃ jv:Nat,ev=(jv:Int):=⟨ev.toNat,by dsimp only at hev;omega⟩;have hjv:jv<x.zH.zC.length:=by dsimp only at hev;omega
 clear hev k4;by_cases hr2:Ring x (jv:Int)
 ·
  have HR2:=xN (xI hr2);have HR2':=xN hr2;clear hr2;have RG1:=xN (fun(W:World) (hb:Below w.heap.size w W)=>(by have:=RG.o jy hjy W hb;rw[HR1.o] at this;exact this:Calls Tryz.prog 66 #[.agg #[.int .i64 x.zB,(.slice va1 x.zI.length vc1),(.slice va2 x.zG.length vc2),(.slice (some ⟨b3,of3,none⟩) x.zL.length vc3),(.slice va4 x.zK.length vc4),(.slice va5 x.zH.zC.length vc5)],.int .i64 (jy:Int)] W fun e w'=>e= .returned (.bool false)∧Below W.heap.size W w'));have RG2:=xN (fun(W:World) (hb:Below w.heap.size w W)=>(by have:=RG.o jv hjv W hb;rw[HR2.o] at this;exact this:Calls Tryz.prog 66 #[.agg #[.int .i64 x.zB,(.slice va1 x.zI.length vc1),(.slice va2 x.zG.length vc2),(.slice (some ⟨b3,of3,none⟩) x.zL.length vc3),(.slice va4 x.zK.length vc4),(.slice va5 x.zH.zC.length vc5)],.int .i64 (jv:Int)] W fun e w'=>e= .returned (.bool true)∧Below W.heap.size W w'));clear hkp hke lkp lke m3 lb3;have m3:=yK ((HB2.o.cell hb3).trans hcell3);have g0:=xM HP2.o;have g1:=xM HE2.o;refine rB ?_
  repeat(first|go_big_quiet_skip|(go_big_quiet_want;go_big_quiet_op;first|go_big_quiet_on|(apply Exists.intro;refine⟨fun _=>?_,?_⟩;(· (first|(go_at_call_of 66 (Value.int IntKind.i64 (jy:Int));exact Calls.yQ (RG1.o _ (yO HB2.o HB2.o.size (yM w2 _))))|(go_at_call_of 66 (Value.int IntKind.i64 (jv:Int));exact Calls.yQ (RG2.o _ (yO HB2.o HB2.o.size (yM w2 _))))));go_big_quiet_on)))
  refine wpQuiet_nil ?_;rintro w9 ⟨uu,rfl⟩;have hb9:=yM w2 uu;generalize bel w2 uu=w9 at *;have HB9:=xN (yO HB2.o HB2.o.size hb9);have HP9:=xN (HP2.o.below hb9 HP2.o.lt);clear hb9 g0 g1 m3;have hkp:=HP9.o.cell;have lkp:=HP9.o.lt;have HLS:=xN (xI (HLA.o.2 (.inr ⟨HK4.o,HR2'.o⟩)));have HRF:=xN (HRI2.o x.zB (by rw[HLS.o];rfl));have c1: ¬ x.zB<x.zB:=by omega
  have HM:Sec (min x.zB x.zB=x.zB):=xN zM;by_cases c2:x.zB≤sa
  ·
   go_wp2;refine bodyPost_ret (v:= .tuple #[.int .i64 0,.int .i64 0]) (by simp[results,Tryz.results32,go_sem]) rfl ?_;exact⟨by rw[HRF.o,HM.o,if_neg zM],HB9.o⟩
  go_wp2;refine bodyPost_ret (v:= .tuple #[.int .i64 sa,.int .i64 x.zB]) (by simp[results,Tryz.results32,go_sem]) rfl ?_;exact⟨by rw[HRF.o,HM.o,if_pos zM],HB9.o⟩
 have HR2:=xN (xH hr2);have HR2':=xN hr2;clear hr2;have RG1:=xN (fun(W:World) (hb:Below w.heap.size w W)=>(by have:=RG.o jy hjy W hb;rw[HR1.o] at this;exact this:Calls Tryz.prog 66 #[.agg #[.int .i64 x.zB,(.slice va1 x.zI.length vc1),(.slice va2 x.zG.length vc2),(.slice (some ⟨b3,of3,none⟩) x.zL.length vc3),(.slice va4 x.zK.length vc4),(.slice va5 x.zH.zC.length vc5)],.int .i64 (jy:Int)] W fun e w'=>e= .returned (.bool false)∧Below W.heap.size W w'));have RG2:=xN (fun(W:World) (hb:Below w.heap.size w W)=>(by have:=RG.o jv hjv W hb;rw[HR2.o] at this;exact this:Calls Tryz.prog 66 #[.agg #[.int .i64 x.zB,(.slice va1 x.zI.length vc1),(.slice va2 x.zG.length vc2),(.slice (some ⟨b3,of3,none⟩) x.zL.length vc3),(.slice va4 x.zK.length vc4),(.slice va5 x.zH.zC.length vc5)],.int .i64 (jv:Int)] W fun e w'=>e= .returned (.bool false)∧Below W.heap.size W w'));clear hkp hke lkp lke m3 lb3;have m3:=yK ((HB2.o.cell hb3).trans hcell3);have g0:=xM HP2.o;have g1:=xM HE2.o;refine rB ?_
 repeat(first|go_big_quiet_skip|(go_big_quiet_want;go_big_quiet_op;first|go_big_quiet_on|(apply Exists.intro;refine⟨fun _=>?_,?_⟩;(· (first|(go_at_call_of 66 (Value.int IntKind.i64 (jy:Int));exact Calls.yQ (RG1.o _ (yO HB2.o HB2.o.size (yM w2 _))))|(go_at_call_of 66 (Value.int IntKind.i64 (jv:Int));exact Calls.yQ (RG2.o _ (yO HB2.o HB2.o.size (yM w2 _))))));go_big_quiet_on)))
 refine wpQuiet_nil ?_;rintro w9 ⟨uu,rfl⟩;have hb9:=yM w2 uu;generalize bel w2 uu=w9 at *;have HB9:=xN (yO HB2.o HB2.o.size hb9);have HP9:=xN (HP2.o.below hb9 HP2.o.lt);clear hb9 g0 g1 m3;have hkp:=HP9.o.cell;have lkp:=HP9.o.lt;have HLS:=xN (xH (fun h=>(HLA.o.1 h).elim HR1'.o (fun h=>HR2'.o h.2)));have HRF:=xN (HRI2.o sb (by rw[HLS.o];rfl));by_cases c1:x.zB<sb
 ·
  have HM:Sec (min sb x.zB=x.zB):=xN zM;by_cases c2:x.zB≤sa
  ·
   go_wp2;refine bodyPost_ret (v:= .tuple #[.int .i64 0,.int .i64 0]) (by simp[results,Tryz.results32,go_sem]) rfl ?_;exact⟨by rw[HRF.o,HM.o,if_neg zM],HB9.o⟩
  go_wp2;refine bodyPost_ret (v:= .tuple #[.int .i64 sa,.int .i64 x.zB]) (by simp[results,Tryz.results32,go_sem]) rfl ?_;exact⟨by rw[HRF.o,HM.o,if_pos zM],HB9.o⟩
 have HM:Sec (min sb x.zB=sb):=xN zM;by_cases c2:sb≤sa
 ·
  go_wp2;refine bodyPost_ret (v:= .tuple #[.int .i64 0,.int .i64 0]) (by simp[results,Tryz.results32,go_sem]) rfl ?_;exact⟨by rw[HRF.o,HM.o,if_neg zM],HB9.o⟩
 go_wp2;refine bodyPost_ret (v:= .tuple #[.int .i64 sa,.int .i64 sb]) (by simp[results,Tryz.results32,go_sem]) rfl ?_;exact⟨by rw[HRF.o,HM.o,if_pos zM],HB9.o⟩
end
section
open Go.RowKit
theorem dirtyF_no {s:xO} {e:wV} (h: ¬ (wQ s e).2=0):wSz s e=(0,0,(wQ s e).2):=by unfold wSz;rw[if_neg h]
theorem dirtyF_yes {s:xO} {e:wV} (h:(wQ s e).2=0):wSz s e=((vH s e).1,(vH s e).2,0):=by unfold wSz;rw[if_pos h]
theorem c_iDirtyRange (x:xO) (cs:List Value) (ed:wV) (w:World) (hs:x.small) (h:T.rds w x.fs cs):Calls Tryz.prog 13 #[.agg cs.toArray,.agg #[.int .i64 ed.zD,.int .i64 ed.yD,.int .i64 ed.yG,.int .i64 ed.yF,.int .i64 ed.yC.zV,.int .i64 ed.yC.zO,.int .i64 ed.yC.zB,.int .i64 ed.yC.yE,.int .i64 ed.yC.yB]] w fun e w'=>e= .returned (.tuple #[.int .i64 (wSz x ed).1,.int .i64 (wSz x ed).2.1,.int .i64 (wSz x ed).2.2])∧Below w.heap.size w w':=by
 obtain⟨v1,v2,v3,v4,v5,rfl,h1,h2,h3,h4,h5⟩:=xO.yT h;clear h;obtain⟨va1,vc1,rfl,vl1,vm1,R1,HX1⟩:=oG h1;clear h1;obtain⟨va2,vc2,rfl,vl2,vm2,R2,HX2⟩:=oG h2;clear h2;obtain⟨va3,vc3,rfl,vl3,vm3,R3,HX3⟩:=oI h3;clear h3;obtain⟨va4,vc4,rfl,vl4,vm4,R4,HX4⟩:=oG h4;clear h4;obtain⟨va5,vc5,rfl,vl5,vm5,R5,HX5⟩:=oG h5;clear h5;obtain⟨HB0,HK0⟩:=aK w 32 #[.int .i64 x.zB,(.slice va1 x.zI.length vc1),(.slice va2 x.zG.length vc2),(.slice va3 x.zL.length vc3),(.slice va4 x.zK.length vc4),(.slice va5 x.zH.zC.length vc5)];have HSM:=xN hs;clear hs;have GX:=xN (show ∀ w',Below w.heap.size w w'→T.rds w' x.fs [.int .i64 x.zB,(.slice va1 x.zI.length vc1),(.slice va2 x.zG.length vc2),(.slice va3 x.zL.length vc3),(.slice va4 x.zK.length vc4),(.slice va5 x.zH.zC.length vc5)] from fun w' hb=>xO.rd_mk (T.yJ R1.o hb) (T.yJ R2.o hb) (T.xB.2 (Rd.below R3.o hb)) (T.yJ R4.o hb) (T.yJ R5.o hb));have IA:=xN (fun(W:World) (hb:Below w.heap.size w W)=>wVz x _ ed W HSM.o (GX.o W hb));have ID:=xN (fun(W:World) (hb:Below w.heap.size w W) (hc:(wQ x ed).2=0)=>c_dirtyRange x _ ed W (xIz hc).1 (xIz hc).2.1 (xIz hc).2.2.1 (GX.o W hb));have D0:=xN (@dirtyF_no x ed);have D1:=xN (@dirtyF_yes x ed);have HBa:=xN (HB0.o.alloc HB0.o.size (.cells #[.int .i64 ed.zD,.int .i64 ed.yD,.int .i64 ed.yG,.int .i64 ed.yF,.int .i64 ed.yC.zV,.int .i64 ed.yC.zO,.int .i64 ed.yC.zB,.int .i64 ed.yC.yE,.int .i64 ed.yC.yB] 41));have HP:=xN (HK0.o.alloc (.cells #[.int .i64 ed.zD,.int .i64 ed.yD,.int .i64 ed.yG,.int .i64 ed.yF,.int .i64 ed.yC.zV,.int .i64 ed.yC.zO,.int .i64 ed.yC.zB,.int .i64 ed.yC.yE,.int .i64 ed.yC.yB] 41));have HE:=xN (Bk.born1' w (.cells #[.int .i64 x.zB,(.slice va1 x.zI.length vc1),(.slice va2 x.zG.length vc2),(.slice va3 x.zL.length vc3),(.slice va4 x.zK.length vc4),(.slice va5 x.zH.zC.length vc5)] 32) 41 #[.int .i64 ed.zD,.int .i64 ed.yD,.int .i64 ed.yG,.int .i64 ed.yF,.int .i64 ed.yC.zV,.int .i64 ed.yC.zO,.int .i64 ed.yC.zB,.int .i64 ed.yC.yE,.int .i64 ed.yC.yB]);clear HB0 HK0;generalize hW4:((w.alloc (.cells #[.int .i64 x.zB,(.slice va1 x.zI.length vc1),(.slice va2 x.zG.length vc2),(.slice va3 x.zL.length vc3),(.slice va4 x.zK.length vc4),(.slice va5 x.zH.zC.length vc5)] 32)).alloc (.cells #[.int .i64 ed.zD,.int .i64 ed.yD,.int .i64 ed.yG,.int .i64 ed.yF,.int .i64 ed.yC.zV,.int .i64 ed.yC.zO,.int .i64 ed.yC.zB,.int .i64 ed.yC.yE,.int .i64 ed.yC.yB] 41))=W4 at *;have HW4:=xN hW4;clear hW4;generalize hDF:wSz x ed=DF at *;clear hDF
 go_enter Tryz.func13,Tryz.ntmps13
 go_wp2_with fail
 rw[HW4.o];refine(IA.o _ HBa.o).mono ?_;rintro e wA ⟨v1,v2,v3,v4,v5,F,rfl,hN⟩;have hb:=hN.below;obtain⟨⟨A1,L1,C1,rfl⟩,⟨A2,L2,C2,rfl⟩,⟨A3,L3,C3,rfl⟩,⟨A4,L4,C4,rfl⟩,⟨A5,L5,C5,rfl⟩⟩:=xO.sl5 (T.ows_rds _ _ _ hN.ows);clear hN;generalize wQ x ed=AF at *;have HX:=xN (show Below W4.heap.size W4 (wA.alloc (.cells #[.int .i64 AF.1.zB,.slice A1 L1 C1,.slice A2 L2 C2,.slice A3 L3 C3,.slice A4 L4 C4,.slice A5 L5 C5] 32)) from hb.alloc hb.size _);have HB2:=xN (yO HBa.o HBa.o.size HX.o);have HP2:=xN (HP.o.below HX.o HP.o.lt);have HE2:=xN (HE.o.below HX.o HE.o.lt);have HP1:=xN (HP.o.below hb HP.o.lt);have HE1:=xN (HE.o.below hb HE.o.lt);clear hb;have kp:=HP1.o.cell;have lp:=HP1.o.lt;have ke:=HE1.o.cell;have le:=HE1.o.lt;by_cases hc:AF.2=0
 rotate_left
 ·
  have q0:(AF.2 != 0)=true:=ySz hc;have HD:=xN (D0.o hc);clear hc;go_wp2;refine bodyPost_ret (v:= .tuple #[.int .i64 0,.int .i64 0,.int .i64 AF.2]) (by simp[results,Tryz.results13,go_sem]) rfl ?_;exact⟨by rw[HD.o],HB2.o⟩
 have q0:(AF.2 != 0)=false:=yTz hc;have HD:=xN (D1.o hc);have HC:=xN hc;clear hc;go_wp2_with fail
 refine(ID.o _ HB2.o HC.o).mono ?_;rintro e wB ⟨rfl,hb⟩;have HB3:=xN (yO HB2.o HB2.o.size hb);clear hb;go_wp2;refine bodyPost_ret (v:= .tuple #[.int .i64 (vH x ed).1,.int .i64 (vH x ed).2,.int .i64 0]) (by simp[results,Tryz.results13,go_sem]) rfl ?_;exact⟨by rw[HD.o],HB3.o⟩
end
section
open Go.RowKit
theorem xDy (x:xO) (cs:List Value) (w:World) (hS:xW x) (hs:x.small) (h:T.rds w x.fs cs):Calls Tryz.prog 14 #[.agg cs.toArray] w fun e w'=> ∃ v,e= .returned (.tuple #[v,.int .i64 0])∧RdI w' v (mixF x)∧Below w.heap.size w w':=by
 obtain⟨v1,v2,v3,v4,v5,rfl,h1,h2,h3,h4,h5⟩:=xO.yT h;obtain⟨⟨A1,L1,C1,rfl⟩,⟨A2,L2,C2,rfl⟩,⟨A3,L3,C3,rfl⟩,⟨A4,L4,C4,rfl⟩,⟨A5,L5,C5,rfl⟩⟩:=xO.sl5 h;have HS:=xN hS;have HSM:=xN hs;have hb:=(show Below w.heap.size w (w.alloc (.cells #[.int .i64 x.zB,.slice A1 L1 C1,.slice A2 L2 C2,.slice A3 L3 C3,.slice A4 L4 C4,.slice A5 L5 C5] 32)) from zR.alloc zJ _);have HB:=xN hb;have HK:=xN (Bk.born w 32 #[.int .i64 x.zB,.slice A1 L1 C1,.slice A2 L2 C2,.slice A3 L3 C3,.slice A4 L4 C4,.slice A5 L5 C5]);have HAT:=xN (T.at_bk HK.o (T.rds_below' h hb));clear h h1 h2 h3 h4 h5 hS hs hb
 go_enter Tryz.func14,Tryz.ntmps14
 go_wp2_with fail
 refine(c_l27Ok x w.heap.size 0 _ HSM.o HAT.o).mono ?_;rw[xI HS.o];rintro e w1 ⟨rfl,hb⟩;have HB1:=xN (yO HB.o HB.o.size hb);have HA1:=xN (T.at_below HAT.o hb);clear hb;go_wp2_with fail
 refine(c_l27Mix x w.heap.size 0 _ HS.o HS.o.good HA1.o).mono ?_;rintro e w2 ⟨v,rfl,ho,hb⟩;have HB2:=xN (yO HB1.o HB1.o.size hb);have HO:=xN ho;clear hb ho;obtain⟨vA,vL,vC,rfl⟩:=T.xE (T.ow_ints.2 ⟨HO.o.more (Nat.zero_le _),rfl⟩);go_wp2
 go_ret2
 exact⟨_,rfl,HO.o.rd,HB2.o⟩
theorem doE_len (s:xO) (e:wV):(doE s e).zB=s.zB:=by
 unfold doE
 split
 ·rfl
 ·split<;>rfl
theorem edit_mix {s:xO} {e:wV} (h:(wQ s e).2=0):xW (wQ s e).1∧xW s∧(mixF (wQ s e).1).length=(mixF s).length∧(0≤(vH s e).1∧(vH s e).1≤(vH s e).2∧(vH s e).2≤s.zB)∧
  ∀ (k:Nat) (a b:Int),(mixF s)[k]?=some a→(mixF (wQ s e).1)[k]?=some b→a=b∨((vH s e).1≤(k:Int)∧(k:Int)<(vH s e).2):=by
 obtain⟨h1,h2,h3,_,h5,h6⟩:=xIz h;have hr:=rangeOf_in h1 h2 h3;rw[h6];refine⟨h5,h1,by rw[vJz,vJz,doE_len],⟨hr.1,hr.2.1,hr.2.2.1⟩,fun k a b ha hb=>?_⟩;by_cases hk:(vH s e).1≤(k:Int)∧(k:Int)<(vH s e).2
 ·exact .inr hk
 ·refine .inl ?_
  have hlt:=(List.getElem?_eq_some_iff.1 ha).1;rw[vJz] at hlt;have hm:=mix_range h (i:=k) zM hk;rw[List.getD_eq_getElem?_getD,List.getD_eq_getElem?_getD,ha,hb] at hm;exact hm.symm
theorem law_Edits (v:Value) (bs:List UInt8) (w:World) (h:RdY w v bs):Calls Tryz.prog 4 #[v] w fun e w'=>e= .returned (.bool true)∧Below w.heap.size w w':=by
 have H:=xN h;clear h;by_cases hl:1048576<bs.length
 ·
  have HD:=xN (decide_eq_true hl);clear hl
  go_enter Tryz.func4,Tryz.ntmps4
  go_wp2_with fail
  refine(c_b10Long _ bs _ H.o).mono ?_;rw[HD.o];rintro e _ ⟨rfl,rfl⟩;go_wp2;go_ret
  exact⟨rfl,zR⟩
 have HD:=xN (decide_eq_false hl)
 go_enter Tryz.func4,Tryz.ntmps4
 go_wp2_with fail
 refine(c_b10Long _ bs _ H.o).mono ?_;rw[HD.o];rintro e _ ⟨rfl,rfl⟩;go_wp2_with fail
 refine(xEy _ bs _ H.o zM).mono ?_;rintro e w1 ⟨x,ed,A1,L1,C1,A2,L2,C2,A3,L3,C3,A4,L4,C4,A5,L5,C5,F0,rfl,hok,hrd,-,hb⟩;have HB1:=xN hb;have HX:=xN (hrd w1 (fun _ _=>rfl));have HXS:=xN hok.small;clear hb hrd hok;have H3:=xN ((Bk.born w1 32 #[.int .i64 x.zB,.slice A1 L1 C1,.slice A2 L2 C2,.slice A3 L3 C3,.slice A4 L4 C4,.slice A5 L5 C5]).alloc (.cells #[.int .i64 ed.zD,.int .i64 ed.yD,.int .i64 ed.yG,.int .i64 ed.yF,.int .i64 ed.yC.zV,.int .i64 ed.yC.zO,.int .i64 ed.yC.zB,.int .i64 ed.yC.yE,.int .i64 ed.yC.yB] 41));have H4:=xN (Bk.born1' w1 (.cells #[.int .i64 x.zB,.slice A1 L1 C1,.slice A2 L2 C2,.slice A3 L3 C3,.slice A4 L4 C4,.slice A5 L5 C5] 32) 41 #[.int .i64 ed.zD,.int .i64 ed.yD,.int .i64 ed.yG,.int .i64 ed.yF,.int .i64 ed.yC.zV,.int .i64 ed.yC.zO,.int .i64 ed.yC.zB,.int .i64 ed.yC.yE,.int .i64 ed.yC.yB]);have HBA:=xN (show Below w1.heap.size w1 ((w1.alloc (.cells #[.int .i64 x.zB,.slice A1 L1 C1,.slice A2 L2 C2,.slice A3 L3 C3,.slice A4 L4 C4,.slice A5 L5 C5] 32)).alloc (.cells #[.int .i64 ed.zD,.int .i64 ed.yD,.int .i64 ed.yG,.int .i64 ed.yF,.int .i64 ed.yC.zV,.int .i64 ed.yC.zO,.int .i64 ed.yC.zB,.int .i64 ed.yC.yE,.int .i64 ed.yC.yB] 41)) from(zR.alloc zJ _).alloc (by simp) _);obtain⟨q,hq⟩: ∃ q,q=(wQ x ed).1:=⟨_,rfl⟩;obtain⟨cd,hcd⟩: ∃ c,c=(wQ x ed).2:=⟨_,rfl⟩;have hA:=fun(W:World) (h:T.rds W x.fs [.int .i64 x.zB,.slice A1 L1 C1,.slice A2 L2 C2,.slice A3 L3 C3,.slice A4 L4 C4,.slice A5 L5 C5])=>wVz x [.int .i64 x.zB,.slice A1 L1 C1,.slice A2 L2 C2,.slice A3 L3 C3,.slice A4 L4 C4,.slice A5 L5 C5] ed W HXS.o h
 rw[←hq,←hcd] at hA;have HA:=xN hA;clear hA;have hI2:(invF x ed).2=cd:=by rw[hcd];unfold invF;split;(· next h=>exact h.symm);(· rfl)
 have hD2:(wSz x ed).2.2=cd:=by rw[hcd];unfold wSz;split;(· next h=>exact h.symm);(· rfl)
 have hI:=fun(W:World) (h:T.rds W x.fs [.int .i64 x.zB,.slice A1 L1 C1,.slice A2 L2 C2,.slice A3 L3 C3,.slice A4 L4 C4,.slice A5 L5 C5])=>c_iInvertEdit x [.int .i64 x.zB,.slice A1 L1 C1,.slice A2 L2 C2,.slice A3 L3 C3,.slice A4 L4 C4,.slice A5 L5 C5] ed W HXS.o h
 have hDR:=fun(W:World) (h:T.rds W x.fs [.int .i64 x.zB,.slice A1 L1 C1,.slice A2 L2 C2,.slice A3 L3 C3,.slice A4 L4 C4,.slice A5 L5 C5])=>c_iDirtyRange x [.int .i64 x.zB,.slice A1 L1 C1,.slice A2 L2 C2,.slice A3 L3 C3,.slice A4 L4 C4,.slice A5 L5 C5] ed W HXS.o h
 simp only[hI2] at hI;simp only[hD2] at hDR;have HQS:=xN (fun h0=>(applyF_small (e:=ed) HXS.o h0).1);have HMX:=xN (@edit_mix x ed);have HAB:=xN (@apply_back x ed);have HIV:=xN (fun(h0:(wQ x ed).2=0)=>(show invF x ed=(uI x ed,0) by unfold invF;rw[if_pos h0]));have HDF:=xN (fun(h0:(wQ x ed).2=0)=>dirtyF_yes h0);rw[←hq,←hcd] at HMX HAB;rw[←hcd] at HIV HDF;rw[←hq,←hcd] at HQS;clear hq hcd hI2 hD2;obtain⟨iv,hiv⟩: ∃ i,i=(invF x ed).1:=⟨_,rfl⟩;rw[←hiv] at hI;obtain⟨r1,hr1⟩: ∃ i,i=(wSz x ed).1:=⟨_,rfl⟩;obtain⟨r2,hr2⟩: ∃ i,i=(wSz x ed).2.1:=⟨_,rfl⟩;rw[←hr1,←hr2] at hDR;dsimp only[wV.cs] at hI;have HI:=xN hI;have HDR:=xN hDR;have HEI:=xN hiv;have HE1:=xN hr1;have HE2:=xN hr2;clear hI hDR hiv hr1 hr2;go_wp2_with fail
 refine(HA.o _ (T.rds_below' HX.o HBA.o)).mono ?_;rintro e w2 ⟨v1,v2,v3,v4,v5,F,rfl,hN⟩;obtain⟨⟨B1,M1,D1,rfl⟩,⟨B2,M2,D2,rfl⟩,⟨B3,M3,D3,rfl⟩,⟨B4,M4,D4,rfl⟩,⟨B5,M5,D5,rfl⟩⟩:=xO.sl5 (T.ows_rds _ _ _ hN.ows);have hb:=hN.below;have HQ:=xN (T.ows_rds _ _ _ hN.ows);clear hN;have HW1:=xN HBA.o;clear HBA;have HW2:=xN (yO HW1.o HW1.o.size hb);replace H3:=xN (H3.o.below hb H3.o.lt);replace H4:=xN (H4.o.below hb H4.o.lt);clear hb HW1;have kH3:=H3.o.cell;have lH3:=H3.o.lt;have kH4:=H4.o.cell;have lH4:=H4.o.lt;replace H3:=xN (H3.o.alloc (.cells #[.int .i64 q.zB,.slice B1 M1 D1,.slice B2 M2 D2,.slice B3 M3 D3,.slice B4 M4 D4,.slice B5 M5 D5] 32));replace H4:=xN (H4.o.alloc (.cells #[.int .i64 q.zB,.slice B1 M1 D1,.slice B2 M2 D2,.slice B3 M3 D3,.slice B4 M4 D4,.slice B5 M5 D5] 32));have H5:=xN (Bk.born w2 32 #[.int .i64 q.zB,.slice B1 M1 D1,.slice B2 M2 D2,.slice B3 M3 D3,.slice B4 M4 D4,.slice B5 M5 D5]);replace HW2:=xN (HW2.o.alloc HW2.o.size (.cells #[.int .i64 q.zB,.slice B1 M1 D1,.slice B2 M2 D2,.slice B3 M3 D3,.slice B4 M4 D4,.slice B5 M5 D5] 32));replace HQ:=xN (T.rds_below' HQ.o (zR.alloc zJ (.cells #[.int .i64 q.zB,.slice B1 M1 D1,.slice B2 M2 D2,.slice B3 M3 D3,.slice B4 M4 D4,.slice B5 M5 D5] 32)));go_wp2_with fail
 refine(HI.o _ (T.rds_below' HX.o HW2.o)).mono ?_;rintro e w3 ⟨rfl,hb⟩;replace HQ:=xN (T.rds_below' HQ.o hb);clear kH3 lH3;clear kH4 lH4;have HW3:=xN (yO HW2.o HW2.o.size hb);replace H3:=xN (H3.o.below hb H3.o.lt);replace H4:=xN (H4.o.below hb H4.o.lt);replace H5:=xN (H5.o.below hb H5.o.lt);clear hb HW2;have kH3:=H3.o.cell;have lH3:=H3.o.lt;have kH4:=H4.o.cell;have lH4:=H4.o.lt;replace H3:=xN (H3.o.alloc (.cells #[.int .i64 iv.zD,.int .i64 iv.yD,.int .i64 iv.yG,.int .i64 iv.yF,.int .i64 iv.yC.zV,.int .i64 iv.yC.zO,.int .i64 iv.yC.zB,.int .i64 iv.yC.yE,.int .i64 iv.yC.yB] 41));replace H4:=xN (H4.o.alloc (.cells #[.int .i64 iv.zD,.int .i64 iv.yD,.int .i64 iv.yG,.int .i64 iv.yF,.int .i64 iv.yC.zV,.int .i64 iv.yC.zO,.int .i64 iv.yC.zB,.int .i64 iv.yC.yE,.int .i64 iv.yC.yB] 41));replace H5:=xN (H5.o.alloc (.cells #[.int .i64 iv.zD,.int .i64 iv.yD,.int .i64 iv.yG,.int .i64 iv.yF,.int .i64 iv.yC.zV,.int .i64 iv.yC.zO,.int .i64 iv.yC.zB,.int .i64 iv.yC.yE,.int .i64 iv.yC.yB] 41));have H7:=xN (Bk.born w3 41 #[.int .i64 iv.zD,.int .i64 iv.yD,.int .i64 iv.yG,.int .i64 iv.yF,.int .i64 iv.yC.zV,.int .i64 iv.yC.zO,.int .i64 iv.yC.zB,.int .i64 iv.yC.yE,.int .i64 iv.yC.yB]);replace HW3:=xN (HW3.o.alloc HW3.o.size (.cells #[.int .i64 iv.zD,.int .i64 iv.yD,.int .i64 iv.yG,.int .i64 iv.yF,.int .i64 iv.yC.zV,.int .i64 iv.yC.zO,.int .i64 iv.yC.zB,.int .i64 iv.yC.yE,.int .i64 iv.yC.yB] 41));replace HQ:=xN (T.rds_below' HQ.o (zR.alloc zJ (.cells #[.int .i64 iv.zD,.int .i64 iv.yD,.int .i64 iv.yG,.int .i64 iv.yF,.int .i64 iv.yC.zV,.int .i64 iv.yC.zO,.int .i64 iv.yC.zB,.int .i64 iv.yC.yE,.int .i64 iv.yC.yB] 41)));go_wp2_with fail
 refine(HDR.o _ (T.rds_below' HX.o HW3.o)).mono ?_;rintro e w4 ⟨rfl,hb⟩;replace HQ:=xN (T.rds_below' HQ.o hb);clear kH3 lH3;clear kH4 lH4;have HW4:=xN (yO HW3.o HW3.o.size hb);replace H3:=xN (H3.o.below hb H3.o.lt);replace H4:=xN (H4.o.below hb H4.o.lt);replace H5:=xN (H5.o.below hb H5.o.lt);replace H7:=xN (H7.o.below hb H7.o.lt);clear hb HW3;have HBW:=xN (yO HB1.o HB1.o.size HW4.o);have bcc:(cd != cd)=false:=by simp
 by_cases hc0:cd=0
 rotate_left
 ·
  have bc0:(cd != 0)=true:=by simpa using hc0
  go_wp2;go_ret
  exact⟨rfl,HBW.o⟩
 subst hc0;obtain⟨hqo,hxo,hlen,hr,hpt⟩:=HMX.o rfl;have hdf:=HDF.o rfl;rw[hdf] at HE1 HE2;have e1:=HE1.o;have e2:=HE2.o;dsimp only at e1 e2;rw[←e1,←e2] at hr;simp only[←e1,←e2] at hpt;clear e1 e2 hdf;obtain⟨hr0,hr1,hr2⟩:=hr;have hivv:=HEI.o;rw[HIV.o rfl] at hivv;dsimp only at hivv;have hab:=HAB.o rfl;rw[←hivv] at hab;have hQA:=fun(W:World) (h:T.rds W q.fs [.int .i64 q.zB,.slice B1 M1 D1,.slice B2 M2 D2,.slice B3 M3 D3,.slice B4 M4 D4,.slice B5 M5 D5])=>wVz q [.int .i64 q.zB,.slice B1 M1 D1,.slice B2 M2 D2,.slice B3 M3 D3,.slice B4 M4 D4,.slice B5 M5 D5] iv W (HQS.o rfl) h
 rw[hab] at hQA;dsimp only at hQA;have HQA:=xN hQA;have HPT:=xN hpt;have HQO:=xN hqo;have HXO:=xN hxo;have HQM:=xN (HQS.o rfl);clear hQA hpt hqo hxo hivv hab HE1 HE2 HEI HIV HDF HAB HMX HQS HA HI HDR;have kH5:=H5.o.cell;have lH5:=H5.o.lt;have kH7:=H7.o.cell;have lH7:=H7.o.lt;have kH3:=H3.o.cell;have lH3:=H3.o.lt;go_wp2_with fail
 refine(HQA.o _ HQ.o).mono ?_;rintro e w5 ⟨v1,v2,v3,v4,v5,F2,rfl,hN⟩;obtain⟨⟨P1,N1,R1,rfl⟩,⟨P2,N2,R2,rfl⟩,⟨P3,N3,R3,rfl⟩,⟨P4,N4,R4,rfl⟩,⟨P5,N5,R5,rfl⟩⟩:=xO.sl5 (T.ows_rds _ _ _ hN.ows);have hb:=hN.below;have HY:=xN (T.ows_rds _ _ _ hN.ows);replace HQ:=xN (T.rds_below' HQ.o hb);clear hN;clear kH5 lH5;clear kH7 lH7;clear kH3 lH3;have HW5:=xN (yO HW4.o HW4.o.size hb);replace H3:=xN (H3.o.below hb H3.o.lt);replace H4:=xN (H4.o.below hb H4.o.lt);replace H5:=xN (H5.o.below hb H5.o.lt);replace H7:=xN (H7.o.below hb H7.o.lt);clear hb HW4;have kH3:=H3.o.cell;have lH3:=H3.o.lt;have kH5:=H5.o.cell;have lH5:=H5.o.lt;replace H3:=xN (H3.o.alloc (.cells #[.int .i64 x.zB,.slice P1 N1 R1,.slice P2 N2 R2,.slice P3 N3 R3,.slice P4 N4 R4,.slice P5 N5 R5] 32));replace H4:=xN (H4.o.alloc (.cells #[.int .i64 x.zB,.slice P1 N1 R1,.slice P2 N2 R2,.slice P3 N3 R3,.slice P4 N4 R4,.slice P5 N5 R5] 32));replace H5:=xN (H5.o.alloc (.cells #[.int .i64 x.zB,.slice P1 N1 R1,.slice P2 N2 R2,.slice P3 N3 R3,.slice P4 N4 R4,.slice P5 N5 R5] 32));replace H7:=xN (H7.o.alloc (.cells #[.int .i64 x.zB,.slice P1 N1 R1,.slice P2 N2 R2,.slice P3 N3 R3,.slice P4 N4 R4,.slice P5 N5 R5] 32));have H12:=xN (Bk.born w5 32 #[.int .i64 x.zB,.slice P1 N1 R1,.slice P2 N2 R2,.slice P3 N3 R3,.slice P4 N4 R4,.slice P5 N5 R5]);replace HW5:=xN (HW5.o.alloc HW5.o.size (.cells #[.int .i64 x.zB,.slice P1 N1 R1,.slice P2 N2 R2,.slice P3 N3 R3,.slice P4 N4 R4,.slice P5 N5 R5] 32));replace HQ:=xN (T.rds_below' HQ.o (zR.alloc zJ (.cells #[.int .i64 x.zB,.slice P1 N1 R1,.slice P2 N2 R2,.slice P3 N3 R3,.slice P4 N4 R4,.slice P5 N5 R5] 32)));replace HY:=xN (T.rds_below' HY.o (zR.alloc zJ (.cells #[.int .i64 x.zB,.slice P1 N1 R1,.slice P2 N2 R2,.slice P3 N3 R3,.slice P4 N4 R4,.slice P5 N5 R5] 32)));have c1: ¬ r1<0:=zM;have c2: ¬ x.zB<r2:=zM;have c3: ¬ r2<r1:=zM;go_wp2_with fail
 refine(s_same x x [.int .i64 x.zB,.slice P1 N1 R1,.slice P2 N2 R2,.slice P3 N3 R3,.slice P4 N4 R4,.slice P5 N5 R5] [.int .i64 x.zB,.slice A1 L1 C1,.slice A2 L2 C2,.slice A3 L3 C3,.slice A4 L4 C4,.slice A5 L5 C5] _ HY.o (T.rds_below' HX.o HW5.o)).mono ?_;rintro e w6 ⟨rfl,hb⟩;replace HQ:=xN (T.rds_below' HQ.o hb);clear kH3 lH3;clear kH5 lH5;have HW6:=xN (yO HW5.o HW5.o.size hb);replace H3:=xN (H3.o.below hb H3.o.lt);replace H4:=xN (H4.o.below hb H4.o.lt);replace H5:=xN (H5.o.below hb H5.o.lt);replace H7:=xN (H7.o.below hb H7.o.lt);replace H12:=xN (H12.o.below hb H12.o.lt);clear hb HW5;have kH3:=H3.o.cell;have lH3:=H3.o.lt;have kH5:=H5.o.cell;have lH5:=H5.o.lt;go_wp2_with fail
 refine(xDy x [.int .i64 x.zB,.slice A1 L1 C1,.slice A2 L2 C2,.slice A3 L3 C3,.slice A4 L4 C4,.slice A5 L5 C5] _ HXO.o HXS.o (T.rds_below' HX.o HW6.o)).mono ?_;rintro e w7 ⟨va,rfl,hva,hb⟩;replace HQ:=xN (T.rds_below' HQ.o hb);obtain⟨aA,aC,rfl,-,-,-⟩:=hva.open_;have HVA:=xN hva;clear hva;clear kH3 lH3;clear kH5 lH5;have HW7:=xN (yO HW6.o HW6.o.size hb);replace H3:=xN (H3.o.below hb H3.o.lt);replace H4:=xN (H4.o.below hb H4.o.lt);replace H5:=xN (H5.o.below hb H5.o.lt);replace H7:=xN (H7.o.below hb H7.o.lt);replace H12:=xN (H12.o.below hb H12.o.lt);clear hb HW6;have kH5:=H5.o.cell;have lH5:=H5.o.lt;go_wp2_with fail
 refine(xDy q [.int .i64 q.zB,.slice B1 M1 D1,.slice B2 M2 D2,.slice B3 M3 D3,.slice B4 M4 D4,.slice B5 M5 D5] _ HQO.o HQM.o HQ.o).mono ?_;rintro e w8 ⟨vb,rfl,hvb,hb⟩;replace HVA:=xN (HVA.o.below hb);obtain⟨bA,bC,rfl,-,-,-⟩:=hvb.open_;have HVB:=xN hvb;clear hvb;clear kH5 lH5;have HW8:=xN (yO HW7.o HW7.o.size hb);replace H3:=xN (H3.o.below hb H3.o.lt);replace H4:=xN (H4.o.below hb H4.o.lt);replace H5:=xN (H5.o.below hb H5.o.lt);replace H7:=xN (H7.o.below hb H7.o.lt);replace H12:=xN (H12.o.below hb H12.o.lt);clear hb HW7;have HBX:=xN (yO HB1.o HB1.o.size HW8.o);obtain⟨n,hn⟩: ∃ n,n=(mixF x).length:=⟨_,rfl⟩;have hla:=hn.symm;have hlb:(mixF q).length=n:=hlen.trans hla;rw[hla] at HVA;rw[hlb] at HVB;rw[hla,hlb];have bne:(n != n)=false:=by simp
 have HLA:=xN hla;have HLB:=xN hlb;clear hlen hn hla hlb;go_wp2
 go_loopw [18] (fun i wr=> ∃ k:Nat,k≤n∧i= .int .i64 (k:Int)∧Below w8.heap.size w8 wr) (fun i _=>n - (intOf i).toNat)
 case atStart=>exact⟨0,Nat.zero_le _,rfl,zR⟩
 case round=>
  obtain⟨k,hk,rfl,hbr⟩:=hrel;have HBR:=xN hbr;clear hbr;have hlx:n≤1000:=by rw[←HLA.o,vJz];have:=xK.1 HXO.o.length;omega
  by_cases hkl:k<n
  rotate_left
  ·
   have bk:decide (k<n)=false:=decide_eq_false hkl;go_wp2;go_ret
   exact⟨rfl,yO HBX.o HBX.o.size HBR.o⟩
  have bk:decide (k<n)=true:=decide_eq_true hkl;have hki:(k:Int)<(n:Int):=by omega
  obtain⟨ya,hya⟩: ∃ y,(mixF x)[k]?=some y:=⟨_,gE (by rw[HLA.o];exact hkl)⟩;obtain⟨yb,hyb⟩: ∃ y,(mixF q)[k]?=some y:=⟨_,gE (by rw[HLB.o];exact hkl)⟩;have hpt:=HPT.o k ya yb hya hyb;obtain⟨_,_,ea,-,-,hxa⟩:=(HVA.o.below HBR.o).open_;injection ea with ea1 _ ea2;subst ea1 ea2;obtain⟨ba,oa,rfl,lba,cba⟩:=hxa k ya hya;obtain⟨_,_,eb,-,-,hxb⟩:=(HVB.o.below HBR.o).open_;injection eb with eb1 _ eb2;subst eb1 eb2;obtain⟨bb,ob,rfl,lbb,cbb⟩:=hxb k yb hyb;clear hxa hxb hya hyb;have hwi:IntKind.i64.wrap ((k:Int)+1)=(k:Int)+1:=IntWalk.i64_in _ zM;by_cases hab:ya=yb
  ·
   have bab:(ya != yb)=false:=by simpa using hab
   clear hab hpt;go_wp2
   go_quiet (fail)
   go_wp2
   go_roundw
   case rel=>exact⟨k+1,by omega,by go_num,by first|exact HBR.o|exact below_drewN HBR.o _|exact(below_drewN HBR.o nq)⟩
   case measure=>first|(simp[intOf];done)|(simp[intOf];omega)
  have bab:(ya != yb)=true:=by simpa using hab
  obtain⟨p1,p2⟩:r1≤(k:Int)∧(k:Int)<r2:=hpt.resolve_left hab;have q1:decide ((k:Int)<r1)=false:=decide_eq_false zM;have q2:decide (r2≤(k:Int))=false:=decide_eq_false zM;clear hab hpt;go_wp2
  go_quiet (fail)
  go_wp2
  go_roundw
  case rel=>exact⟨k+1,by omega,by go_num,by first|exact HBR.o|exact below_drewN HBR.o _|exact(below_drewN HBR.o nq)⟩
  case measure=>first|(simp[intOf];done)|(simp[intOf];omega)
end
section
open Go.ChangeShapes
theorem zXy: ∀ (a r:List Char),(a.all fun c=>c != Char.ofNat 32)=true→wordsSigns (a++Char.ofNat 32 :: r)=a :: wordsSigns r
 | [],r,_=>rfl
 |c :: a,r,h=>by
  simp only[List.all_cons,Bool.and_eq_true,bne_iff_ne,ne_eq] at h;have ih:=zXy a r (by simpa using h.2);rw[List.cons_append]
  conv=>lhs;unfold wordsSigns
  split
  ·rename_i e;cases e
  ·rename_i e
   injection e with e1 _;exact absurd e1 h.1
  ·rename_i e
   injection e with e1 e2;subst e1 e2;rw[ih]
theorem head_list: ∃ l,Tryz.prog.initOrder=String.ofList l∧("harness e62a8115f02e7d88259a74e8e5f48f07f1eda65fc6f81ca3c217d7b38e1c1358 cut ".toList).isPrefixOf l=true:=by
 refine⟨_,rfl,?_⟩
 kernel_rfl
theorem head_words: ∃ X,wordsSigns Tryz.prog.initOrder.toList= "harness".toList :: "e62a8115f02e7d88259a74e8e5f48f07f1eda65fc6f81ca3c217d7b38e1c1358".toList :: "cut".toList :: X:=by
 obtain⟨l,hl,hp⟩:=head_list;obtain⟨r,hr⟩:=List.isPrefixOf_iff_prefix.1 hp;have e: "harness e62a8115f02e7d88259a74e8e5f48f07f1eda65fc6f81ca3c217d7b38e1c1358 cut ".toList= "harness".toList++Char.ofNat 32 :: ("e62a8115f02e7d88259a74e8e5f48f07f1eda65fc6f81ca3c217d7b38e1c1358".toList++Char.ofNat 32 :: ("cut".toList++ [Char.ofNat 32])):=by kernel_rfl
 refine⟨wordsSigns r,?_⟩;rw[hl,String.toList_ofList,←hr,e];simp only[List.append_assoc,List.cons_append,List.nil_append];rw[zXy _ _ (by kernel_rfl),zXy _ _ (by kernel_rfl),zXy _ _ (by kernel_rfl)]
theorem behind: ∃ X,behindMainWord (wordsSigns Tryz.prog.initOrder.toList)= "cut".toList :: X:=by
 obtain⟨X,hX⟩:=head_words;refine⟨X,?_⟩;rw[hX];have e1:("harness".toList == "harness".toList || "harness".toList == "ownmain".toList)=true:=by kernel_rfl
 have e2:isSumSigns "e62a8115f02e7d88259a74e8e5f48f07f1eda65fc6f81ca3c217d7b38e1c1358".toList=true:=by kernel_rfl
 unfold behindMainWord;dsimp only;rw[e1,e2];rfl
section
variable {P:Program} {X:List (List Char)}
theorem make_of (hX:behindMainWord (wordsSigns P.initOrder.toList)= "cut".toList :: X):P.make=some .cut:=by
 unfold Program.make;rw[hX];rfl
theorem lifts_of (X:List (List Char)):stripLifts liftWords ("cut".toList :: X)=([], "cut".toList :: X):=rfl
theorem headLifts_of (hX:behindMainWord (wordsSigns P.initOrder.toList)= "cut".toList :: X):P.headLifts= []:=by
 unfold Program.headLifts;rw[hX,lifts_of];rfl
theorem liftsFinal_of (hX:behindMainWord (wordsSigns P.initOrder.toList)= "cut".toList :: X):P.liftsFinal=false:=by
 unfold Program.liftsFinal;rw[hX,headLifts_of hX];rfl
theorem mayEnter_of (hX:behindMainWord (wordsSigns P.initOrder.toList)= "cut".toList :: X) (h1:P.laysLater=false) (h2:P.bearsReflect=false) (h3:P.doorFits []=true):P.mayEnter=true:=by
 unfold Program.mayEnter;rw[hX];dsimp only;rw[lifts_of,h1,h2,h3]
 rfl
end
theorem make_is:Tryz.prog.make=some .cut:=by
 obtain⟨X,hX⟩:=behind;exact make_of hX
theorem liftsFinal_is:Tryz.prog.liftsFinal=false:=by
 obtain⟨X,hX⟩:=behind;exact liftsFinal_of hX
theorem mayEnter_is:Tryz.prog.mayEnter=true:=by
 obtain⟨X,hX⟩:=behind;exact mayEnter_of hX (by kernel_rfl) (by kernel_rfl) (by kernel_rfl)
theorem laidOut_is:laidOutB Tryz.prog=true:=by kernel_rfl
theorem own_is:ownKnob Tryz.prog.godebug=none:=by kernel_rfl
end
end Go.Proofs.YtdcofkabaigjpaaGreat
