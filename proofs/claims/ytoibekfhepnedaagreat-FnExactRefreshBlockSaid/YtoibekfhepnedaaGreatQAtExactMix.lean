/- The player's memory; a frame, by the program. The mix of a valid session: lengths, samples, waits. Rows of numbers that a call owns, laid open. -/
import Derived.Test.YtoibekfhepnedaaGreatQAoExactMix
import Derived.Test.YtoibekfhepnedaaGreatQArExactMix
import Derived.Test.YtoibekfhepnedaaGreatQAsExactMix
import Derived.Test.YtoibekfhepnedaaGreatQAeExactMix
import Derived.Test.YtoibekfhepnedaaGreatQApExactMix
import Derived.Test.YtoibekfhepnedaaGreatQAnExactMix
set_option linter.unusedVariables false
set_option linter.unusedSimpArgs false
set_option maxHeartbeats 8000000
set_option maxRecDepth 100000
namespace Go.Proofs.YtoibekfhepnedaaGreat
section
open Go.RowKit
theorem trn_drew {F:List Nat} {w w':World} (h:Trn F w w'):Trn F w w'.drew:=⟨h.os,h.tape,h.output,h.size,h.block⟩
theorem knd_few (k:Int):(uX k).inputs≤3:=by
 unfold uX;rw[List.getD_eq_getElem?_getD]
 cases hg:kndL[(k - 1).toNat]? with
 |none=>decide
 |some y=>exact(by decide: ∀ y ∈ kndL,y.inputs≤3) y (List.mem_of_getElem? hg)
theorem zOy {x:xR} {n:Int} (h:yPz x n):x.zK.length≤3:=by
 have h1:=h.arity;have h2:=knd_few x.zG
 omega
theorem rd_trn2 {w w':World} {bv bc:Nat} {v:Value} {xs:List Int} (h:RdI w v xs) (k:Trn [bv,bc] w w') (h1:v.ownBlock≠some bv) (h2:v.ownBlock≠some bc):RdI w' v xs:=
 h.keep k.size fun b hb hlt=>k.block b hlt (fun hm=>by
  simp at hm
  rcases hm with e|e
  ·subst e;exact h1 hb
  ·subst e;exact h2 hb)
structure Cel (w:World) (bc:Nat) (A:List Nat) (t:TypeId) (cs:Array Value) (cells:List (List Int)):Prop where
 bk:Bk w bc t cs
 each: ∀ (i:Nat) (l:List Int),cells[i]?=some l→ ∃ v:Value,cs[i]?=some v∧RdI w v l∧(∀ q ∈ A,v.ownBlock≠some q)∧ ∀ k,v.ownBlock=some k→k<w.heap.size
section
variable {w w':World} {bc:Nat} {A:List Nat} {t:TypeId} {cs:Array Value} {cells:List (List Int)}
theorem Cel.below (h:Cel w bc A t cs cells) (hb:Below w.heap.size w w'):Cel w' bc A t cs cells:=
 ⟨h.bk.below hb h.bk.lt,fun i l hl=>by
  obtain⟨v,h1,h2,h3,h4⟩:=h.each i l hl;exact⟨v,h1,RdI.below h2 hb,h3,fun k hk=>zW (h4 k hk) hb.size⟩⟩
theorem Cel.add (h:Cel w bc A t cs cells) (hb:Below w.heap.size w w') {g:Nat} (hg:w.heap.size≤g):Cel w' bc (g :: A) t cs cells:=
 ⟨h.bk.below hb h.bk.lt,fun i l hl=>by
  obtain⟨v,h1,h2,h3,h4⟩:=h.each i l hl;refine⟨v,h1,RdI.below h2 hb,fun q hq e=>?_,fun k hk=>zW (h4 k hk) hb.size⟩
  rcases List.mem_cons.1 hq with e2|hq
  ·have:=h4 q e;omega
  ·exact h3 q hq e⟩
theorem Cel.grow (h:Cel w bc A t cs cells) {row:Option Nat} (hg:w.grownBy w' row) (hrow: ∀ g,row=some g→g ∈ A∧bc≠g) {G:List Nat} (hG: ∀ g ∈ G,g ∈ A∨w.heap.size≤g):Cel w' bc (G++A) t cs cells:=
 ⟨h.bk.grown hg (fun e=>(hrow bc e.symm).2 rfl),fun i l hl=>by
  obtain⟨v,h1,h2,h3,h4⟩:=h.each i l hl;refine⟨v,h1,RdI.grown h2 hg (fun b hb e=>h3 b (hrow b e.symm).1 hb),fun q hq e=>?_,fun k hk=>zW (h4 k hk) hg.size⟩
  rcases List.mem_append.1 hq with hq|hq
  ·rcases hG q hq with h5|h5
   ·exact h3 q h5 e
   ·have:=h4 q e;omega
  ·exact h3 q hq e⟩
theorem Cel.far (h:Cel w bc A t cs cells) {g:Nat} (hne:bc≠g) (hg:g ∈ A) (j:Nat) (u:Value):Cel (w.setCell ⟨g,j,none⟩ u) bc A t cs cells:=
 ⟨h.bk.far hne u,fun i l hl=>by
  obtain⟨v,h1,h2,h3,h4⟩:=h.each i l hl;exact⟨v,h1,RdI.grown h2 ((Gr.refl g w).set_ j u).1 (fun b hb e=>h3 g hg (hb.trans e)),h3,fun k hk=>by simpa[World.setCell] using h4 k hk⟩⟩
theorem Cel.put (h:Cel w bc A t cs cells) {i:Nat} {l0 l:List Int} {v:Value} (hi:cells[i]?=some l0) (hv:RdI w v l) (hc:bc ∈ A) (hn: ∀ q ∈ A,v.ownBlock≠some q) (hl4: ∀ k,v.ownBlock=some k→k<w.heap.size):Cel (w.setCell ⟨bc,i,none⟩ v) bc A t (cs.setIfInBounds i v) (cells.set i l):=by
 have hg:=((Gr.refl bc w).set_ i v).1;have hsz:(w.setCell ⟨bc,i,none⟩ v).heap.size=w.heap.size:=by simp[World.setCell]
 refine⟨h.bk.set_ i v,fun j l' hl=>?_⟩;by_cases e:i=j
 ·subst e
  obtain⟨v0,h1,_⟩:=h.each i l0 hi;have hlt:i<cs.size:=(Array.getElem?_eq_some_iff.1 h1).1;rw[List.getElem?_set_self (List.getElem?_eq_some_iff.1 hi).1] at hl;injection hl with hl;subst hl;exact⟨v,by rw[Array.getElem?_setIfInBounds_self_of_lt hlt],RdI.grown hv hg (fun b hb e=>hn bc hc (hb.trans e)),hn,fun k hk=>by rw[hsz];exact hl4 k hk⟩
 ·rw[List.getElem?_set_ne e] at hl
  obtain⟨v',h1,h2,h3,h4⟩:=h.each j l' hl;exact⟨v',by rw[Array.getElem?_setIfInBounds_ne e];exact h1,RdI.grown h2 hg (fun b hb e=>h3 bc hc (hb.trans e)),h3,fun k hk=>by rw[hsz];exact h4 k hk⟩
end
structure Plr (w0 w:World) (n:Nat) (b bv bc:Nat) (A:List Nat) (cv cc:Nat) (pv:List Value) (ordV:Value) (vals:List Int) (cells:List (List Int)) (cs:Array Value):Prop where
 bel:Below w0.heap.size w0 w
 lo:w0.heap.size≤b∧w0.heap.size≤bv∧w0.heap.size≤bc
 ne:b≠bv∧b≠bc∧bc≠bv
 av:bv ∈ A
 ac:bc ∈ A
 alt: ∀ q ∈ A,q<w.heap.size
 bk:Bk w b 299 (pv++ [ordV,.slice (some ⟨bv,0,none⟩) n cv,.slice (some ⟨bc,0,none⟩) n cc]).toArray
 vals:OwI 2 w w0.heap.size (.slice (some ⟨bv,0,none⟩) n cv) vals
 cel:Cel w bc A 26 cs cells
section
variable {w0 w w':World} {n b bv bc cv cc:Nat} {A:List Nat} {pv:List Value} {ordV:Value} {vals:List Int} {cells:List (List Int)} {cs:Array Value}
theorem Plr.below (h:Plr w0 w n b bv bc A cv cc pv ordV vals cells cs) (hb:Below w.heap.size w w'):Plr w0 w' n b bv bc A cv cc pv ordV vals cells cs:=
 ⟨yQ h.bel h.bel.size hb,h.lo,h.ne,h.av,h.ac,fun q hq=>zW (h.alt q hq) hb.size,h.bk.below hb h.bk.lt,wX h.vals hb,h.cel.below hb⟩
theorem Plr.add (h:Plr w0 w n b bv bc A cv cc pv ordV vals cells cs) (hb:Below w.heap.size w w') {g:Nat} (hg:w.heap.size≤g) (hg2:g<w'.heap.size):Plr w0 w' n b bv bc (g :: A) cv cc pv ordV vals cells cs:=
 ⟨yQ h.bel h.bel.size hb,h.lo,h.ne,List.mem_cons_of_mem _ h.av,List.mem_cons_of_mem _ h.ac,fun q hq=>by
  rcases List.mem_cons.1 hq with e|hq
  ·subst e;exact hg2
  ·exact zW (h.alt q hq) hb.size,h.bk.below hb h.bk.lt,wX h.vals hb,h.cel.add hb hg⟩
theorem Plr.drew (h:Plr w0 w n b bv bc A cv cc pv ordV vals cells cs):Plr w0 w.drew n b bv bc A cv cc pv ordV vals cells cs:=h.below (Below.refl w.heap.size w).drew
theorem Plr.setV (h:Plr w0 w n b bv bc A cv cc pv ordV vals cells cs) (j:Nat) (u:Int):Plr w0 (w.setCell ⟨bv,j,none⟩ (.int .i64 u)) n b bv bc A cv cc pv ordV (vals.set j u) cells cs:=
 ⟨h.bel.setCell h.lo.2.1 _,h.lo,h.ne,h.av,h.ac,fun q hq=>by simpa[World.setCell] using h.alt q hq,h.bk.far h.ne.1 _,h.vals.setN j u,h.cel.far h.ne.2.2 h.av _ _⟩
theorem Plr.setG (h:Plr w0 w n b bv bc A cv cc pv ordV vals cells cs) {g:Nat} (hg:g ∈ A) (h0:w0.heap.size≤g) (n1:b≠g) (n2:bv≠g) (n3:bc≠g) (j:Nat) (u:Value):Plr w0 (w.setCell ⟨g,j,none⟩ u) n b bv bc A cv cc pv ordV vals cells cs:=
 ⟨h.bel.setCell h0 _,h.lo,h.ne,h.av,h.ac,fun q hq=>by simpa[World.setCell] using h.alt q hq,h.bk.far n1 _,h.vals.far (fun k hk=>by injection hk with hk;subst hk;exact n2) _,h.cel.far n3 hg _ _⟩
theorem Plr.grow (h:Plr w0 w n b bv bc A cv cc pv ordV vals cells cs) {v v':Value} (hg:w.grownBy w' v.ownBlock) (hv: ∀ g,v.ownBlock=some g→g ∈ A∧w0.heap.size≤g∧b≠g∧bv≠g∧bc≠g) (hv': ∀ g,v'.ownBlock=some g→(v.ownBlock=some g∨w.heap.size≤g)∧g<w'.heap.size):Plr w0 w' n b bv bc (v'.ownBlock.toList++A) cv cc pv ordV vals cells cs:=by
 have nb: ∀ q,(∀ g,v.ownBlock=some g→q≠g)→some q≠v.ownBlock:=fun q hq e=>hq q e.symm rfl
 refine⟨h.bel.grown hg h.bel.size (fun j hj=>(hv j hj).2.1),h.lo,h.ne,List.mem_append_right _ h.av,List.mem_append_right _ h.ac,fun q hq=>?_,h.bk.grown hg (nb b fun g hg=>(hv g hg).2.2.1),yDz (fun q hq=>hg.block q (h.vals.lt q hq).2 (nb q fun g hg'=>by injection hq with hq;subst hq;exact(hv g hg').2.2.2.1)) h.vals,⟨h.cel.bk.grown hg (nb bc fun g hg=>(hv g hg).2.2.2.2),fun i l hl=>?_⟩⟩
 ·rcases List.mem_append.1 hq with hq|hq
  ·exact(hv' q (by simpa using hq)).2
  ·exact zW (h.alt q hq) hg.size
 ·obtain⟨u,h1,h2,h3,h4⟩:=h.cel.each i l hl
  refine⟨u,h1,RdI.grown h2 hg (fun q hq e=>h3 q (hv q e.symm).1 hq),fun q hq e=>?_,fun k hk=>zW (h4 k hk) hg.size⟩
  rcases List.mem_append.1 hq with hq|hq
  ·rcases(hv' q (by simpa using hq)).1 with e2|e2
   ·exact h3 q (hv q e2).1 e
   ·have:=h4 q e;omega
  ·exact h3 q hq e
theorem Plr.setC (h:Plr w0 w n b bv bc A cv cc pv ordV vals cells cs) {i:Nat} {l0 l:List Int} {v:Value} (hi:cells[i]?=some l0) (hv:RdI w v l) (hn: ∀ q ∈ A,v.ownBlock≠some q) (hl4: ∀ k,v.ownBlock=some k→k<w.heap.size):Plr w0 (w.setCell ⟨bc,i,none⟩ v) n b bv bc A cv cc pv ordV vals (cells.set i l) (cs.setIfInBounds i v):=
 ⟨h.bel.setCell h.lo.2.2 _,h.lo,h.ne,h.av,h.ac,fun q hq=>by simpa[World.setCell] using h.alt q hq,h.bk.far h.ne.2.1 _,h.vals.far (fun k hk=>by injection hk with hk;subst hk;exact fun e=>h.ne.2.2 e.symm) _,h.cel.put hi hv h.ac hn hl4⟩
end
theorem c_frame (p:xO) (w0:World) (b bv bc:Nat) (A:List Nat) (cv cc:Nat) (pv:List Value) (ordV fv:Value) (vals frame:List Int) (cells:List (List Int)) (cs:Array Value) (w:World) (hP:vN p) (hs:StOk p cells) (hF: ∀ y ∈ frame,Smp y) (hfl:(frame.length:Int)=p.zS) (hV: ∀ y ∈ vals,Smp y) (hvl:vals.length=p.zC.length)
  (hr:T.rds w0 p.fs pv) (ho:RdI w0 ordV (wD p.zC)) (hcv:p.zC.length≤cv) (hcc:p.zC.length≤cc) (h:Plr w0 w p.zC.length b bv bc A cv cc pv ordV vals cells cs) (hf:RdI w fv frame) (hf1:fv.ownBlock≠some bv) (hf2:fv.ownBlock≠some bc):
  Calls Tryz.prog 273 #[.pointer (some ⟨b,0,none⟩),fv] w fun e w'=>e= .returned (.tuple #[])∧ ∃ cs',Plr w0 w' p.zC.length b bv bc A cv cc pv ordV (uK p cells frame) (uJ p cells frame (uK p cells frame)) cs'∧Trn [bv,bc] w w':=by
 have HP:=xN hP;have HS:=xN hs;have HFS:=xN hF;have HVS:=xN hV;have HPL0:=xN h;have HF:=xN hf;have HF1:=xN hf1;have HF2:=xN hf2;have hn24:p.zC.length≤24:=hP.formed.few;have hol:(wD p.zC).length=p.zC.length:=hP.order;have HTF:=xN (fun k i (hk:(wD p.zC)[k]?=some i)=>turn_facts (frame:=frame) hP hs hvl hk);have HTG:=xN (fun k x (hx:p.zC[k]?=some x)=>turn2_facts (frame:=frame) hP hs hx);have HAll:=xN (And.intro (updA_all (cells:=cells) (frame:=frame) hP) (updB_all (frame:=frame) hs));have HVA:=xN (vals_any (cells:=cells) (frame:=frame) hP.play hvl);have HVO:=xN (fun l v hv=>vXz hP hs hF l v hv);have HVF:=xN (valsF_smp (frame:=frame) hP hs hF);have HVL:=xN hvl;have hfi:=hfl;clear hP hs hF hV h hf hf1 hf2 hvl hfl;have HRP:=xN hr;obtain⟨v1,v2,v3,rfl,h1,h2,h3⟩:=xO.yV hr;clear hr;obtain⟨va1,vc1,rfl,vl1,vm1,R1,HX1⟩:=oG h1;clear h1;obtain⟨va2,vc2,rfl,vl2,vm2,R2,HX2⟩:=oG h2;clear h2;obtain⟨va3,vc3,rfl,vl3,vm3,R3,HX3⟩:=oI h3;clear h3;have HOR:=xN ho;obtain⟨oA,oc,rfl,ol,om,ox⟩:=ho.open_;rw[hol] at *;have HXO:=xN ox;clear ox ho;generalize hpv:([.int .i64 p.zS,.slice va1 p.zV.length vc1,.slice va2 p.zC.length vc2,.slice va3 p.zT.length vc3]:List Value)=pv at *;generalize hov:(Value.slice oA p.zC.length oc)=ordV at *;have HBK:=xN (fun(W:World) (V:List Int) (C:List (List Int)) (cs:Array Value) (h:Plr w0 W p.zC.length b bv bc A cv cc pv ordV V C cs)=>(by have:=h.bk;rw[←hpv,←hov] at this;exact this:Bk W b 299 #[.int .i64 p.zS,.slice va1 p.zV.length vc1,.slice va2 p.zC.length vc2,.slice va3 p.zT.length vc3,.slice oA p.zC.length oc,.slice (some ⟨bv,0,none⟩) p.zC.length cv,.slice (some ⟨bc,0,none⟩) p.zC.length cc]));clear hpv hov;have kb:=(HBK.out _ _ _ _ HPL0.out).cell;have lb:=HPL0.out.bk.lt
 go_enter Tryz.func273,Tryz.ntmps273
 go_wp2
 go_loopw [14] (fun i wr=> ∃ (k:Nat) (cs:Array Value),k≤p.zC.length∧i= .int .i64 (k:Int)∧Plr w0 wr p.zC.length b bv bc A cv cc pv ordV (vQ p cells frame ((wD p.zC).take k) vals) (xHz (yZz p k) cells (uJ p cells frame (uK p cells frame))) cs∧Trn [bv,bc] w wr) (fun i _=>p.zC.length - (intOf i).toNat)
 case atStart=>exact⟨0,cs,Nat.zero_le _,rfl,by rw[updA_zero];exact HPL0.out,Trn.refl _ _⟩
 case round=>
  obtain⟨k,cs,hk,rfl,hpl,htr⟩:=hrel;have HPL:=xN hpl;have HTR:=xN htr;have HBW:=xN hpl.bel;clear hpl htr kb lb;have kb:=(HBK.out _ _ _ _ HPL.out).cell;have lb:=HPL.out.bk.lt;by_cases hlt:k<p.zC.length
  rotate_left
  ·
   obtain rfl:k=p.zC.length:=by omega
   have HPB:=xN (show Plr w0 wr p.zC.length b bv bc A cv cc pv ordV (uK p cells frame) (xHz (yKz p 0) cells (uJ p cells frame (uK p cells frame))) cs from by have h:=HPL.out;rw[HAll.out.1,List.take_of_length_le (by have:=HP.out.order;omega),HVA.out] at h;exact h);have HTR0:=HTR;clear HPL HTR HBW;go_wp2
   go_loopw [84] (fun i wr=> ∃ (k:Nat) (cs:Array Value),k≤p.zC.length∧i= .int .i64 (k:Int)∧Plr w0 wr p.zC.length b bv bc A cv cc pv ordV (uK p cells frame) (xHz (yKz p k) cells (uJ p cells frame (uK p cells frame))) cs∧Trn [bv,bc] w wr) (fun i _=>p.zC.length - (intOf i).toNat)
   case atStart=>exact⟨0,cs,Nat.zero_le _,rfl,HPB.out,HTR0.out⟩
   case round=>
    obtain⟨k,cs,hk,rfl,hpl,htr⟩:=hrel;have HPL:=xN hpl;have HTR:=xN htr;have HBW:=xN hpl.bel;clear hpl htr kb lb;have kb:=(HBK.out _ _ _ _ HPL.out).cell;have lb:=HPL.out.bk.lt;by_cases hlt:k<p.zC.length
    rotate_left
    ·
     obtain rfl:k=p.zC.length:=by omega
     go_wp2
     go_end0
     exact⟨rfl,cs,by have h:=HPL.out;rw[HAll.out.2] at h;exact h,HTR.out⟩
    have hgx:=gE hlt;generalize p.zC[k]=x at *;have HGX:=xN hgx;clear hgx;obtain⟨b1,off,cs1,hA,hb1,hcs,hcell⟩:=HX2.out k x HGX.out;subst hA;obtain⟨u3,rfl,hRY3⟩:=xR.yV (show T.rds _ _ _ by simpa only[xR.t,T.rd] using hcs);have d0:=(HBW.out.cell hb1).trans (hcell 0 (.int .i64 x.zG) rfl);have d1:=(HBW.out.cell hb1).trans (hcell 1 (.int .i64 x.fA) rfl);have d2:=(HBW.out.cell hb1).trans (hcell 2 (.int .i64 x.fB) rfl);have d3:=(HBW.out.cell hb1).trans (hcell 3 (u3) rfl);rw[show off+(k * 4+0)=off+k * 4 by omega] at d0;rw[show off+(k * 4+1)=off+k * 4+1 by omega] at d1;rw[show off+(k * 4+2)=off+k * 4+2 by omega] at d2;rw[show off+(k * 4+3)=off+k * 4+3 by omega] at d3;have RY3:=xN (T.yM hRY3 HBW.out);clear hRY3;clear hcs hcell;have RYi:=xN (T.xB.1 RY3.out);obtain⟨ua3,uc3,rfl,ul3,um3,ux3⟩:=RYi.out.open_;clear ux3;have hq1:b1<wr.heap.size:=zW hb1 HBW.out.size;have RYX:=xN (T.yM RY3.out (show Below wr.heap.size wr (wr.alloc (.cells #[.int .i64 x.zG,.int .i64 x.fA,.int .i64 x.fB,.slice ua3 x.zK.length uc3] 167)) from zR.alloc zJ _));have HRX:=xN (show Below wr.heap.size wr (wr.alloc (.cells #[.int .i64 x.zG,.int .i64 x.fA,.int .i64 x.fB,.slice ua3 x.zK.length uc3] 167)) from zR.alloc zJ _);have HPX:=xN (HPL.out.below HRX.out);have HNX:=xN (Bk.born wr 167 #[.int .i64 x.zG,.int .i64 x.fA,.int .i64 x.fB,.slice ua3 x.zK.length uc3]);have HTX:=xN (HTR.out.trans (Trn.of_below HRX.out));have hBX:wr.heap.size<(wr.alloc (.cells #[.int .i64 x.zG,.int .i64 x.fA,.int .i64 x.fB,.slice ua3 x.zK.length uc3] 167)).heap.size:=HNX.out.lt;clear kb lb;have kb:=(HBK.out _ _ _ _ HPX.out).cell;have lb:=HPX.out.bk.lt;have kn:=HNX.out.cell;have ln:=HNX.out.lt;obtain⟨tn,ty⟩:=HTG.out k x HGX.out;have HTN:=xN tn;have HTY:=xN ty;clear tn ty;by_cases h6:x.zG=6
    rotate_left
    ·
     have q0:(x.zG == 6)=false:=yZ h6;have HPN:=xN (show Plr w0 (wr.alloc (.cells #[.int .i64 x.zG,.int .i64 x.fA,.int .i64 x.fB,.slice ua3 x.zK.length uc3] 167)) p.zC.length b bv bc A cv cc pv ordV (uK p cells frame) (xHz (yKz p (k+1)) cells (uJ p cells frame (uK p cells frame))) cs by rw[HTN.out h6];exact HPX.out);clear h6;go_wp2
     go_roundw
     case rel=>exact⟨k+1,cs,by omega,by go_num,HPN.out,HTX.out⟩
     case measure=>simp[intOf];omega
    have q0:(x.zG == 6)=true:=xA h6;obtain⟨st,hcl,hst,hup⟩:=HTY.out h6;have HUP:=xN hup;have HCL:=xN hcl;have HPI:=xN (play_in6 HP.out HS.out HFS.out HVF.out HGX.out hst h6);clear hup hst hcl;obtain⟨sv,hsc,hsr,sn1,sn2⟩:=HPX.out.cel.each _ _ HCL.out;have HSR:=xN hsr;obtain⟨sA,sc,rfl,sl1,sm1,sx1⟩:=hsr.open_;clear sx1;have HSC:=xN ((HPX.out.cel.bk.cell k).trans hsc);clear hsr hsc;have HN_:=xN (HP.out.formed.nodes k x HGX.out);clear h6;go_wp2;generalize hWX:(wr.alloc (.cells #[.int .i64 x.zG,.int .i64 x.fA,.int .i64 x.fB,.slice ua3 x.zK.length uc3] 167))=WX at *;clear hWX;generalize hB1:wr.heap.size=B1 at *;clear kb lb kn ln;have HPd:=xN HPX.out.drew;have HNd:=xN (Bk.drew HNX.out);have HSd:=xN (show RdI WX.drew (.slice sA st.length sc) st from RdI.below HSR.out (Below.refl WX.heap.size WX).drew);have HTd:=xN (trn_drew HTX.out);have HBd:=xN HPd.out.bel;have HWd:=xN (show (∀ i,WX.drew.cell? ⟨b,i,none⟩= #[.int .i64 p.zS,.slice va1 p.zV.length vc1,.slice (some ⟨b1,off,none⟩) p.zC.length vc2,.slice va3 p.zT.length vc3,.slice oA p.zC.length oc,.slice (some ⟨bv,0,none⟩) p.zC.length cv,.slice (some ⟨bc,0,none⟩) p.zC.length cc][i]?)∧(∀ i,WX.drew.cell? ⟨B1,i,none⟩= #[.int .i64 x.zG,.int .i64 x.fA,.int .i64 x.fB,.slice ua3 x.zK.length uc3][i]?)∧WX.drew.cell? ⟨bc,k,none⟩=some (.slice sA st.length sc) from⟨(HBK.out _ _ _ _ HPd.out).cell,HNd.out.cell,HSC.out⟩);have HYd:=xN (show T.rds WX.drew x.fs [.int .i64 x.zG,.int .i64 x.fA,.int .i64 x.fB,.slice ua3 x.zK.length uc3] from xR.rd_mk (T.yM RYX.out (Below.refl WX.heap.size WX).drew));have HFd:=xN (show RdI WX.drew fv frame from rd_trn2 HF.out HTd.out HF1.out HF2.out);refine vC (fun w'=>(∀ i,w'.cell? ⟨b,i,none⟩= #[.int .i64 p.zS,.slice va1 p.zV.length vc1,.slice (some ⟨b1,off,none⟩) p.zC.length vc2,.slice va3 p.zT.length vc3,.slice oA p.zC.length oc,.slice (some ⟨bv,0,none⟩) p.zC.length cv,.slice (some ⟨bc,0,none⟩) p.zC.length cc][i]?)∧(∀ i,w'.cell? ⟨B1,i,none⟩= #[.int .i64 x.zG,.int .i64 x.fA,.int .i64 x.fB,.slice ua3 x.zK.length uc3][i]?)∧w'.cell? ⟨bc,k,none⟩=some (.slice sA st.length sc)) 22 (by kernel_rfl) ?_ (fun hS0=>?_)
    ·exact HWd.out
    generalize hwd:WX.drew=wd at *;clear hwd;refine zE 0 hS0 ?_;refine zE 1 hS0 ?_;refine zE 2 hS0 ?_;refine zE 3 hS0 ?_;refine zE 4 hS0 ?_;refine zE 5 hS0 ?_;refine zE 6 hS0 ?_;refine zE 7 hS0 ?_;refine zE 8 hS0 ?_;refine zE 10 hS0 ?_;refine zE 11 hS0 ?_;refine zE 12 hS0 ?_;refine zE 13 hS0 ?_;refine zE 14 hS0 ?_;refine zE 15 hS0 ?_;refine zE 16 hS0 ?_;have length_valsX:(uK p cells frame).length=p.zC.length:=wIz;refine pE 9 (fun K hK=>?_);go_simp;go_wp2_with (go_at_call 287;refine(c_inputs x _ b frame _ fv _ _ (fun e1=>⟨(xK.1 (by have ha:=HN_.out.1.a;rw[e1] at ha;simpa[uX,kndL] using ha)).1,by rw[hfi];exact HN_.out.2.2 e1⟩) (by rw[length_valsX];exact HN_.out.2.1) (by have:=HN_.out.1.arity;have:=zOy HN_.out.1;omega) (HWd.out.1 5) HFd.out (OwI.rd HPd.out.vals) HYd.out).mono ?_;rintro e w4 ⟨iv,rfl,ho,hb⟩)
    have HI4:=xN (OwI.rd ho);have HP4:=xN (HPd.out.below hb);have HN4:=xN (HNd.out.below hb HNd.out.lt);have HS4:=xN (RdI.below HSd.out hb);have HT4:=xN (HTd.out.trans (Trn.of_below hb));have HY4:=xN (T.rds_keep hb.size (fun _ h=>hb.block _ h) _ _ HYd.out);have HC4:=xN ((hb.cell HPd.out.cel.bk.lt).trans HWd.out.2.2);have HW4:=xN (show (∀ i,w4.cell? ⟨b,i,none⟩= #[.int .i64 p.zS,.slice va1 p.zV.length vc1,.slice (some ⟨b1,off,none⟩) p.zC.length vc2,.slice va3 p.zT.length vc3,.slice oA p.zC.length oc,.slice (some ⟨bv,0,none⟩) p.zC.length cv,.slice (some ⟨bc,0,none⟩) p.zC.length cc][i]?)∧(∀ i,w4.cell? ⟨B1,i,none⟩= #[.int .i64 x.zG,.int .i64 x.fA,.int .i64 x.fB,.slice ua3 x.zK.length uc3][i]?)∧w4.cell? ⟨bc,k,none⟩=some (.slice sA st.length sc) from⟨(HBK.out _ _ _ _ HP4.out).cell,HN4.out.cell,HC4.out⟩);clear ho hb;refine uE hK ?_ (fun hS1=>?_)
    ·exact HW4.out
    clear hK K hS0;refine pE 17 (fun K hK=>?_);go_simp;go_wp2_with (go_at_call 286;refine(c_step x _ [] _ st _ _ _ _ HPI.out (T.ow_rd _ _ _ (Own.nil 0 _ _ 1).ow) HI4.out HS4.out HY4.out).mono ?_;rintro e w5 ⟨nv,rfl,ho,hb⟩)
    have HO5:=xN (OwI.rd ho);have HL5:=xN ho.lt;have HP5:=xN (HP4.out.below hb);have HN5:=xN (HN4.out.below hb HN4.out.lt);have HT5:=xN (HT4.out.trans (Trn.of_below hb));have HC5:=xN ((hb.cell HP4.out.cel.bk.lt).trans HW4.out.2.2);have HNE:=xN (show (∀ q ∈ A,nv.ownBlock≠some q)∧ ∀ k,nv.ownBlock=some k→k<w5.heap.size from⟨fun q hq e=>absurd (ho.lt _ e).1 (by have:=HP4.out.alt q hq;omega),fun k hk=>(ho.lt k hk).2⟩);have HW5:=xN (show (∀ i,w5.cell? ⟨b,i,none⟩= #[.int .i64 p.zS,.slice va1 p.zV.length vc1,.slice (some ⟨b1,off,none⟩) p.zC.length vc2,.slice va3 p.zT.length vc3,.slice oA p.zC.length oc,.slice (some ⟨bv,0,none⟩) p.zC.length cv,.slice (some ⟨bc,0,none⟩) p.zC.length cc][i]?)∧(∀ i,w5.cell? ⟨B1,i,none⟩= #[.int .i64 x.zG,.int .i64 x.fA,.int .i64 x.fB,.slice ua3 x.zK.length uc3][i]?)∧w5.cell? ⟨bc,k,none⟩=some (.slice sA st.length sc) from⟨(HBK.out _ _ _ _ HP5.out).cell,HN5.out.cell,HC5.out⟩);clear ho hb;refine uE hK ?_ (fun hS2=>?_)
    ·exact HW5.out
    clear hK K hS1;refine zE 18 hS2 ?_;refine zE 19 hS2 ?_;refine zE 20 hS2 ?_;refine zE 21 hS2 ?_;refine qE ?_;obtain⟨nA,nl,nc,rfl⟩: ∃ A l c,nv= .slice A l c:=by obtain⟨A,c,e,_⟩:=HO5.out.open_;exact⟨A,_,c,e⟩
    have ck:=HW5.out.2.2;have fr:=HP5.out.cel.bk.free k;have lc:=HP5.out.cel.bk.lt;go_wp2;have HP6:=xN (HP5.out.setC HCL.out HO5.out HNE.out.1 HNE.out.2);have HT6:=xN (HT5.out.trans (Trn.set_ (g:=bc) (by simp) k (.slice nA nl nc)))
    go_roundw
    case rel=>exact⟨k+1,_,by omega,by go_num,by rw[HUP.out];exact HP6.out,HT6.out⟩
    case measure=>simp[intOf];omega
  have hgo:=gE (show k<(wD p.zC).length by have:=HP.out.order;omega);obtain⟨i,hi⟩: ∃ i,(wD p.zC)[k]'(by have:=HP.out.order;omega)=i:=⟨_,rfl⟩;rw[hi] at hgo;clear hi;have HGO:=xN hgo;clear hgo;obtain⟨x,st,hi0,hin,hx,hst,hcl,hva,hno,hye⟩:=HTF.out k i HGO.out;have HGX:=xN hx;have HCL:=xN hcl;have HVN:=xN hva;have HNO:=xN hno;have HYE:=xN hye;clear hx hcl hva hno hye;obtain⟨bo,oo,hoA,hbo,hco⟩:=HXO.out k i HGO.out;subst hoA;have co:=(HBW.out.cell hbo).trans hco;have lo_:bo<wr.heap.size:=zW hbo HBW.out.size;clear hco;have hin2:i<(p.zC.length:Int):=by omega
  obtain⟨b1,off,cs1,hA,hb1,hcs,hcell⟩:=HX2.out i.toNat x HGX.out;subst hA;obtain⟨u3,rfl,hRY3⟩:=xR.yV (show T.rds _ _ _ by simpa only[xR.t,T.rd] using hcs);have d0:=(HBW.out.cell hb1).trans (hcell 0 (.int .i64 x.zG) rfl);have d1:=(HBW.out.cell hb1).trans (hcell 1 (.int .i64 x.fA) rfl);have d2:=(HBW.out.cell hb1).trans (hcell 2 (.int .i64 x.fB) rfl);have d3:=(HBW.out.cell hb1).trans (hcell 3 (u3) rfl);rw[show off+(i.toNat * 4+0)=off+i.toNat * 4 by omega] at d0;rw[show off+(i.toNat * 4+1)=off+i.toNat * 4+1 by omega] at d1;rw[show off+(i.toNat * 4+2)=off+i.toNat * 4+2 by omega] at d2;rw[show off+(i.toNat * 4+3)=off+i.toNat * 4+3 by omega] at d3;have RY3:=xN (T.yM hRY3 HBW.out);clear hRY3;clear hcs hcell;have RYi:=xN (T.xB.1 RY3.out);obtain⟨ua3,uc3,rfl,ul3,um3,ux3⟩:=RYi.out.open_;clear ux3;have hq1:b1<wr.heap.size:=zW hb1 HBW.out.size;have hvl_:(vQ p cells frame ((wD p.zC).take k) vals).length=p.zC.length:=by rw[uU,HVL.out]
  have HVK:=xN (HVO.out ((wD p.zC).take k) vals HVS.out);have HPI:=xN (zLy HP.out HS.out HFS.out HVK.out HGX.out hst);clear hst;generalize hVK:vQ p cells frame ((wD p.zC).take k) vals=VK at *;have RYX:=xN (T.yM RY3.out (show Below wr.heap.size wr (wr.alloc (.cells #[.int .i64 x.zG,.int .i64 x.fA,.int .i64 x.fB,.slice ua3 x.zK.length uc3] 167)) from zR.alloc zJ _));have HRX:=xN (show Below wr.heap.size wr (wr.alloc (.cells #[.int .i64 x.zG,.int .i64 x.fA,.int .i64 x.fB,.slice ua3 x.zK.length uc3] 167)) from zR.alloc zJ _);have HPX:=xN (HPL.out.below HRX.out);have HNX:=xN (Bk.born wr 167 #[.int .i64 x.zG,.int .i64 x.fA,.int .i64 x.fB,.slice ua3 x.zK.length uc3]);have HTX:=xN (HTR.out.trans (Trn.of_below HRX.out));have hBX:wr.heap.size<(wr.alloc (.cells #[.int .i64 x.zG,.int .i64 x.fA,.int .i64 x.fB,.slice ua3 x.zK.length uc3] 167)).heap.size:=HNX.out.lt;have kbX:=(HBK.out _ _ _ _ HPX.out).cell;have lbX:=HPX.out.bk.lt;have kn:=HNX.out.cell;have ln:=HNX.out.lt;obtain⟨sv,hsc,hsr,sn1,sn2⟩:=HPX.out.cel.each _ _ HCL.out;have HSR:=xN hsr;obtain⟨sA,sc,rfl,sl1,sm1,sx1⟩:=hsr.open_;clear sx1;have HSC:=xN ((HPX.out.cel.bk.cell i.toNat).trans hsc);clear hsr hsc;have HN_:=xN (HP.out.formed.nodes i.toNat x HGX.out);by_cases h6:x.zG=6
  ·
   have q0:(x.zG == 6)=true:=xA h6;obtain⟨hup,hou,hst0⟩:=HYE.out h6;obtain⟨y0,hy0⟩: ∃ y0,st[0]?=some y0:=⟨_,gE hst0⟩;have HUP:=xN hup;have HOU:=xN (show wK x p.zV (inF x frame VK) st=y0 by rw[hou,List.getD_eq_getElem?_getD,hy0];rfl);obtain⟨bs,os,cs_,hsv,_,_,hbs,hcs0⟩:=xY HSR.out hst0;injection hsv with e1 _ e3;subst e1 e3;have hy1:=hcs0 0 y0 hy0;rw[Nat.add_zero] at hy1;have HY0:=xN hy1;clear hcs0 hup hou hy0 hy1;clear h6;go_wp2;generalize hWX:(wr.alloc (.cells #[.int .i64 x.zG,.int .i64 x.fA,.int .i64 x.fB,.slice ua3 x.zK.length uc3] 167))=WX at *;clear hWX;clear kb lb kbX lbX kn ln co;have HPd:=xN HPX.out.drew;have HTd:=xN (trn_drew HTX.out);have HWd:=xN (show (∀ j,WX.drew.cell? ⟨b,j,none⟩= #[.int .i64 p.zS,.slice va1 p.zV.length vc1,.slice (some ⟨b1,off,none⟩) p.zC.length vc2,.slice va3 p.zT.length vc3,.slice (some ⟨bo,oo,none⟩) p.zC.length oc,.slice (some ⟨bv,0,none⟩) p.zC.length cv,.slice (some ⟨bc,0,none⟩) p.zC.length cc][j]?)∧WX.drew.cell? ⟨bc,i.toNat,none⟩=some (.slice (some ⟨bs,os,none⟩) st.length sc)∧WX.drew.cell? ⟨bs,os,none⟩=some (.int .i64 y0) from⟨(HBK.out _ _ _ _ HPd.out).cell,HSC.out,HY0.out⟩);refine vC (fun w'=>(∀ j,w'.cell? ⟨b,j,none⟩= #[.int .i64 p.zS,.slice va1 p.zV.length vc1,.slice (some ⟨b1,off,none⟩) p.zC.length vc2,.slice va3 p.zT.length vc3,.slice (some ⟨bo,oo,none⟩) p.zC.length oc,.slice (some ⟨bv,0,none⟩) p.zC.length cv,.slice (some ⟨bc,0,none⟩) p.zC.length cc][j]?)∧w'.cell? ⟨bc,i.toNat,none⟩=some (.slice (some ⟨bs,os,none⟩) st.length sc)∧w'.cell? ⟨bs,os,none⟩=some (.int .i64 y0)) 15 (by kernel_rfl) ?_ (fun hS0=>?_)
   ·exact HWd.out
   generalize hwd:WX.drew=wd at *;clear hwd;refine zE 0 hS0 ?_;refine zE 1 hS0 ?_;refine zE 2 hS0 ?_;refine zE 3 hS0 ?_;refine zE 4 hS0 ?_;refine zE 5 hS0 ?_;refine zE 6 hS0 ?_;refine zE 7 hS0 ?_;refine zE 8 hS0 ?_;refine zE 9 hS0 ?_;refine zE 10 hS0 ?_;refine zE 11 hS0 ?_;refine zE 12 hS0 ?_;refine zE 13 hS0 ?_;refine zE 14 hS0 ?_;refine qE ?_;have hgv:=gE (show i.toNat<VK.length by omega);have ck:=HPd.out.vals.yJz hgv;have fr:=HPd.out.vals.freeN i.toNat;have lv:=(HPd.out.vals.lt bv rfl).2;go_wp2;have HP6:=xN (HPd.out.setV i.toNat y0);have HT6:=xN (HTd.out.trans (Trn.set_ (g:=bv) (by simp) i.toNat (.int .i64 y0)))
   go_roundw
   case rel=>exact⟨k+1,cs,by omega,by go_num,by rw[HUP.out,HVN.out,HOU.out];exact HP6.out,HT6.out⟩
   case measure=>simp[intOf];omega
  have q0:(x.zG == 6)=false:=yZ h6;have HUP:=xN (HNO.out h6);clear h6;go_wp2;generalize hWX:(wr.alloc (.cells #[.int .i64 x.zG,.int .i64 x.fA,.int .i64 x.fB,.slice ua3 x.zK.length uc3] 167))=WX at *;clear hWX;generalize hB1:wr.heap.size=B1 at *;clear kb lb kbX lbX kn ln co;have HPd:=xN HPX.out.drew;have HNd:=xN (Bk.drew HNX.out);have HSd:=xN (show RdI WX.drew (.slice sA st.length sc) st from RdI.below HSR.out (Below.refl WX.heap.size WX).drew);have HTd:=xN (trn_drew HTX.out);have HBd:=xN HPd.out.bel;have HWd:=xN (show (∀ i,WX.drew.cell? ⟨b,i,none⟩= #[.int .i64 p.zS,.slice va1 p.zV.length vc1,.slice (some ⟨b1,off,none⟩) p.zC.length vc2,.slice va3 p.zT.length vc3,.slice (some ⟨bo,oo,none⟩) p.zC.length oc,.slice (some ⟨bv,0,none⟩) p.zC.length cv,.slice (some ⟨bc,0,none⟩) p.zC.length cc][i]?)∧(∀ i,WX.drew.cell? ⟨B1,i,none⟩= #[.int .i64 x.zG,.int .i64 x.fA,.int .i64 x.fB,.slice ua3 x.zK.length uc3][i]?)∧WX.drew.cell? ⟨bc,i.toNat,none⟩=some (.slice sA st.length sc) from⟨(HBK.out _ _ _ _ HPd.out).cell,HNd.out.cell,HSC.out⟩);have HYd:=xN (show T.rds WX.drew x.fs [.int .i64 x.zG,.int .i64 x.fA,.int .i64 x.fB,.slice ua3 x.zK.length uc3] from xR.rd_mk (T.yM RYX.out (Below.refl WX.heap.size WX).drew));have HFd:=xN (show RdI WX.drew fv frame from rd_trn2 HF.out HTd.out HF1.out HF2.out);refine vC (fun w'=>(∀ i,w'.cell? ⟨b,i,none⟩= #[.int .i64 p.zS,.slice va1 p.zV.length vc1,.slice (some ⟨b1,off,none⟩) p.zC.length vc2,.slice va3 p.zT.length vc3,.slice (some ⟨bo,oo,none⟩) p.zC.length oc,.slice (some ⟨bv,0,none⟩) p.zC.length cv,.slice (some ⟨bc,0,none⟩) p.zC.length cc][i]?)∧(∀ i,w'.cell? ⟨B1,i,none⟩= #[.int .i64 x.zG,.int .i64 x.fA,.int .i64 x.fB,.slice ua3 x.zK.length uc3][i]?)∧w'.cell? ⟨bc,i.toNat,none⟩=some (.slice sA st.length sc)) 34 (by kernel_rfl) ?_ (fun hS0=>?_)
  ·exact HWd.out
  generalize hwd:WX.drew=wd at *;clear hwd;refine zE 0 hS0 ?_;refine zE 1 hS0 ?_;refine zE 2 hS0 ?_;refine zE 3 hS0 ?_;refine zE 4 hS0 ?_;refine zE 5 hS0 ?_;refine zE 6 hS0 ?_;refine zE 7 hS0 ?_;refine zE 8 hS0 ?_;refine zE 9 hS0 ?_;refine zE 10 hS0 ?_;refine zE 11 hS0 ?_;refine zE 12 hS0 ?_;refine zE 13 hS0 ?_;refine zE 14 hS0 ?_;refine zE 15 hS0 ?_;refine zE 16 hS0 ?_;refine zE 17 hS0 ?_;refine zE 18 hS0 ?_;refine zE 20 hS0 ?_;refine zE 21 hS0 ?_;refine zE 22 hS0 ?_;refine zE 23 hS0 ?_;refine zE 24 hS0 ?_;refine zE 25 hS0 ?_;refine zE 26 hS0 ?_;have length_valsX:VK.length=p.zC.length:=hvl_;refine pE 19 (fun K hK=>?_);go_simp;go_wp2_with (go_at_call 287;refine(c_inputs x _ b frame _ fv _ _ (fun e1=>⟨(xK.1 (by have ha:=HN_.out.1.a;rw[e1] at ha;simpa[uX,kndL] using ha)).1,by rw[hfi];exact HN_.out.2.2 e1⟩) (by rw[length_valsX];exact HN_.out.2.1) (by have:=HN_.out.1.arity;have:=zOy HN_.out.1;omega) (HWd.out.1 5) HFd.out (OwI.rd HPd.out.vals) HYd.out).mono ?_;rintro e w4 ⟨iv,rfl,ho,hb⟩)
  have HI4:=xN (OwI.rd ho);have HP4:=xN (HPd.out.below hb);have HN4:=xN (HNd.out.below hb HNd.out.lt);have HS4:=xN (RdI.below HSd.out hb);have HT4:=xN (HTd.out.trans (Trn.of_below hb));have HY4:=xN (T.rds_keep hb.size (fun _ h=>hb.block _ h) _ _ HYd.out);have HC4:=xN ((hb.cell HPd.out.cel.bk.lt).trans HWd.out.2.2);have HW4:=xN (show (∀ i,w4.cell? ⟨b,i,none⟩= #[.int .i64 p.zS,.slice va1 p.zV.length vc1,.slice (some ⟨b1,off,none⟩) p.zC.length vc2,.slice va3 p.zT.length vc3,.slice (some ⟨bo,oo,none⟩) p.zC.length oc,.slice (some ⟨bv,0,none⟩) p.zC.length cv,.slice (some ⟨bc,0,none⟩) p.zC.length cc][i]?)∧(∀ i,w4.cell? ⟨B1,i,none⟩= #[.int .i64 x.zG,.int .i64 x.fA,.int .i64 x.fB,.slice ua3 x.zK.length uc3][i]?)∧w4.cell? ⟨bc,i.toNat,none⟩=some (.slice sA st.length sc) from⟨(HBK.out _ _ _ _ HP4.out).cell,HN4.out.cell,HC4.out⟩);clear ho hb;refine uE hK ?_ (fun hS1=>?_)
  ·exact HW4.out
  clear hK K hS0;refine pE 27 (fun K hK=>?_);go_simp;go_wp2_with (go_at_call 286;refine(c_step x _ p.zV _ st _ _ _ _ HPI.out (T.yM R1.out HP4.out.bel) HI4.out HS4.out HY4.out).mono ?_;rintro e w5 ⟨nv,rfl,ho,hb⟩)
  have HO5:=xN (OwI.rd ho);have HL5:=xN ho.lt;have HP5:=xN (HP4.out.below hb);have HN5:=xN (HN4.out.below hb HN4.out.lt);have HT5:=xN (HT4.out.trans (Trn.of_below hb));have HC5:=xN ((hb.cell HP4.out.cel.bk.lt).trans HW4.out.2.2);have HNE:=xN (show (∀ q ∈ A,nv.ownBlock≠some q)∧ ∀ k,nv.ownBlock=some k→k<w5.heap.size from⟨fun q hq e=>absurd (ho.lt _ e).1 (by have:=HP4.out.alt q hq;omega),fun k hk=>(ho.lt k hk).2⟩);have HW5:=xN (show (∀ i,w5.cell? ⟨b,i,none⟩= #[.int .i64 p.zS,.slice va1 p.zV.length vc1,.slice (some ⟨b1,off,none⟩) p.zC.length vc2,.slice va3 p.zT.length vc3,.slice (some ⟨bo,oo,none⟩) p.zC.length oc,.slice (some ⟨bv,0,none⟩) p.zC.length cv,.slice (some ⟨bc,0,none⟩) p.zC.length cc][i]?)∧(∀ i,w5.cell? ⟨B1,i,none⟩= #[.int .i64 x.zG,.int .i64 x.fA,.int .i64 x.fB,.slice ua3 x.zK.length uc3][i]?)∧w5.cell? ⟨bc,i.toNat,none⟩=some (.slice sA st.length sc) from⟨(HBK.out _ _ _ _ HP5.out).cell,HN5.out.cell,HC5.out⟩);clear ho hb;refine uE hK ?_ (fun hS2=>?_)
  ·exact HW5.out
  clear hK K hS1;refine zE 28 hS2 ?_;refine zE 29 hS2 ?_;refine zE 30 hS2 ?_;refine zE 31 hS2 ?_;have hgv:=gE (show i.toNat<VK.length by omega);have ck:=HP5.out.vals.yJz hgv;have fr:=HP5.out.vals.freeN i.toNat;have lv:=(HP5.out.vals.lt bv rfl).2;clear hgv;have HP6:=xN (HP5.out.setV i.toNat (wK x p.zV (inF x frame VK) st));have HT6:=xN (HT5.out.trans (Trn.set_ (g:=bv) (by simp) i.toNat (.int .i64 (wK x p.zV (inF x frame VK) st))));have HN6:=xN (HN5.out.far (p:=⟨bv,i.toNat,none⟩) (show B1≠bv by have h:=(HPL.out.vals.lt bv rfl).2;omega) (.int .i64 (wK x p.zV (inF x frame VK) st)));have HO6:=xN (RdI.grown HO5.out ((Gr.refl bv w5).set_ i.toNat (.int .i64 (wK x p.zV (inF x frame VK) st))).1 (fun b hb e=>HNE.out.1 bv HP5.out.av (hb.trans e)));obtain⟨nA,nl,nc,rfl⟩: ∃ A l c,nv= .slice A l c:=by obtain⟨A,c,e,_⟩:=HO5.out.open_;exact⟨A,_,c,e⟩
  have HC6:=xN ((HP6.out.cel.bk.cell i.toNat).trans ((HP5.out.cel.bk.cell i.toNat).symm.trans HW5.out.2.2));obtain⟨w6,hw6⟩: ∃ w6,w6=(w5.setCell ⟨bv,i.toNat,none⟩ (.int .i64 (wK x p.zV (inF x frame VK) st))):=⟨_,rfl⟩;rw[←hw6] at HP6 HN6 HO6 HT6 HC6;have HW6:=xN (show (∀ i,w6.cell? ⟨b,i,none⟩= #[.int .i64 p.zS,.slice va1 p.zV.length vc1,.slice (some ⟨b1,off,none⟩) p.zC.length vc2,.slice va3 p.zT.length vc3,.slice (some ⟨bo,oo,none⟩) p.zC.length oc,.slice (some ⟨bv,0,none⟩) p.zC.length cv,.slice (some ⟨bc,0,none⟩) p.zC.length cc][i]?)∧(∀ i,w6.cell? ⟨B1,i,none⟩= #[.int .i64 x.zG,.int .i64 x.fA,.int .i64 x.fB,.slice ua3 x.zK.length uc3][i]?)∧w6.cell? ⟨bc,i.toNat,none⟩=some (.slice sA st.length sc) from⟨(HBK.out _ _ _ _ HP6.out).cell,HN6.out.cell,HC6.out⟩);have hz6:w6.heap.size=w5.heap.size:=by rw[hw6];simp[World.setCell]
  have HZ6:=xN hz6;clear hz6;subst hw6;refine pE 32 (fun K hK=>?_);go_simp;refine uE hK ?_ (fun hS3=>?_)
  ·exact HW6.out
  clear hK K hS2;refine zE 33 hS3 ?_;refine qE ?_;have ck2:=HW6.out.2.2;have fr2:=HP6.out.cel.bk.free i.toNat;have lc2:=HP6.out.cel.bk.lt;clear ck fr lv;go_wp2;have HP7:=xN (HP6.out.setC HCL.out HO6.out HNE.out.1 (fun q hq=>by rw[HZ6.out];exact HNE.out.2 q hq));have HT7:=xN (HT6.out.trans (Trn.set_ (g:=bc) (by simp) i.toNat (.slice nA nl nc)))
  go_roundw
  case rel=>exact⟨k+1,_,by omega,by go_num,by rw[HUP.out,HVN.out];exact HP7.out,HT7.out⟩
  case measure=>simp[intOf];omega
end
section
open Go.RowKit
section
variable {i:Nat} {lat:Int} {out:List Int} {l:List xV}
theorem entS_keep {j:Nat} (hj: ∀ s ∈ l,s.yG.toNat≠j): ∀ k,(zUz i lat out l k).getD j 0=out.getD j 0
 |0=>rfl
 |k+1=>by
  have ih:=entS_keep hj k;simp only[zUz]
  split
  ·next s hs=>rw[yOy (hj s (List.mem_of_getElem? hs))];exact ih
  ·exact ih
theorem entS_grow (j k:Nat):(zUz i lat out l k).getD j 0≤(zUz i lat out l (k+1)).getD j 0:=by
 simp only[zUz]
 split
 ·next s hs=>
  by_cases e:s.yG.toNat=j
  ·subst e
   by_cases hl:s.yG.toNat<(zUz i lat out l k).length
   ·rw[xMz hl];exact Int.le_max_left _ _
   ·rw[List.set_eq_of_length_le zM];exact Int.le_refl _
  ·rw[yOy e];exact Int.le_refl _
 ·exact Int.le_refl _
theorem entS_ge (j:Nat): ∀ k,out.getD j 0≤(zUz i lat out l k).getD j 0
 |0=>Int.le_refl _
 |k+1=>Int.le_trans (entS_ge j k) (entS_grow j k)
theorem entS_hit {q:Nat} {s:xV} (hs:l[q]?=some s) (hi: ∀ s ∈ l,s.yG.toNat≠i) (hl:s.yG.toNat<out.length): ∀ k,q<k→out.getD i 0+lat≤(zUz i lat out l k).getD s.yG.toNat 0
 |0,h=>absurd h zM
 |k+1,h=>by
  by_cases e:k=q
  ·subst e
   simp only[zUz,hs];rw[xMz (by rw[xBz];exact hl),entS_keep hi];exact Int.le_max_right _ _
  ·exact Int.le_trans (entS_hit hs hi hl k zM) (entS_grow _ k)
end
section
variable {l:List xP}
theorem entUp_grow (j k:Nat):(vY l k).getD j 0≤(vY l (k+1)).getD j 0:=by
 simp only[vY]
 split
 ·exact entS_ge j _
 ·exact Int.le_refl _
theorem entUp_ge (j k:Nat): ∀ d,(vY l k).getD j 0≤(vY l (k+d)).getD j 0
 |0=>Int.le_refl _
 |d+1=>Int.le_trans (entUp_ge j k d) (entUp_grow j (k+d))
theorem entUp_keep (hto: ∀ (i:Nat) (x:xP),l[i]?=some x→ ∀ s ∈ x.zY,i<s.yG.toNat) (i:Nat): ∀ d,(vY l (i+d)).getD i 0=(vY l i).getD i 0
 |0=>rfl
 |d+1=>by
  have ih:=entUp_keep hto i d;rw[←Nat.add_assoc];simp only[vY]
  split
  ·next x hx=>rw[entS_keep (fun s hs=>by have:=hto _ _ hx s hs;omega)];exact ih
  ·exact ih
end
theorem mix_forward {m:wG} (h:uP m): ∀ (i:Nat) (x:xP),m.zD[i]?=some x→ ∀ s ∈ x.zY,i<s.yG.toNat:=by
 intro i x hx s hs;obtain⟨k,hk⟩:=List.mem_iff_getElem?.1 hs;have:=zFz h hx k s hk
 omega
theorem wait_ok {m:wG} (h:uP m) {i:Nat} {x:xP} (hx:m.zD[i]?=some x) {q:Nat} {s:xV} (hs:x.zY[q]?=some s):0≤yBz (wQ m) i x s∧yBz (wQ m) i x s≤256:=by
 have hf:=mix_forward h;have hi:i<m.zD.length:=(List.getElem?_eq_some_iff.1 hx).1;have hq:q<x.zY.length:=(List.getElem?_eq_some_iff.1 hs).1;have ht:=zFz h hx q s hs;have hm:=hf i x hx s (List.mem_of_getElem? hs);have hl:=zBz.1 (h.each i x hx).1.latency
 have e1:(wQ m).getD i 0=(vY m.zD i).getD i 0:=by
  have:=entUp_keep hf i (m.zD.length - i);rw[show i+(m.zD.length - i)=m.zD.length by omega] at this;exact this
 have e2:(vY m.zD (i+1)).getD s.yG.toNat 0≤(wQ m).getD s.yG.toNat 0:=by
  have:=entUp_ge (l:=m.zD) s.yG.toNat (i+1) (m.zD.length - (i+1));rw[show i+1+(m.zD.length - (i+1))=m.zD.length by omega] at this;exact this
 have e3:(vY m.zD i).getD i 0+x.zU≤(vY m.zD (i+1)).getD s.yG.toNat 0:=by
  simp only[vY,hx];exact entS_hit hs (fun s' hs' e=>by have:=hf i x hx s' hs';omega) (by rw[yHz];omega) _ hq
 have u1:=yAz h i;have u2:=yAz h s.yG.toNat;unfold yBz
 omega
structure wEz (m n:Nat) (ins:List (List Int)):Prop where
 len:ins.length=m
 each: ∀ l ∈ ins,l.length=n∧ ∀ y ∈ l,Smp y
section
variable {m n:Nat} {ins:List (List Int)}
theorem wEz.get (h:wEz m n ins) {i:Nat} (hi:i<m): ∃ l,ins[i]?=some l∧ins.getD i []=l∧l.length=n∧ ∀ y ∈ l,Smp y:=by
 have hg:=gE (show i<ins.length by rw[h.len];exact hi);have:=h.each _ (List.mem_of_getElem? hg);exact⟨_,hg,by rw[List.getD_eq_getElem?_getD,hg];rfl,this.1,this.2⟩
theorem wEz.set (h:wEz m n ins) (i:Nat) {l:List Int} (h1:l.length=n) (h2: ∀ y ∈ l,Smp y):wEz m n (ins.set i l):=by
 refine⟨by rw[List.length_set,h.len],fun l' hl'=>?_⟩
 rcases List.mem_or_eq_of_mem_set hl' with e|e
 ·exact h.each l' e
 ·subst e;exact⟨h1,h2⟩
theorem wEz.add (h:wEz m n ins) {i:Nat} (hi:i<m) {b:List Int} (hb:b.length=n) (g:Int):wEz m n (ins.set i (addS (ins.getD i []) b g)):=by
 obtain⟨l,_,e,h1,_⟩:=h.get hi;rw[e];exact h.set i (by rw[length_addS,h1,hb,Nat.max_self]) smp_addS
end
theorem ins_zero (m n:Nat):wEz m n (List.replicate m (List.replicate n 0)):=
 ⟨by simp,fun l hl=>by rw[(List.mem_replicate.1 hl).2];exact⟨by simp,zNy⟩⟩
theorem zPy {s:xS} (h:vO s) (n:Nat): ∀ k,wEz s.zH.zD.length n (zVz s n k)
 |0=>ins_zero _ _
 |k+1=>by
  have ih:=zPy h n k;simp only[zVz]
  split
  ·next t f ht hf=>exact ih.add (by have:=h.feeds k f hf;omega) (zQz _ _ _) 1
  ·exact ih
theorem zQy {m n:Nat} {y:List Int} {waits:List Int} {l:List xV} {ins:List (List Int)} (h:wEz m n ins) (hto: ∀ s ∈ l,s.yG.toNat<m): ∀ k,wEz m n (yCz y n waits l ins k)
 |0=>h
 |k+1=>by
  have ih:=zQy (y:=y) (waits:=waits) h hto k;simp only[yCz]
  split
  ·next s hs=>exact ih.add (hto s (List.mem_of_getElem? hs)) (zQz _ _ _) _
  ·exact ih
theorem wQz {ins:List (List Int)} (h: ∀ l ∈ ins,∀ y ∈ l,Smp y) (t:Nat): ∀ y ∈ xNz ins t,Smp y:=by
 intro y hy;unfold xNz at hy;obtain⟨l,hl,rfl⟩:=List.mem_map.1 hy;exact wJz (h l hl) _
theorem wRz {p:xO} (h:vN p) {ins:List (List Int)} (hi: ∀ l ∈ ins,∀ y ∈ l,Smp y): ∀ t,StOk p (zXz p ins t)
 |0=>st_start h
 |t+1=>st_next h (wRz h hi t) (wQz hi t) (valsF_smp h (wRz h hi t) (wQz hi t))
theorem yCy {p:xO} (h:vN p) {ins:List (List Int)} (hi: ∀ l ∈ ins,∀ y ∈ l,Smp y) (t:Nat): ∀ y ∈ xGz p ins t,Smp y:=
 valsF_smp h (wRz h hi t) (wQz hi t)
theorem yOz (p:xO) (ins:List (List Int)) (t:Nat):(xGz p ins t).length=p.zC.length:=wIz
def zYz (p:xO) (y:List Int) (n:Nat):List Int:=(List.range n).map fun t=>(xGz p [y] t).getD (p.zT.getD 0 0).toNat 0
theorem zGz (p:xO) (y:List Int) (n:Nat):(zYz p y n).length=n:=by simp[zYz]
theorem rowF_snoc (p:xO) (y:List Int) (n:Nat):zYz p y (n+1)=zYz p y n++ [(xGz p [y] n).getD (p.zT.getD 0 0).toNat 0]:=by simp[zYz,List.range_succ]
theorem rowF_smp {p:xO} (h:vN p) {y:List Int} (hy: ∀ z ∈ y,Smp z) (n:Nat): ∀ z ∈ zYz p y n,Smp z:=by
 intro z hz;unfold zYz at hz;obtain⟨t,_,rfl⟩:=List.mem_map.1 hz;exact wBz (yCy h (fun l hl=>by simp at hl;subst hl;exact hy) t) _
theorem render_row {p:xO} (h:p.zT.length=1) (y:List Int) (n:Nat):renderF p [y] n= [zYz p y n]:=by
 unfold renderF zYz
 match hp:p.zT with
 | []=>rw[hp] at h;simp at h
 | [o]=>rfl
 |o :: o' :: r=>rw[hp] at h;simp at h
theorem effF_row {p:xO} (h:p.zT.length=1) (hn: ¬ p=zHz) (y:List Int) (n:Nat):effF p y n=zYz p y n:=by
 unfold effF;rw[if_neg hn,render_row h];rfl
theorem effF_ok {p:xO} (h:vHz p) {y:List Int} {n:Nat} (hl:y.length=n) (hy: ∀ z ∈ y,Smp z):(effF p y n).length=n∧ ∀ z ∈ effF p y n,Smp z:=by
 by_cases e:p=zHz
 ·unfold effF;rw[if_pos e];exact⟨hl,hy⟩
 ·rcases h with h|⟨h1,_,h3⟩
  ·exact absurd h e
  ·rw[effF_row h3 e];exact⟨zGz _ _ _,rowF_smp h1 hy n⟩
theorem stripY_ok {s:xS} {n:Nat} {ins:List (List Int)} {i:Nat} {x:xP} (hs:vO s) (h:wEz s.zH.zD.length n ins) (hi:i<s.zH.zD.length):(vU s n ins i x).length=n∧ ∀ z ∈ vU s n ins i x,Smp z:=by
 unfold vU;obtain⟨l,_,e,h1,h2⟩:=h.get hi;have hg:=gE (show i<s.zO.length by rw[hs.effect];exact hi);rw[e,List.getD_eq_getElem?_getD,hg];exact⟨zQz _ _ _,vKz (effF_ok (hs.effects i _ hg) h1 h2).2⟩
theorem to_lt {m:wG} (h:uP m) {i:Nat} {x:xP} (hx:m.zD[i]?=some x): ∀ s ∈ x.zY,s.yG.toNat<m.zD.length:=by
 intro s hs;obtain⟨k,hk⟩:=List.mem_iff_getElem?.1 hs;have:=zFz h hx k s hk
 omega
theorem xPz {s:xS} (h:vO s) (n:Nat): ∀ k,k≤s.zH.zD.length→wEz s.zH.zD.length n (wJ s n k).1∧wEz k n (wJ s n k).2
 |0,_=>⟨zPy h n _,⟨rfl,fun l hl=>by simp[wJ] at hl⟩⟩
 |k+1,hk=>by
  obtain⟨h1,h2⟩:=xPz h n k zM;have hg:=gE (show k<s.zH.zD.length by omega);simp only[wJ,hg];refine⟨zQy h1 (to_lt h.mixer hg) _,⟨by simp[h2.len],fun l hl=>?_⟩⟩
  rcases List.mem_append.1 hl with hl|hl
  ·exact h2.each l hl
  ·simp at hl;subst hl;exact stripY_ok h h1 zM
theorem ySy {s:xS} {n k:Nat} {x:xP} (hx:s.zH.zD[k]?=some x):wJ s n (k+1)=(yCz (vU s n (wJ s n k).1 k x) n ((uQ s.zH).getD k []) x.zY (wJ s n k).1 x.zY.length,(wJ s n k).2++ [vU s n (wJ s n k).1 k x]):=by
 simp only[wJ,hx]
theorem feedUp_step {s:xS} {n k:Nat} {t:xQ} {f:Int} (ht:s.zL[k]?=some t) (hf:s.zX[k]?=some f):zVz s n (k+1)=(zVz s n k).set f.toNat (addS ((zVz s n k).getD f.toNat []) (zNz (zIz s.zI t s.zF.toNat) ((wQ s.zH).getD f.toNat 0).toNat n) 1):=by
 simp only[zVz,ht,hf]
theorem sendUp_step {y:List Int} {n:Nat} {waits:List Int} {l:List xV} {ins:List (List Int)} {k:Nat} {s:xV} (hs:l[k]?=some s):yCz y n waits l ins (k+1)=(yCz y n waits l ins k).set s.yG.toNat (addS ((yCz y n waits l ins k).getD s.yG.toNat []) (zNz y (waits.getD k 0).toNat n) s.yB):=by
 simp only[yCz,hs]
theorem yTy {m:wG} (h:uP m):0≤uI m∧uI m≤288:=by
 have hn:=h.some_;have hg:=gE (show m.zD.length - 1<m.zD.length by omega);have h1:=yAz h (m.zD.length - 1);have h2:=zBz.1 (h.each _ _ hg).1.latency;unfold uI;rw[List.getD_eq_getElem?_getD (l:=m.zD),hg];simp only[Option.getD_some]
 omega
theorem yUy {s:xS} (h:vO s):wEz s.zH.zD.length (s.zF+uI s.zH).toNat (outsF s):=(xPz h _ _ zJ).2
theorem uWz {s:xS} :(zLz s).length=s.zF.toNat:=yYz _ _ _
theorem smpAt_zeros (l:List Int) (c:Nat) (i:Int):vF (l++List.replicate c 0) i=vF l i:=by
 unfold vF;rw[List.length_append,List.length_replicate];by_cases h0:0≤i
 ·by_cases h1:i<(l.length:Int)
  ·rw[if_pos ⟨h0,by omega⟩,if_pos ⟨h0,h1⟩,List.getD_eq_getElem?_getD,List.getElem?_append_left zM,List.getD_eq_getElem?_getD]
  ·rw[show (if 0≤i∧i<(l.length:Int) then l.getD i.toNat 0 else 0)=0 from if_neg (fun h=>h1 h.2)]
   split
   ·rw[List.getD_eq_getElem?_getD,List.getElem?_append_right zM,List.getElem?_replicate]
    split<;>rfl
   ·rfl
 ·rw[if_neg (fun h=>h0 h.1),if_neg (fun h=>h0 h.1)]
theorem late_zeros (a:List Int) (c b n:Nat):zNz (a++List.replicate c 0) b n=zNz a b n:=by
 unfold zNz cutL;rw[←List.append_assoc]
 apply List.map_congr_left
 intro i _;exact smpAt_zeros _ _ _
def wDz (m:wG):List Int:=m.zD.mapIdx fun i x=>(wQ m).getD i 0+x.zU
theorem vCz (m:wG):(wDz m).length=m.zD.length:=by simp[wDz]
theorem ready_at {m:wG} {k:Nat} {x:xP} (hx:m.zD[k]?=some x):(wDz m)[k]?=some ((wQ m).getD k 0+x.zU):=by
 unfold wDz;rw[List.getElem?_mapIdx,hx];rfl
theorem ready_last {m:wG} (h:uP m):(wDz m)[m.zD.length - 1]?=some (uI m):=by
 have hn:=h.some_;have hg:=gE (show m.zD.length - 1<m.zD.length by omega);rw[ready_at hg];unfold uI;rw[List.getD_eq_getElem?_getD (l:=m.zD),hg]
 rfl
end
section
open Go.RowKit
theorem ows_rows {w:World} {E:TypeId} : ∀ (rows:List (List Int)) (G:List Nat) (es:List Value),T.ows w (rows.map (T.ints E)) G es→ ∀ (i:Nat) (l:List Int),rows[i]?=some l→ ∃ u:Value,es[i]?=some u∧OwI E w 0 u l∧ ∀ k,u.ownBlock=some k→k ∈ G
 | [],_,_,_,i,l,hl=>by simp at hl
 |l0 :: rows,G,es,h,i,l,hl=>by
  rw[List.map_cons] at h;simp only[T.ows] at h;obtain⟨F1,F2,c1,c2,rfl,rfl,h1,h2⟩:=h;obtain⟨u,rfl⟩:=T.rd_one (T.ow_rd _ _ _ h1)
  cases i with
  |zero=>
   injection hl with hl;subst hl;obtain⟨h3,h4⟩:=T.ow_ints.1 h1;exact⟨u,rfl,h3,fun k hk=>by rw[h4,hk];simp⟩
  |succ i=>
   obtain⟨u',h3,h4,h5⟩:=ows_rows rows F2 c2 h2 i l hl;exact⟨u',h3,h4,fun k hk=>List.mem_append_right _ (h5 k hk)⟩
theorem own_base {E:TypeId} {w:World} {B:Nat} {v:Value} {xs:List Int} (h:OwI E w 0 v xs) (hb: ∀ k,v.ownBlock=some k→B≤k):OwI E w B v xs:=by
 refine⟨h.1,?_⟩
 rcases h.2 with hn|⟨g,cap,cur,rfl,_,rest⟩
 ·exact .inl hn
 ·exact .inr ⟨g,cap,cur,rfl,hb g rfl,rest⟩
theorem Own.rows {B:Nat} {w:World} {t E:TypeId} {rows:List (List Int)} {F:List Nat} {v:Value} (h:Own B w (T.sl t 1 (rows.map (T.ints E))) F v) (hn:0<rows.length):
  ∃ (bc cap:Nat) (cs:Array Value),v= .slice (some ⟨bc,0,none⟩) rows.length cap∧rows.length≤cap∧B≤bc∧Bk w bc t cs∧ ∀ (i:Nat) (l:List Int),rows[i]?=some l→ ∃ u:Value,cs[i]?=some u∧OwI E w B u l∧u.ownBlock≠some bc∧ ∀ k,u.ownBlock=some k→B≤k∧k<w.heap.size:=by
 have hlo:=h.lo;have hnd:=h.nodup;have hlt:=h.lt;have how:=h.ow;simp only[T.ow] at how;obtain⟨v',es,G,hv,rfl,_,h1,h2⟩:=how;injection hv with hv;subst hv;obtain⟨hl,h1⟩:=h1
 rcases h1 with ⟨_,h0⟩|⟨g,cap,cur,rfl,_,hg,hcap,_,_,htk⟩
 ·rw[List.length_map] at h0;omega
 rw[List.length_map] at *;rw[Nat.mul_one] at *;refine⟨g,cap,cur,rfl,hcap,hlo g (by simp[Value.ownBlock]),hg,fun i l hi=>?_⟩;obtain⟨u,h3,h4,h5⟩:=ows_rows rows G es h2 i l hi;have hil:i<rows.length:=(List.getElem?_eq_some_iff.1 hi).1;refine⟨u,?_,own_base h4 fun k hk=>hlo k (List.mem_append_right _ (h5 k hk)),fun e=>?_,fun k hk=>⟨hlo k (List.mem_append_right _ (h5 k hk)),hlt k (List.mem_append_right _ (h5 k hk))⟩⟩
 ·rw[←htk,List.getElem?_take_of_lt hil] at h3
  rw[←Array.getElem?_toList];exact h3
 ·rw[List.nodup_append] at hnd
  exact hnd.2.2 g (by simp[Value.ownBlock]) g (h5 g e) rfl
theorem startL_eq (x:xR):vV x=wO x:=rfl
end
end Go.Proofs.YtoibekfhepnedaaGreat
