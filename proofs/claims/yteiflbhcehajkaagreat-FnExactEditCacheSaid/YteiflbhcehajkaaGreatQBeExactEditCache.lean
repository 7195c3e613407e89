/- Contract: the program's ApplyEdit. Contracts: the range of an edit, by the program. -/
import Derived.Test.YteiflbhcehajkaaGreatQBdExactEditCache
import Derived.Test.YteiflbhcehajkaaGreatQAvExactEditCache
set_option linter.unusedVariables false
set_option linter.unusedSimpArgs false
set_option maxHeartbeats 1000000
set_option maxRecDepth 100000
section
namespace Go.Proofs.YteiflbhcehajkaaGreat
open Go.RowKit
theorem applyF_session {s:GSession} {e:GEdit} (h: ¬ SessionOk s):applyF s e=(noSession,1):=by
 unfold applyF
 rw[if_neg (by rw[yV (fun k=>h k.1)];simp)]
end Go.Proofs.YteiflbhcehajkaaGreat
end
section
namespace Go.Proofs.YteiflbhcehajkaaGreat
open Go.RowKit
theorem clips_lit {w:World} {g:Nat} {E:TypeId} {l:List GClip} {cs:List Value} (hb:Bk w g E cs.toArray) (hs:l.length≤9223372036854775807) (h:T.rds w (l.map GClip.t) cs):T.rd w (T.sl E 5 (l.map GClip.t)) [.slice (some ⟨g,0,none⟩) l.length l.length]:=by
 simp only[T.rd]
 refine⟨_,cs,rfl,fun x hx=>?_,?_,h⟩
 ·obtain⟨y,_,rfl⟩:=List.mem_map.1 hx;exact GClip.wide_t y
 ·have hl:cs.length=l.length * 5:=by
   rw[T.rds_len _ _ h,T.wides_mul (sz:=5) _ (fun x hx=>by obtain⟨y,_,rfl⟩:=List.mem_map.1 hx;exact GClip.wide_t y),List.length_map]
  refine⟨by rw[hl,List.length_map],some ⟨g,0,none⟩,l.length,by rw[List.length_map],by rw[List.length_map];exact Nat.le_refl _,?_,fun _=>⟨g,0,rfl,hb.lt,fun j u hj=>?_⟩⟩
  ·exact hs
  ·rw[Nat.zero_add];exact(hb.cell j).trans (by simpa using hj)
theorem T.rds_cons1 {w:World} {c:GClip} {cs:List Value} (h:T.rds w c.fs cs):T.rds w ([c].map GClip.t) cs:=by
 simp only[List.map_cons,List.map_nil,T.rds]
 exact⟨cs,[],by simp,by simpa only[GClip.t,T.rd] using h,rfl⟩
theorem T.rds_cons2 {w:World} {c d:GClip} {cs ds:List Value} (h:T.rds w c.fs cs) (k:T.rds w d.fs ds):T.rds w ([c,d].map GClip.t) (cs++ds):=by
 simp only[List.map_cons,List.map_nil,T.rds]
 exact⟨cs,ds,rfl,by simpa only[GClip.t,T.rd] using h,ds,[],by simp,by simpa only[GClip.t,T.rd] using k,rfl⟩
theorem T.nil_rd (w:World) (E:TypeId) (sz:Nat):T.rd w (T.sl E sz (([]:List GClip).map GClip.t)) [.slice none 0 0]:=by
 simp only[T.rd,List.map_nil]
 exact⟨_,[],rfl,by simp,Rd.nil_ w sz,rfl⟩
theorem spanF_at {l:List GClip} {c:GClip} (h:l[0]?=some c):spanF l=(lowF c.zW l,highF 0 l):=by
 cases l with
 |nil=>simp at h
 |cons x r=>simp at h;subst h;rfl
theorem lowF_bd {l:List GClip} {a:Int} (ha:0≤a∧a≤4000) (h: ∀ c ∈ l,ClipOk c):0≤lowF a l∧lowF a l≤4000:=by
 induction l generalizing a with
 |nil=>exact ha
 |cons x r ih=>
  have h1:=yY.1 (h x (by simp)).at_
  have h2:=yY.1 (h x (by simp)).length
  exact ih (a:=min a x.zW) (by omega) (fun c hc=>h c (by simp[hc]))
theorem highF_bd {l:List GClip} {a:Int} (ha:0≤a∧a≤4000) (h: ∀ c ∈ l,ClipOk c):0≤highF a l∧highF a l≤4000:=by
 induction l generalizing a with
 |nil=>exact ha
 |cons x r ih=>
  have h1:=yY.1 (h x (by simp)).at_
  have h2:=yY.1 (h x (by simp)).length
  exact ih (a:=max a (x.zW+x.zA)) (by omega) (fun c hc=>h c (by simp[hc]))
theorem lowF_take {l:List GClip} {a:Int} {k:Nat} {c:GClip} (h:l[k]?=some c):lowF a (l.take (k+1))=min (lowF a (l.take k)) c.zW:=by rw[take_snoc_of h,lowF_snoc]
theorem highF_take {l:List GClip} {a:Int} {k:Nat} {c:GClip} (h:l[k]?=some c):highF a (l.take (k+1))=max (highF a (l.take k)) (c.zW+c.zA):=by rw[take_snoc_of h,highF_snoc]
theorem c_spanOf (v:Value) (l:List GClip) (w:World) (hl: ∀ c ∈ l,ClipOk c) (hr:T.rd w (T.sl 60 5 (l.map GClip.t)) [v]):Calls Tryz.prog 111 #[v] w fun e w'=>e= .returned (.tuple #[.int .i64 (spanF l).1,.int .i64 (spanF l).2])∧Below w.heap.size w w':=by
 obtain⟨A,cap,rfl,hln,hc,hx⟩:=T.yK hr;have HX:=hide hx;clear hx hr
 have HOK:=hide hl;clear hl
 go_enter Tryz.func111,Tryz.ntmps111
 by_cases h0:l.length=0
 ·obtain rfl:l= []:=List.eq_nil_of_length_eq_zero h0
  clear h0
  go_wp2
  refine bodyPost_ret (v:= .tuple #[.int .i64 0,.int .i64 0]) (by simp[results,Tryz.results111,go_sem]) rfl ?_
  exact⟨rfl,Below.refl _ _⟩
 have hlt0:0<l.length:=by omega
 have hg0:=List.getElem?_eq_getElem hlt0
 obtain⟨b0,of0,cs0,hA0,hb0,hcs0,hcell0⟩:=HX.out 0 l[0] hg0
 subst hA0
 generalize l[0]=z at *
 have HSP:=hide (spanF_at hg0);have HZ:=hide (HOK.out z (List.mem_of_getElem? hg0));clear hg0
 have HBr:=hide (Below.refl w.heap.size w)
 obtain rfl:=GClip.yL (show T.rds _ _ _ by simpa only[GClip.t,T.rd] using hcs0)
 have p0:=(HBr.out.cell hb0).trans (hcell0 0 (.int .i64 z.zO) rfl)
 have p1:=(HBr.out.cell hb0).trans (hcell0 1 (.int .i64 z.zI) rfl)
 have p2:=(HBr.out.cell hb0).trans (hcell0 2 (.int .i64 z.zA) rfl)
 have p3:=(HBr.out.cell hb0).trans (hcell0 3 (.int .i64 z.zW) rfl)
 have p4:=(HBr.out.cell hb0).trans (hcell0 4 (.int .i64 z.zQ) rfl)
 rw[show of0+(0 * 5+0)=of0 by omega] at p0
 rw[show of0+(0 * 5+1)=of0+1 by omega] at p1
 rw[show of0+(0 * 5+2)=of0+2 by omega] at p2
 rw[show of0+(0 * 5+3)=of0+3 by omega] at p3
 rw[show of0+(0 * 5+4)=of0+4 by omega] at p4
 clear hcs0 hcell0
 have hz1:=yY.1 HZ.out.at_;have hz2:=yY.1 HZ.out.length
 have h0i: ¬ (l.length:Int)=0:=by omega
 clear h0
 go_wp2
 go_loopw [4,5,17] (fun a b i wr=> ∃ (k:Nat) (am bm:Int),k≤l.length∧i= .int .i64 k∧a= .int .i64 am∧b= .int .i64 bm∧am=lowF z.zW (l.take k)∧bm=highF 0 (l.take k)∧Below w.heap.size w wr) (fun _ _ i _=>l.length - (intOf i).toNat)
 case atStart=>exact⟨0,_,_,Nat.zero_le _,rfl,rfl,rfl,rfl,rfl,Below.refl _ _⟩
 case round=>
  obtain⟨k,am,bm,hk,rfl,rfl,rfl,ha,hb,hbw⟩:=hrel
  have HA:=hide ha;have HB0:=hide hb;have HB:=hide hbw;clear ha hb hbw
  by_cases hlt:k<l.length
  rotate_left
  ·obtain rfl:k=l.length:=by omega
   have hA:=HA.out;have hB:=HB0.out;rw[List.take_length] at hA hB;have HR:=hide (And.intro hA hB);clear hA hB
   go_wp2
   refine bodyPost_ret (v:= .tuple #[.int .i64 am,.int .i64 bm]) (by simp[results,Tryz.results111,go_sem]) rfl ?_
   exact⟨by rw[HSP.out,HR.out.1,HR.out.2],HB.out⟩
  have hgk:=List.getElem?_eq_getElem hlt
  obtain⟨b1,off,cs1,hA,hb1,hcs,hcell⟩:=HX.out k l[k] hgk
  obtain⟨rfl,rfl⟩:b0=b1∧of0=off:=by injection hA with hA;injection hA with e1 e2;exact⟨e1,e2⟩
  clear hA
  generalize l[k]=y at *
  have HG:=hide hgk;clear hgk
  obtain rfl:=GClip.yL (show T.rds _ _ _ by simpa only[GClip.t,T.rd] using hcs)
  have d0:=(HB.out.cell hb1).trans (hcell 0 (.int .i64 y.zO) rfl)
  have d1:=(HB.out.cell hb1).trans (hcell 1 (.int .i64 y.zI) rfl)
  have d2:=(HB.out.cell hb1).trans (hcell 2 (.int .i64 y.zA) rfl)
  have d3:=(HB.out.cell hb1).trans (hcell 3 (.int .i64 y.zW) rfl)
  have d4:=(HB.out.cell hb1).trans (hcell 4 (.int .i64 y.zQ) rfl)
  rw[show of0+(k * 5+0)=of0+k * 5 by omega] at d0
  rw[show of0+(k * 5+1)=of0+k * 5+1 by omega] at d1
  rw[show of0+(k * 5+2)=of0+k * 5+2 by omega] at d2
  rw[show of0+(k * 5+3)=of0+k * 5+3 by omega] at d3
  rw[show of0+(k * 5+4)=of0+k * 5+4 by omega] at d4
  clear hcs hcell
  have hq1:b0<wr.heap.size:=Nat.lt_of_lt_of_le hb1 HB.out.size
  have HY:=hide (HOK.out y (List.mem_of_getElem? HG.out))
  have hy1:=yY.1 HY.out.at_;have hy2:=yY.1 HY.out.length
  have hwr:IntKind.i64.wrap (y.zW+y.zA)=y.zW+y.zA:=IntWalk.i64_in _ (by omega)
  have hWb:Below wr.heap.size wr (wr.alloc (.cells #[.int .i64 y.zO,.int .i64 y.zI,.int .i64 y.zA,.int .i64 y.zW,.int .i64 y.zQ] 60)):=(Below.refl _ _).alloc (Nat.le_refl _) _
  have hNb:=Bk.born wr 60 #[.int .i64 y.zO,.int .i64 y.zI,.int .i64 y.zA,.int .i64 y.zW,.int .i64 y.zQ]
  go_wp2
  generalize wr.alloc (.cells #[.int .i64 y.zO,.int .i64 y.zI,.int .i64 y.zA,.int .i64 y.zW,.int .i64 y.zQ] 60)=W at *
  have HWb:=hide hWb;have HNb:=hide hNb;clear hWb
  have g0:=xA hNb;clear hNb
  refine yZ (by kernel_rfl) (by kernel_rfl) ?_
  repeat(first|go_big_quiet_skip|(go_big_quiet_want;go_big_quiet_op;first|go_big_quiet_on|(apply Exists.intro;refine⟨fun _=>?_,?_⟩;(· (fail));go_big_quiet_on)))
  refine wpQuiet_nil ?_
  rintro w9 ⟨uu,rfl⟩
  have hb9:=yE W uu
  generalize bel W uu=w9 at *
  have HC:=hide (yG HB.out HB.out.size (yG HWb.out HWb.out.size hb9));clear hb9 g0
  have HA2:=hide (lowF_take (a:=z.zW) HG.out);have HB2:=hide (highF_take (a:=0) HG.out)
  go_wp2
  go_roundw
  case rel=>exact⟨k+1,_,_,by omega,by go_num,rfl,rfl,by rw[HA2.out,←HA.out];split<;>omega,by rw[HB2.out,←HB0.out];split<;>omega,HC.out⟩
  case measure=>simp[intOf];omega
theorem c_changedClips (x:GSession) (cs:List Value) (ed:GEdit) (w:World) (hv:SessionOk x) (hr:RangeOk x ed) (hk:ed.zC=1∨ed.zC=2∨ed.zC=3∨ed.zC=4) (h:T.rds w x.fs cs):Calls Tryz.prog 112 #[.agg cs.toArray,.agg #[.int .i64 ed.zC,.int .i64 ed.zV,.int .i64 ed.zZ,.int .i64 ed.zY,.int .i64 ed.zP.zO,.int .i64 ed.zP.zI,.int .i64 ed.zP.zA,.int .i64 ed.zP.zW,.int .i64 ed.zP.zQ]] w fun e w'=> ∃ v,e= .returned v∧T.rd w' (T.sl 60 5 ((changedL x ed).map GClip.t)) [v]∧Below w.heap.size w w':=by
 obtain⟨ek,et,ec,ev,ns,nf,nl,na,ng⟩:=ed
 dsimp only
 obtain⟨v1,v2,v3,v4,v5,rfl,h1,h2,h3,h4,h5⟩:=GSession.yL h
 clear h
 have R1:=hide h1;obtain⟨va1,vc1,rfl,vl1,vm1,vx1⟩:=T.yK h1
 have HX1:=hide vx1;clear vx1 h1
 have R2:=hide h2;obtain⟨va2,vc2,rfl,vl2,vm2,vx2⟩:=T.yK h2
 have HX2:=hide vx2;clear vx2 h2
 have h3i:=T.yQ.1 h3;obtain⟨va3,vc3,rfl,vl3,vm3,vx3⟩:=h3i.open_
 have R3:=hide h3i;have HX3:=hide vx3;clear vx3 h3 h3i
 have R4:=hide h4;obtain⟨va4,vc4,rfl,vl4,vm4,vx4⟩:=T.yK h4
 have HX4:=hide vx4;clear vx4 h4
 have R5:=hide h5;obtain⟨va5,vc5,rfl,vl5,vm5,vx5⟩:=T.yK h5
 have HX5:=hide vx5;clear vx5 h5
 have HB0:=hide (show Below w.heap.size w (w.alloc (.cells #[.int .i64 x.zA,(.slice va1 x.zG.length vc1),(.slice va2 x.zE.length vc2),(.slice va3 x.zK.length vc3),(.slice va4 x.zJ.length vc4),(.slice va5 x.zF.zD.length vc5)] 41)) from(Below.refl _ _).alloc (Nat.le_refl _) _)
 have HK0:=hide (Bk.born w 41 #[.int .i64 x.zA,(.slice va1 x.zG.length vc1),(.slice va2 x.zE.length vc2),(.slice va3 x.zK.length vc3),(.slice va4 x.zJ.length vc4),(.slice va5 x.zF.zD.length vc5)])
 have HV:=hide hv;have HRG:=hide hr;have HK:=hide hk;clear hv hr hk
 dsimp only at HK
 have hk5:ek≠5:=by have:=HK.out;omega
 obtain⟨k,t,hk,ht⟩:=range_track HRG.out hk5
 obtain rfl:et=(k:Int):=hk
 have hlt:k<x.zE.length:=(List.getElem?_eq_some_iff.1 ht).1
 have hr:=HRG.out;unfold RangeOk at hr;rw[if_neg hk5] at hr
 have hr:=hr.2;dsimp only at hr;rw[clipsAt_of ht] at hr
 have HT:=hide ht;have HCLK:=hide (clipsAt_of ht)
 obtain⟨b,off,cs1,hA,hb1,hcs,hcell⟩:=HX2.out k t ht
 subst hA
 have HBr:=hide (Below.refl w.heap.size w)
 obtain⟨u0,rfl,hRY0⟩:=GTrack.yL (show T.rds _ _ _ by simpa only[GTrack.t,T.rd] using hcs)
 have d0:=(HBr.out.cell hb1).trans (hcell 0 (u0) rfl)
 rw[show off+(k * 1+0)=off+k by omega] at d0
 have RY0:=hide (T.yC hRY0 HBr.out);clear hRY0
 clear hcs hcell
 obtain⟨ua0,uc0,rfl,ul0,um0,ux0⟩:=T.yK RY0.out
 have HUX:=hide ux0;clear ux0 ht hk5
 have hi0:(0:Int)≤(k:Int):=by omega
 have hi1:(k:Int)<(x.zE.length:Int):=by omega
 by_cases k1:ek=1
 ·
  have q1:(ek == 1)=true:=yP k1
  have HC:=hide (show changedL x ⟨ek,(k:Int),ec,ev,⟨ns,nf,nl,na,ng⟩⟩= [⟨ns,nf,nl,na,ng⟩] by unfold changedL;rw[if_pos k1]);clear k1 hr
  have HBa:=hide (HB0.out.alloc HB0.out.size (.cells #[.int .i64 ek,.int .i64 (k:Int),.int .i64 ec,.int .i64 ev,.int .i64 ns,.int .i64 nf,.int .i64 nl,.int .i64 na,.int .i64 ng] 62))
  have HP:=hide (HK0.out.alloc (.cells #[.int .i64 ek,.int .i64 (k:Int),.int .i64 ec,.int .i64 ev,.int .i64 ns,.int .i64 nf,.int .i64 nl,.int .i64 na,.int .i64 ng] 62));have HE:=hide (Bk.born1' w (.cells #[.int .i64 x.zA,(.slice va1 x.zG.length vc1),(.slice (some ⟨b,off,none⟩) x.zE.length vc2),(.slice va3 x.zK.length vc3),(.slice va4 x.zJ.length vc4),(.slice va5 x.zF.zD.length vc5)] 41) 62 #[.int .i64 ek,.int .i64 (k:Int),.int .i64 ec,.int .i64 ev,.int .i64 ns,.int .i64 nf,.int .i64 nl,.int .i64 na,.int .i64 ng])
  have WW:=hide (rfl:((w.alloc (.cells #[.int .i64 x.zA,(.slice va1 x.zG.length vc1),(.slice (some ⟨b,off,none⟩) x.zE.length vc2),(.slice va3 x.zK.length vc3),(.slice va4 x.zJ.length vc4),(.slice va5 x.zF.zD.length vc5)] 41)).alloc (.cells #[.int .i64 ek,.int .i64 (k:Int),.int .i64 ec,.int .i64 ev,.int .i64 ns,.int .i64 nf,.int .i64 nl,.int .i64 na,.int .i64 ng] 62))=((w.alloc (.cells #[.int .i64 x.zA,(.slice va1 x.zG.length vc1),(.slice (some ⟨b,off,none⟩) x.zE.length vc2),(.slice va3 x.zK.length vc3),(.slice va4 x.zJ.length vc4),(.slice va5 x.zF.zD.length vc5)] 41)).alloc (.cells #[.int .i64 ek,.int .i64 (k:Int),.int .i64 ec,.int .i64 ev,.int .i64 ns,.int .i64 nf,.int .i64 nl,.int .i64 na,.int .i64 ng] 62)))
  go_enter Tryz.func112,Tryz.ntmps112
  have m0:=(HBa.out.cell hb1).trans d0;have lb1:=Nat.lt_of_lt_of_le hb1 HBa.out.size
  go_wp2
  go_ret
  rw[HC.out]
  have hbk:Bk (((w.alloc (.cells #[.int .i64 x.zA,(.slice va1 x.zG.length vc1),(.slice (some ⟨b,off,none⟩) x.zE.length vc2),(.slice va3 x.zK.length vc3),(.slice va4 x.zJ.length vc4),(.slice va5 x.zF.zD.length vc5)] 41)).alloc (.cells #[.int .i64 ek,.int .i64 (k:Int),.int .i64 ec,.int .i64 ev,.int .i64 ns,.int .i64 nf,.int .i64 nl,.int .i64 na,.int .i64 ng] 62)).alloc (.cells #[.int .i64 ns,.int .i64 nf,.int .i64 nl,.int .i64 na,.int .i64 ng] 60)) (w.heap.size+1+1) 60 #[.int .i64 ns,.int .i64 nf,.int .i64 nl,.int .i64 na,.int .i64 ng]:=Bk.born2 w _ _ _ _
  have hrd:=clips_lit (l:= [⟨ns,nf,nl,na,ng⟩]) (cs:= [.int .i64 ns,.int .i64 nf,.int .i64 nl,.int .i64 na,.int .i64 ng]) hbk (by simp) (T.rds_cons1 GClip.rd_mk)
  exact⟨_,rfl,hrd,HBa.out.alloc HBa.out.size _⟩
 have q1:(ek == 1)=false:=yO k1
 by_cases k2:ek=2
 ·
  have q2:(ek == 2)=true:=yP k2
  have hj:0≤ec∧ec≤(t.zL.length:Int) - 1:=by
   rw[if_neg (by omega),if_neg (by omega),if_pos (by omega)] at hr;exact yY.1 hr
  obtain⟨j,rfl⟩: ∃ j:Nat,ec=(j:Int):=⟨ec.toNat,by omega⟩
  have hjl:j<t.zL.length:=by omega
  have hgj:=List.getElem?_eq_getElem hjl
  generalize t.zL[j]=c at hgj
  have hca:clipAt x ⟨ek,(k:Int),(j:Int),ev,⟨ns,nf,nl,na,ng⟩⟩=c:=by unfold clipAt;dsimp only;rw[HCLK.out,Int.toNat_natCast,List.getD_eq_getElem?_getD,hgj];rfl
  have HC:=hide (show changedL x ⟨ek,(k:Int),(j:Int),ev,⟨ns,nf,nl,na,ng⟩⟩= [c] by unfold changedL;rw[if_neg k1,if_pos k2,hca]);clear hca hr
  obtain⟨b2,of2,cs2,hA2,hb2,hcs2,hcell2⟩:=HUX.out j c hgj
  subst hA2
  obtain rfl:=GClip.yL (show T.rds _ _ _ by simpa only[GClip.t,T.rd] using hcs2)
  have e0:=(HBr.out.cell hb2).trans (hcell2 0 (.int .i64 c.zO) rfl)
  have e1:=(HBr.out.cell hb2).trans (hcell2 1 (.int .i64 c.zI) rfl)
  have e2:=(HBr.out.cell hb2).trans (hcell2 2 (.int .i64 c.zA) rfl)
  have e3:=(HBr.out.cell hb2).trans (hcell2 3 (.int .i64 c.zW) rfl)
  have e4:=(HBr.out.cell hb2).trans (hcell2 4 (.int .i64 c.zQ) rfl)
  rw[show of2+(j * 5+0)=of2+j * 5 by omega] at e0
  rw[show of2+(j * 5+1)=of2+j * 5+1 by omega] at e1
  rw[show of2+(j * 5+2)=of2+j * 5+2 by omega] at e2
  rw[show of2+(j * 5+3)=of2+j * 5+3 by omega] at e3
  rw[show of2+(j * 5+4)=of2+j * 5+4 by omega] at e4
  clear hcs2 hcell2
  have hi2:(0:Int)≤(j:Int):=by omega
  have hi3:(j:Int)<(t.zL.length:Int):=by omega
  clear k1 k2
  have HBa:=hide (HB0.out.alloc HB0.out.size (.cells #[.int .i64 ek,.int .i64 (k:Int),.int .i64 (j:Int),.int .i64 ev,.int .i64 ns,.int .i64 nf,.int .i64 nl,.int .i64 na,.int .i64 ng] 62))
  have HP:=hide (HK0.out.alloc (.cells #[.int .i64 ek,.int .i64 (k:Int),.int .i64 (j:Int),.int .i64 ev,.int .i64 ns,.int .i64 nf,.int .i64 nl,.int .i64 na,.int .i64 ng] 62));have HE:=hide (Bk.born1' w (.cells #[.int .i64 x.zA,(.slice va1 x.zG.length vc1),(.slice (some ⟨b,off,none⟩) x.zE.length vc2),(.slice va3 x.zK.length vc3),(.slice va4 x.zJ.length vc4),(.slice va5 x.zF.zD.length vc5)] 41) 62 #[.int .i64 ek,.int .i64 (k:Int),.int .i64 (j:Int),.int .i64 ev,.int .i64 ns,.int .i64 nf,.int .i64 nl,.int .i64 na,.int .i64 ng])
  have WW:=hide (rfl:((w.alloc (.cells #[.int .i64 x.zA,(.slice va1 x.zG.length vc1),(.slice (some ⟨b,off,none⟩) x.zE.length vc2),(.slice va3 x.zK.length vc3),(.slice va4 x.zJ.length vc4),(.slice va5 x.zF.zD.length vc5)] 41)).alloc (.cells #[.int .i64 ek,.int .i64 (k:Int),.int .i64 (j:Int),.int .i64 ev,.int .i64 ns,.int .i64 nf,.int .i64 nl,.int .i64 na,.int .i64 ng] 62))=((w.alloc (.cells #[.int .i64 x.zA,(.slice va1 x.zG.length vc1),(.slice (some ⟨b,off,none⟩) x.zE.length vc2),(.slice va3 x.zK.length vc3),(.slice va4 x.zJ.length vc4),(.slice va5 x.zF.zD.length vc5)] 41)).alloc (.cells #[.int .i64 ek,.int .i64 (k:Int),.int .i64 (j:Int),.int .i64 ev,.int .i64 ns,.int .i64 nf,.int .i64 nl,.int .i64 na,.int .i64 ng] 62)))
  go_enter Tryz.func112,Tryz.ntmps112
  have m0:=(HBa.out.cell hb1).trans d0;have lb1:=Nat.lt_of_lt_of_le hb1 HBa.out.size
  have m1:=(HBa.out.cell hb2).trans e0
  have m2:=(HBa.out.cell hb2).trans e1
  have m3:=(HBa.out.cell hb2).trans e2
  have m4:=(HBa.out.cell hb2).trans e3
  have m5:=(HBa.out.cell hb2).trans e4
  have lb2:=Nat.lt_of_lt_of_le hb2 HBa.out.size
  go_wp2
  go_ret
  rw[HC.out]
  have hbk:Bk (((w.alloc (.cells #[.int .i64 x.zA,(.slice va1 x.zG.length vc1),(.slice (some ⟨b,off,none⟩) x.zE.length vc2),(.slice va3 x.zK.length vc3),(.slice va4 x.zJ.length vc4),(.slice va5 x.zF.zD.length vc5)] 41)).alloc (.cells #[.int .i64 ek,.int .i64 (k:Int),.int .i64 (j:Int),.int .i64 ev,.int .i64 ns,.int .i64 nf,.int .i64 nl,.int .i64 na,.int .i64 ng] 62)).alloc (.cells #[.int .i64 c.zO,.int .i64 c.zI,.int .i64 c.zA,.int .i64 c.zW,.int .i64 c.zQ] 60)) (w.heap.size+1+1) 60 #[.int .i64 c.zO,.int .i64 c.zI,.int .i64 c.zA,.int .i64 c.zW,.int .i64 c.zQ]:=Bk.born2 w _ _ _ _
  have hrd:=clips_lit (l:= [c]) (cs:= [.int .i64 c.zO,.int .i64 c.zI,.int .i64 c.zA,.int .i64 c.zW,.int .i64 c.zQ]) hbk (by simp) (T.rds_cons1 GClip.rd_mk)
  exact⟨_,rfl,hrd,HBa.out.alloc HBa.out.size _⟩
 have q2:(ek == 2)=false:=yO k2
 by_cases k3:ek=3
 ·
  have q3:(ek == 3)=true:=yP k3
  have hj:0≤ec∧ec≤(t.zL.length:Int) - 1:=by
   rw[if_neg (by omega),if_pos (by omega)] at hr;exact yY.1 hr.1
  obtain⟨j,rfl⟩: ∃ j:Nat,ec=(j:Int):=⟨ec.toNat,by omega⟩
  have hjl:j<t.zL.length:=by omega
  have hgj:=List.getElem?_eq_getElem hjl
  generalize t.zL[j]=c at hgj
  have hca:clipAt x ⟨ek,(k:Int),(j:Int),ev,⟨ns,nf,nl,na,ng⟩⟩=c:=by unfold clipAt;dsimp only;rw[HCLK.out,Int.toNat_natCast,List.getD_eq_getElem?_getD,hgj];rfl
  have HC:=hide (show changedL x ⟨ek,(k:Int),(j:Int),ev,⟨ns,nf,nl,na,ng⟩⟩= [c,⟨ns,nf,nl,na,ng⟩] by unfold changedL;rw[if_neg k1,if_neg k2,if_pos k3,hca]);clear hca hr
  obtain⟨b2,of2,cs2,hA2,hb2,hcs2,hcell2⟩:=HUX.out j c hgj
  subst hA2
  obtain rfl:=GClip.yL (show T.rds _ _ _ by simpa only[GClip.t,T.rd] using hcs2)
  have e0:=(HBr.out.cell hb2).trans (hcell2 0 (.int .i64 c.zO) rfl)
  have e1:=(HBr.out.cell hb2).trans (hcell2 1 (.int .i64 c.zI) rfl)
  have e2:=(HBr.out.cell hb2).trans (hcell2 2 (.int .i64 c.zA) rfl)
  have e3:=(HBr.out.cell hb2).trans (hcell2 3 (.int .i64 c.zW) rfl)
  have e4:=(HBr.out.cell hb2).trans (hcell2 4 (.int .i64 c.zQ) rfl)
  rw[show of2+(j * 5+0)=of2+j * 5 by omega] at e0
  rw[show of2+(j * 5+1)=of2+j * 5+1 by omega] at e1
  rw[show of2+(j * 5+2)=of2+j * 5+2 by omega] at e2
  rw[show of2+(j * 5+3)=of2+j * 5+3 by omega] at e3
  rw[show of2+(j * 5+4)=of2+j * 5+4 by omega] at e4
  clear hcs2 hcell2
  have hi2:(0:Int)≤(j:Int):=by omega
  have hi3:(j:Int)<(t.zL.length:Int):=by omega
  clear k1 k2 k3
  have HBa:=hide (HB0.out.alloc HB0.out.size (.cells #[.int .i64 ek,.int .i64 (k:Int),.int .i64 (j:Int),.int .i64 ev,.int .i64 ns,.int .i64 nf,.int .i64 nl,.int .i64 na,.int .i64 ng] 62))
  have HP:=hide (HK0.out.alloc (.cells #[.int .i64 ek,.int .i64 (k:Int),.int .i64 (j:Int),.int .i64 ev,.int .i64 ns,.int .i64 nf,.int .i64 nl,.int .i64 na,.int .i64 ng] 62));have HE:=hide (Bk.born1' w (.cells #[.int .i64 x.zA,(.slice va1 x.zG.length vc1),(.slice (some ⟨b,off,none⟩) x.zE.length vc2),(.slice va3 x.zK.length vc3),(.slice va4 x.zJ.length vc4),(.slice va5 x.zF.zD.length vc5)] 41) 62 #[.int .i64 ek,.int .i64 (k:Int),.int .i64 (j:Int),.int .i64 ev,.int .i64 ns,.int .i64 nf,.int .i64 nl,.int .i64 na,.int .i64 ng])
  have WW:=hide (rfl:((w.alloc (.cells #[.int .i64 x.zA,(.slice va1 x.zG.length vc1),(.slice (some ⟨b,off,none⟩) x.zE.length vc2),(.slice va3 x.zK.length vc3),(.slice va4 x.zJ.length vc4),(.slice va5 x.zF.zD.length vc5)] 41)).alloc (.cells #[.int .i64 ek,.int .i64 (k:Int),.int .i64 (j:Int),.int .i64 ev,.int .i64 ns,.int .i64 nf,.int .i64 nl,.int .i64 na,.int .i64 ng] 62))=((w.alloc (.cells #[.int .i64 x.zA,(.slice va1 x.zG.length vc1),(.slice (some ⟨b,off,none⟩) x.zE.length vc2),(.slice va3 x.zK.length vc3),(.slice va4 x.zJ.length vc4),(.slice va5 x.zF.zD.length vc5)] 41)).alloc (.cells #[.int .i64 ek,.int .i64 (k:Int),.int .i64 (j:Int),.int .i64 ev,.int .i64 ns,.int .i64 nf,.int .i64 nl,.int .i64 na,.int .i64 ng] 62)))
  go_enter Tryz.func112,Tryz.ntmps112
  have m0:=(HBa.out.cell hb1).trans d0;have lb1:=Nat.lt_of_lt_of_le hb1 HBa.out.size
  have m1:=(HBa.out.cell hb2).trans e0
  have m2:=(HBa.out.cell hb2).trans e1
  have m3:=(HBa.out.cell hb2).trans e2
  have m4:=(HBa.out.cell hb2).trans e3
  have m5:=(HBa.out.cell hb2).trans e4
  have lb2:=Nat.lt_of_lt_of_le hb2 HBa.out.size
  go_wp2
  have hex:=HE.out.cell;have hel:=HE.out.lt
  generalize hW4:((w.alloc (.cells #[.int .i64 x.zA,(.slice va1 x.zG.length vc1),(.slice (some ⟨b,off,none⟩) x.zE.length vc2),(.slice va3 x.zK.length vc3),(.slice va4 x.zJ.length vc4),(.slice va5 x.zF.zD.length vc5)] 41)).alloc (.cells #[.int .i64 ek,.int .i64 (k:Int),.int .i64 (j:Int),.int .i64 ev,.int .i64 ns,.int .i64 nf,.int .i64 nl,.int .i64 na,.int .i64 ng] 62))=W4 at *
  clear hW4
  refine wp_region_still_tail 7 (by kernel_rfl) (by kernel_rfl) ?_
  simp only[List.take_succ_cons,List.take_zero,List.drop_succ_cons,List.drop_zero]
  change wpStill _ _ (World.drew W4) (fun a'=>wpList _ _ _ _ a' (World.drew W4)) _ _
  repeat still_step
  refine wpStill_nil ?_
  clear m0 m1 m2 m3 m4 m5 hex hel
  go_wp2
  go_ret
  rw[HC.out]
  have hbk:Bk ((World.drew W4).alloc (.cells #[.int .i64 c.zO,.int .i64 c.zI,.int .i64 c.zA,.int .i64 c.zW,.int .i64 c.zQ,.int .i64 ns,.int .i64 nf,.int .i64 nl,.int .i64 na,.int .i64 ng] 60)) W4.heap.size 60 #[.int .i64 c.zO,.int .i64 c.zI,.int .i64 c.zA,.int .i64 c.zW,.int .i64 c.zQ,.int .i64 ns,.int .i64 nf,.int .i64 nl,.int .i64 na,.int .i64 ng]:=Bk.born (World.drew W4) _ _
  have hrd:=clips_lit (l:= [c,⟨ns,nf,nl,na,ng⟩]) (cs:= [.int .i64 c.zO,.int .i64 c.zI,.int .i64 c.zA,.int .i64 c.zW,.int .i64 c.zQ,.int .i64 ns,.int .i64 nf,.int .i64 nl,.int .i64 na,.int .i64 ng]) hbk (by simp) (T.rds_cons2 GClip.rd_mk GClip.rd_mk)
  exact⟨_,rfl,hrd,(HBa.out.drew.alloc (HBa.out.size) _)⟩
 have q3:(ek == 3)=false:=yO k3
 have hlf:k<x.zK.length:=by have h2:=HV.out.feed;omega
 have hgk:=List.getElem?_eq_getElem hlf
 have hfd:x.zK.getD k 0=x.zK[k]:=by rw[List.getD_eq_getElem?_getD,hgk];rfl
 generalize x.zK[k]=y at *
 have HFD:=hide hfd;clear hfd hr
 obtain⟨b3,of3,hA3,hb3,hcell3⟩:=HX3.out k y hgk
 subst hA3
 have hi2:(k:Int)<(x.zK.length:Int):=by omega
 by_cases he:ev=y
 ·
  have q4:(ev == y)=true:=yP he
  have HC:=hide (show changedL x ⟨ek,(k:Int),ec,ev,⟨ns,nf,nl,na,ng⟩⟩= [] by unfold changedL;rw[if_neg k1,if_neg k2,if_neg k3];dsimp only;rw[Int.toNat_natCast,HFD.out,if_pos he]);clear k1 k2 k3 he
  have HBa:=hide (HB0.out.alloc HB0.out.size (.cells #[.int .i64 ek,.int .i64 (k:Int),.int .i64 ec,.int .i64 ev,.int .i64 ns,.int .i64 nf,.int .i64 nl,.int .i64 na,.int .i64 ng] 62))
  have HP:=hide (HK0.out.alloc (.cells #[.int .i64 ek,.int .i64 (k:Int),.int .i64 ec,.int .i64 ev,.int .i64 ns,.int .i64 nf,.int .i64 nl,.int .i64 na,.int .i64 ng] 62));have HE:=hide (Bk.born1' w (.cells #[.int .i64 x.zA,(.slice va1 x.zG.length vc1),(.slice (some ⟨b,off,none⟩) x.zE.length vc2),(.slice (some ⟨b3,of3,none⟩) x.zK.length vc3),(.slice va4 x.zJ.length vc4),(.slice va5 x.zF.zD.length vc5)] 41) 62 #[.int .i64 ek,.int .i64 (k:Int),.int .i64 ec,.int .i64 ev,.int .i64 ns,.int .i64 nf,.int .i64 nl,.int .i64 na,.int .i64 ng])
  have WW:=hide (rfl:((w.alloc (.cells #[.int .i64 x.zA,(.slice va1 x.zG.length vc1),(.slice (some ⟨b,off,none⟩) x.zE.length vc2),(.slice (some ⟨b3,of3,none⟩) x.zK.length vc3),(.slice va4 x.zJ.length vc4),(.slice va5 x.zF.zD.length vc5)] 41)).alloc (.cells #[.int .i64 ek,.int .i64 (k:Int),.int .i64 ec,.int .i64 ev,.int .i64 ns,.int .i64 nf,.int .i64 nl,.int .i64 na,.int .i64 ng] 62))=((w.alloc (.cells #[.int .i64 x.zA,(.slice va1 x.zG.length vc1),(.slice (some ⟨b,off,none⟩) x.zE.length vc2),(.slice (some ⟨b3,of3,none⟩) x.zK.length vc3),(.slice va4 x.zJ.length vc4),(.slice va5 x.zF.zD.length vc5)] 41)).alloc (.cells #[.int .i64 ek,.int .i64 (k:Int),.int .i64 ec,.int .i64 ev,.int .i64 ns,.int .i64 nf,.int .i64 nl,.int .i64 na,.int .i64 ng] 62)))
  go_enter Tryz.func112,Tryz.ntmps112
  have m0:=(HBa.out.cell hb1).trans d0;have lb1:=Nat.lt_of_lt_of_le hb1 HBa.out.size
  have m1:=(HBa.out.cell hb3).trans hcell3;have lb3:=Nat.lt_of_lt_of_le hb3 HBa.out.size
  go_wp2
  have g0:=xA HP.out;have g1:=xA HE.out;have g2:=yD m1
  generalize ((w.alloc (.cells #[.int .i64 x.zA,(.slice va1 x.zG.length vc1),(.slice (some ⟨b,off,none⟩) x.zE.length vc2),(.slice (some ⟨b3,of3,none⟩) x.zK.length vc3),(.slice va4 x.zJ.length vc4),(.slice va5 x.zF.zD.length vc5)] 41)).alloc (.cells #[.int .i64 ek,.int .i64 (k:Int),.int .i64 ec,.int .i64 ev,.int .i64 ns,.int .i64 nf,.int .i64 nl,.int .i64 na,.int .i64 ng] 62))=W4 at *
  refine yZ (by kernel_rfl) (by kernel_rfl) ?_
  repeat(first|go_big_quiet_skip|(go_big_quiet_want;go_big_quiet_op;first|go_big_quiet_on|(apply Exists.intro;refine⟨fun _=>?_,?_⟩;(· (fail));go_big_quiet_on)))
  refine wpQuiet_nil ?_
  rintro w9 ⟨uu,rfl⟩
  have hb9:=yE W4 uu
  generalize bel W4 uu=w9 at *
  have HB9:=hide (yG HBa.out HBa.out.size hb9);clear hb9 g0 g1 g2
  go_wp2
  go_ret
  rw[HC.out]
  exact⟨_,rfl,T.nil_rd _ _ _,HB9.out⟩
 ·
  have q4:(ev == y)=false:=yO he
  have HC:=hide (show changedL x ⟨ek,(k:Int),ec,ev,⟨ns,nf,nl,na,ng⟩⟩=t.zL by unfold changedL;rw[if_neg k1,if_neg k2,if_neg k3];dsimp only;rw[Int.toNat_natCast,HFD.out,if_neg he,HCLK.out]);clear k1 k2 k3 he
  have HBa:=hide (HB0.out.alloc HB0.out.size (.cells #[.int .i64 ek,.int .i64 (k:Int),.int .i64 ec,.int .i64 ev,.int .i64 ns,.int .i64 nf,.int .i64 nl,.int .i64 na,.int .i64 ng] 62))
  have HP:=hide (HK0.out.alloc (.cells #[.int .i64 ek,.int .i64 (k:Int),.int .i64 ec,.int .i64 ev,.int .i64 ns,.int .i64 nf,.int .i64 nl,.int .i64 na,.int .i64 ng] 62));have HE:=hide (Bk.born1' w (.cells #[.int .i64 x.zA,(.slice va1 x.zG.length vc1),(.slice (some ⟨b,off,none⟩) x.zE.length vc2),(.slice (some ⟨b3,of3,none⟩) x.zK.length vc3),(.slice va4 x.zJ.length vc4),(.slice va5 x.zF.zD.length vc5)] 41) 62 #[.int .i64 ek,.int .i64 (k:Int),.int .i64 ec,.int .i64 ev,.int .i64 ns,.int .i64 nf,.int .i64 nl,.int .i64 na,.int .i64 ng])
  have WW:=hide (rfl:((w.alloc (.cells #[.int .i64 x.zA,(.slice va1 x.zG.length vc1),(.slice (some ⟨b,off,none⟩) x.zE.length vc2),(.slice (some ⟨b3,of3,none⟩) x.zK.length vc3),(.slice va4 x.zJ.length vc4),(.slice va5 x.zF.zD.length vc5)] 41)).alloc (.cells #[.int .i64 ek,.int .i64 (k:Int),.int .i64 ec,.int .i64 ev,.int .i64 ns,.int .i64 nf,.int .i64 nl,.int .i64 na,.int .i64 ng] 62))=((w.alloc (.cells #[.int .i64 x.zA,(.slice va1 x.zG.length vc1),(.slice (some ⟨b,off,none⟩) x.zE.length vc2),(.slice (some ⟨b3,of3,none⟩) x.zK.length vc3),(.slice va4 x.zJ.length vc4),(.slice va5 x.zF.zD.length vc5)] 41)).alloc (.cells #[.int .i64 ek,.int .i64 (k:Int),.int .i64 ec,.int .i64 ev,.int .i64 ns,.int .i64 nf,.int .i64 nl,.int .i64 na,.int .i64 ng] 62)))
  go_enter Tryz.func112,Tryz.ntmps112
  have m0:=(HBa.out.cell hb1).trans d0;have lb1:=Nat.lt_of_lt_of_le hb1 HBa.out.size
  have m1:=(HBa.out.cell hb3).trans hcell3;have lb3:=Nat.lt_of_lt_of_le hb3 HBa.out.size
  go_wp2
  have g0:=xA HP.out;have g1:=xA HE.out;have g2:=yD m1
  generalize ((w.alloc (.cells #[.int .i64 x.zA,(.slice va1 x.zG.length vc1),(.slice (some ⟨b,off,none⟩) x.zE.length vc2),(.slice (some ⟨b3,of3,none⟩) x.zK.length vc3),(.slice va4 x.zJ.length vc4),(.slice va5 x.zF.zD.length vc5)] 41)).alloc (.cells #[.int .i64 ek,.int .i64 (k:Int),.int .i64 ec,.int .i64 ev,.int .i64 ns,.int .i64 nf,.int .i64 nl,.int .i64 na,.int .i64 ng] 62))=W4 at *
  refine yZ (by kernel_rfl) (by kernel_rfl) ?_
  repeat(first|go_big_quiet_skip|(go_big_quiet_want;go_big_quiet_op;first|go_big_quiet_on|(apply Exists.intro;refine⟨fun _=>?_,?_⟩;(· (fail));go_big_quiet_on)))
  refine wpQuiet_nil ?_
  rintro w9 ⟨uu,rfl⟩
  have hb9:=yE W4 uu
  generalize bel W4 uu=w9 at *
  have HB9:=hide (yG HBa.out HBa.out.size hb9);clear hb9 g0 g1 g2
  go_wp2
  go_ret
  rw[HC.out]
  exact⟨_,rfl,T.yC RY0.out HB9.out,HB9.out⟩
end Go.Proofs.YteiflbhcehajkaaGreat
end
