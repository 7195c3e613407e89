/- Plain: data that stay readable while the source of drawn numbers turns. Draws: an edit that fits a session. -/
import Derived.Test.YtdcofkabaigjpaaGreatQApEdits
import Derived.Laws.Externs
import Derived.Deep.RegionLaw
import Derived.Lib.SliceRun
set_option linter.unusedVariables false
set_option linter.unusedSimpArgs false
set_option maxHeartbeats 4000000
set_option maxRecDepth 100000
namespace Go.Proofs.YtdcofkabaigjpaaGreat
section
open Go.RowKit
def World.gone (w:World) (g:Nat) (E:TypeId):World:= { w with heap:=w.heap.setIfInBounds g (.cells #[] E) }
theorem gone_trn (w:World) (g:Nat) (E:TypeId):Trn [g] w (World.gone w g E):=
 ⟨rfl,rfl,rfl,by simp[World.gone],fun x _ hn=>by
  simp only[World.gone];rw[Array.getElem?_setIfInBounds_ne (fun e=>hn (by simp[e]))]⟩
theorem gone_cell {w:World} {g j:Nat} {E:TypeId} :(World.gone w g E).cell? ⟨g,j,none⟩=none:=by
 simp only[World.cell?,World.gone];rw[Array.getElem?_setIfInBounds_self];by_cases h:g<w.heap.size
 ·rw[if_pos h];simp
 ·rw[if_neg h]
theorem hold_elem {w:World} {g:Nat} {E:TypeId} {sz:Nat} {α:Type} {tr:α→T} {xs:List α} {v:Value} {k:Nat} {x:α} (h: ∀ w',Trn [g] w w'→T.rd w' (.sl E sz (xs.map tr)) [v]) (hk:xs[k]?=some x) (hz:0<sz):
  ∃ b off cs cap,v= .slice (some ⟨b,off,none⟩) xs.length cap∧b<w.heap.size∧b≠g∧(∀ w',Trn [g] w w'→T.rd w' (tr x) cs)∧ ∀ w',Trn [g] w w'→ ∀ j u,cs[j]?=some u→w'.cell? ⟨b,off+(k * sz+j),none⟩=some u:=by
 have hw:T.wide (tr x)=sz:=by
  have h0:=h w (Trn.refl _ _);simp only[T.rd] at h0;obtain⟨_,_,_,hw,_⟩:=h0;exact hw _ (List.mem_map.2 ⟨x,List.mem_of_getElem? hk,rfl⟩)
 obtain⟨A,cap,rfl,-,-,hx⟩:=T.yS (h w (Trn.refl _ _));obtain⟨b,off,cs,rfl,hb,hcs,hc⟩:=hx k x hk;have hl:cs.length=sz:=(T.rd_len _ _ hcs).trans hw
 have hbg:b≠g:=by
  rintro rfl;obtain⟨A2,cap2,e,-,-,hx2⟩:=T.yS (h _ (gone_trn w b E));injection e with e;subst e;obtain⟨b2,off2,cs2,e2,hb2,hcs2,hc2⟩:=hx2 k x hk;injection e2 with e2;injection e2 with e2 e3;subst e2 e3;have hl2:cs2.length=sz:=(T.rd_len _ _ hcs2).trans hw;have h0:=hc2 0 (cs2[0]'zM) (gE _);rw[gone_cell] at h0
  cases h0
 have hcell: ∀ w',Trn [g] w w'→ ∀ j u,cs[j]?=some u→w'.cell? ⟨b,off+(k * sz+j),none⟩=some u:=fun w' k' j u hj=>(k'.cell_ hb (by simpa using hbg)).trans (hc j u hj)
 refine⟨b,off,cs,cap,rfl,hb,hbg,fun w' k'=>?_,hcell⟩;obtain⟨A2,cap2,e,-,-,hx2⟩:=T.yS (h w' k');injection e with e;subst e;obtain⟨b2,off2,cs2,e2,hb2,hcs2,hc2⟩:=hx2 k x hk;injection e2 with e2;injection e2 with e2 e3;subst e2 e3;have hl2:cs2.length=sz:=(T.rd_len _ _ hcs2).trans hw
 have he:cs2=cs:=by
  apply List.ext_getElem zM
  intro j h1 h2;have q1:=hc2 j _ (gE h1);have q2:=hcell w' k' j _ (gE h2);rw[q1] at q2;injection q2
 rwa [he] at hcs2
structure LenX (x:xO):Prop where
 src:x.zI.length≤1000
 trk:x.zG.length≤1000∧ ∀ t ∈ x.zG,t.zS.length≤1000
 str:x.zH.zC.length≤1000∧ ∀ s ∈ x.zH.zC,s.zT.length≤1000
def EditX (w:World) (g:Nat) (cv:Value) (bs:List UInt8) (a c:Nat) (e:Ending) (w':World):Prop:= ∃ (ed:wV) (a2:Nat),e= .returned (.agg #[.int .i64 ed.zD,.int .i64 ed.yD,.int .i64 ed.yG,.int .i64 ed.yF,.int .i64 ed.yC.zV,.int .i64 ed.yC.zO,.int .i64 ed.yC.zB,.int .i64 ed.yC.yE,.int .i64 ed.yC.yB])∧a2≤a+c∧Sx w w' g cv bs a2
theorem hold_session {w:World} {g:Nat} {x:xO} {n v1 v2 v3 v4 v5:Value} (h: ∀ w',Trn [g] w w'→T.rds w' x.fs [n,v1,v2,v3,v4,v5]):
  (∀ w',Trn [g] w w'→T.rd w' (T.sl 26 1 (x.zI.map (T.ints 2))) [v1])∧(∀ w',Trn [g] w w'→T.rd w' (T.sl 69 1 (x.zG.map xS.t)) [v2])∧ ∀ w',Trn [g] w w'→T.rd w' (T.sl 74 3 (x.zH.zC.map xP.t)) [v5]:=by
 refine⟨fun w' k=>?_,fun w' k=>?_,fun w' k=>?_⟩<;>
 ·obtain⟨u1,u2,u3,u4,u5,e,h1,h2,h3,h4,h5⟩:=xO.yT (h w' k)
  simp only[List.cons.injEq,and_true] at e;obtain⟨-,rfl,rfl,rfl,rfl,rfl⟩:=e
  assumption
theorem hold_track {w:World} {g:Nat} {xs:List xS} {v:Value} {k:Nat} {y:xS} (h: ∀ w',Trn [g] w w'→T.rd w' (T.sl 69 1 (xs.map xS.t)) [v]) (hk:xs[k]?=some y):
  ∃ b off cap u,v= .slice (some ⟨b,off,none⟩) xs.length cap∧(∀ w',Trn [g] w w'→w'.cell? ⟨b,off+k,none⟩=some u)∧ ∀ w',Trn [g] w w'→T.rd w' (T.sl 39 5 (y.zS.map xU.t)) [u]:=by
 obtain⟨b,off,cs,cap,rfl,hb,hg,hr,hc⟩:=hold_elem h hk (by decide);obtain⟨u,rfl,-⟩:=xS.yT (show T.rds w y.fs cs by have:=hr w (Trn.refl _ _);simpa only[xS.t,T.rd] using this);refine⟨b,off,cap,u,rfl,fun w' k'=>by have:=hc w' k' 0 u rfl;simpa using this,fun w' k'=>?_⟩;obtain⟨u',e,h1⟩:=xS.yT (show T.rds w' y.fs [u] by have:=hr w' k';simpa only[xS.t,T.rd] using this);injection e with e;subst e;exact h1
theorem hold_clip {w:World} {g:Nat} {xs:List xU} {v:Value} {k:Nat} {y:xU} (h: ∀ w',Trn [g] w w'→T.rd w' (T.sl 39 5 (xs.map xU.t)) [v]) (hk:xs[k]?=some y):
  ∃ b off cap,v= .slice (some ⟨b,off,none⟩) xs.length cap∧ ∀ w',Trn [g] w w'→w'.cell? ⟨b,off+k * 5+3,none⟩=some (.int .i64 y.yE):=by
 obtain⟨b,off,cs,cap,rfl,hb,hg,hr,hc⟩:=hold_elem h hk (by decide);obtain rfl:=xU.yT (show T.rds w y.fs cs by have:=hr w (Trn.refl _ _);simpa only[xU.t,T.rd] using this);exact⟨b,off,cap,rfl,fun w' k'=>by rw[Nat.add_assoc];exact hc w' k' 3 _ rfl⟩
theorem hold_strip {w:World} {g:Nat} {xs:List xP} {v:Value} {k:Nat} {y:xP} (h: ∀ w',Trn [g] w w'→T.rd w' (T.sl 74 3 (xs.map xP.t)) [v]) (hk:xs[k]?=some y):
  ∃ b off cap A c,v= .slice (some ⟨b,off,none⟩) xs.length cap∧ ∀ w',Trn [g] w w'→w'.cell? ⟨b,off+k * 3+2,none⟩=some (.slice A y.zT.length c):=by
 obtain⟨b,off,cs,cap,rfl,hb,hg,hr,hc⟩:=hold_elem h hk (by decide);obtain⟨u,rfl,h1⟩:=xP.yT (show T.rds w y.fs cs by have:=hr w (Trn.refl _ _);simpa only[xP.t,T.rd] using this);obtain⟨A,c,rfl,-⟩:=T.yS h1;exact⟨b,off,cap,A,c,rfl,fun w' k'=>by rw[Nat.add_assoc];exact hc w' k' 2 _ rfl⟩
def numAt (w:World) (b j:Nat):Nat:=match w.cell? ⟨b,j,none⟩ with|some (.int _ n)=>n.toNat|_=>0
end
section
open Go.RowKit
theorem x_l31DrawEdit {w:World} {g a:Nat} {cv:Value} {bs:List UInt8} {b:Nat} {x:xO} {v1 v2 v3 v4 v5:Value} (h:Sx w w g cv bs a) (ha:a≤1040000000) (hb:b<w.heap.size) (hbg:b≠g) (hl:LenX x) (hc: ∀ j u,([.int .i64 x.zB,v1,v2,v3,v4,v5]:List Value)[j]?=some u→w.cell? ⟨b,j,none⟩=some u) (hat: ∀ w',Trn [g] w w'→T.rds w' x.fs [.int .i64 x.zB,v1,v2,v3,v4,v5]):Calls Tryz.prog 19 #[.pointer (some ⟨g,0,none⟩),.pointer (some ⟨b,0,none⟩)] w fun e w'=>EditX w g cv bs a 30 e w':=by
 have HS0:=xN h;have HGL:=xN h.gin;have HM0:=xN (FM.nil w.heap.size w);have hz0:w.heap.size≤w.heap.size:=zJ;clear h;obtain⟨h1,h2,h5⟩:=hold_session hat;obtain⟨A1,C1,rfl,-,-,-⟩:=T.yS (h1 w (Trn.refl _ _));have H1:=xN h1;have HC1:=xN (hc 1 _ rfl);have hn1:=hl.src;clear h1;obtain⟨A2,C2,rfl,-,-,-⟩:=T.yS (h2 w (Trn.refl _ _));have H2:=xN h2;have HC2:=xN (hc 2 _ rfl);have hn2:=hl.trk.1;clear h2;obtain⟨A5,C5,rfl,-,-,-⟩:=T.yS (h5 w (Trn.refl _ _));have H5:=xN h5;have HC5:=xN (hc 5 _ rfl);have hn5:=hl.str.1;clear h5;have HLX:=xN hl;have HLB:=xN hb;have HBG:=xN hbg;clear hl hc hat hb hbg;obtain⟨HM1,HS1,hz1⟩:=(yU HM0 HS0 hz0).B 41 #[.int .i64 0,.int .i64 0,.int .i64 0,.int .i64 0,.int .i64 0,.int .i64 0,.int .i64 0,.int .i64 0,.int .i64 0];clear HM0 HS0 hz0;have hbR:b<w.heap.size:=HLB.o
 go_enter Tryz.func19,Tryz.ntmps19
 go_wp2_with fail
 refine(wS HS1.o zM zM).mono ?_;rintro e w1 ⟨v,a1,rfl,hv,ha1,hs⟩;obtain⟨HM2,HS2,hz2⟩:=(yU HM1 HS1 hz1).S hs;clear hs HM1 HS1 hz1;have hv2:0≤v∧v≤4:=by omega
 clear hv;have hwv:IntKind.i64.wrap (1+v)=1+v:=IntWalk.i64_in _ zM;have hRE:w.heap.size<w1.heap.size:=Bk.lt (HM2.o.get 0 rfl);have hne1: ¬ w.heap.size=w1.heap.size:=zM;have hne2: ¬ w1.heap.size=w.heap.size:=zM;have hne3: ¬ b=w1.heap.size:=zM;have hne4: ¬ b=w.heap.size:=zM;by_cases v4:v=4
 ·
  subst v4;obtain⟨HM3,HS3,hz3⟩:=(yU HM2 HS2 hz2).B 41 #[.int .i64 5,.int .i64 0,.int .i64 0,.int .i64 0,.int .i64 0,.int .i64 0,.int .i64 0,.int .i64 0,.int .i64 0];clear HM2 HS2 hz2;obtain⟨kX,lX,fX⟩:=yL HM3 0 rfl;have p5:(w1.alloc (.cells #[.int .i64 5,.int .i64 0,.int .i64 0,.int .i64 0,.int .i64 0,.int .i64 0,.int .i64 0,.int .i64 0,.int .i64 0] 41)).cell? ⟨b,5,none⟩=some (.slice A5 x.zH.zC.length C5):=(HS3.o.trn.cell_ HLB.o (by simpa using HBG.o)).trans HC5.o;have lb:b<(w1.alloc (.cells #[.int .i64 5,.int .i64 0,.int .i64 0,.int .i64 0,.int .i64 0,.int .i64 0,.int .i64 0,.int .i64 0,.int .i64 0] 41)).heap.size:=zW HLB.o HS3.o.trn.size;go_wp2_with fail
  refine(wS HS3.o zM zM).mono ?_;rintro e wa ⟨y1,b1,rfl,hy1,hb1,hs⟩;obtain⟨HM4,HS4,hz4⟩:=(yU HM3 HS3 hz3).S hs;clear hs HM3 HS3 hz3;clear kX lX fX;have hy1b:0≤y1∧y1<1000:=by omega
  obtain⟨kX,lX,fX⟩:=yL HM4 0 rfl;clear p5 lb;have p5:wa.cell? ⟨b,5,none⟩=some (.slice A5 x.zH.zC.length C5):=(HS4.o.trn.cell_ HLB.o (by simpa using HBG.o)).trans HC5.o;have lb:b<wa.heap.size:=zW HLB.o HS4.o.trn.size;by_cases ky:y1<(x.zH.zC.length:Int)
  ·
   obtain⟨k,rfl⟩: ∃ q:Nat,y1=(q:Int):=⟨y1.toNat,by omega⟩;have hkn:k<x.zH.zC.length:=by omega
   obtain⟨z,hz⟩: ∃ z,x.zH.zC[k]?=some z:=⟨x.zH.zC[k]'hkn,gE hkn⟩;have hzl:=HLX.o.str.2 z (List.mem_of_getElem? hz);obtain⟨sb,so,sc,sA,sC,e5,hsc⟩:=hold_strip H5.o hz;clear hz;injection e5 with e5 e6 e7;subst e5;clear e6 e7;have HSC:=xN hsc;clear hsc;go_wp2
   go_quiet (fail)
   obtain⟨HM5,HS5,hz5⟩:=(yU HM4 HS4 hz4).E 0 rfl 1 (.int .i64 (k:Int)) #[.int .i64 5,.int .i64 (k:Int),.int .i64 0,.int .i64 0,.int .i64 0,.int .i64 0,.int .i64 0,.int .i64 0,.int .i64 0] rfl;clear HM4 HS4 hz4;clear kX lX fX;clear p5 lb;obtain⟨HM6,HS6,hz6⟩:=(yU HM5 HS5 hz5).N nq;clear HM5 HS5 hz5;generalize ((wa.setCell ⟨w1.heap.size,1,none⟩ (.int .i64 (k:Int))).drewN nq)=wq6 at *;go_wp2;obtain⟨HM7,HS7,hz7⟩:=(yU HM6 HS6 hz6).D;clear HS6 HM6 hz6;refine wG (fun w'=>(∀ i,w'.cell? ⟨w1.heap.size,i,none⟩= #[.int .i64 5,.int .i64 (k:Int),.int .i64 0,.int .i64 0,.int .i64 0,.int .i64 0,.int .i64 0,.int .i64 0,.int .i64 0][i]?)∧w'.cell? ⟨b,5,none⟩=some (.slice (some ⟨sb,so,none⟩) x.zH.zC.length C5)∧w'.cell? ⟨sb,so+k * 3+2,none⟩=some (.slice sA z.zT.length sC)) [13,14] (by kernel_rfl) ?_ (fun hS0=>?_)
   ·exact⟨Bk.cell (HM7.o.get 0 rfl),(HS7.o.trn.cell_ HLB.o (by simpa using HBG.o)).trans HC5.o,HSC.o _ HS7.o.trn⟩
   generalize wq6.drew=we7 at *;refine zN 0 hS0 ?_;refine zN 1 hS0 ?_;refine zN 2 hS0 ?_;refine zN 3 hS0 ?_;refine zN 4 hS0 ?_;refine zN 5 hS0 ?_;refine zN 6 hS0 ?_;refine zN 7 hS0 ?_;refine zN 8 hS0 ?_;refine zN 9 hS0 ?_;refine zN 10 hS0 ?_;refine zN 11 hS0 ?_;refine pN 12 (fun K hK=>?_);go_simp;go_wp2_with (go_at_call 18;refine(wS HS7.o zM zM).mono ?_;rintro e wb ⟨y2,b2,rfl,hy2,hb2,hs⟩)
   obtain⟨HM8,HS8,hz8⟩:=(yU HM7 HS7 hz7).S hs;clear hs HM7 HS7 hz7;refine uN hK ?_ (fun hS1=>?_)
   ·exact⟨Bk.cell (HM8.o.get 0 rfl),(HS8.o.trn.cell_ HLB.o (by simpa using HBG.o)).trans HC5.o,HSC.o _ HS8.o.trn⟩
   clear hK K hS0;refine q2N 13 14 ?_;have hy2b:0≤y2∧y2<1000:=by omega
   obtain⟨kX,lX,fX⟩:=yL HM8 0 rfl;go_wp2_with fail
   obtain⟨HM9,HS9,hz9⟩:=(yU HM8 HS8 hz8).E 0 rfl 2 (.int .i64 y2) #[.int .i64 5,.int .i64 (k:Int),.int .i64 y2,.int .i64 0,.int .i64 0,.int .i64 0,.int .i64 0,.int .i64 0,.int .i64 0] rfl;clear HM8 HS8 hz8;refine(yIz HS9.o zM).mono ?_;rintro e wc ⟨y3,b3,rfl,hy3,hb3,hs⟩;obtain⟨HM10,HS10,hz10⟩:=(yU HM9 HS9 hz9).S hs;clear hs HM9 HS9 hz9;clear kX lX fX;obtain⟨kX,lX,fX⟩:=yL HM10 0 rfl;obtain⟨kR,lR,fR⟩:=yL HM10 1 rfl;go_wp2;refine bodyPost_ret (v:= .agg #[.int .i64 5,.int .i64 (k:Int),.int .i64 y2,.int .i64 y3,.int .i64 0,.int .i64 0,.int .i64 0,.int .i64 0,.int .i64 0]) (by simp[results,Tryz.results19,go_sem,kX,fX,lX,kR,fR,lR,hne1,hne2]) rfl ?_;exact⟨⟨5,(k:Int),y2,y3,⟨0,0,0,0,0⟩⟩,b3,rfl,by omega,(Sx.set_ (Sx.set_ (Sx.set_ (Sx.set_ (Sx.set_ (Sx.set_ (Sx.set_ (Sx.set_ (Sx.set_ (Sx.set_ HS10.o zM 3 (.int .i64 y3)) zJ 0 (.int .i64 5)) zJ 1 (.int .i64 (k:Int))) zJ 2 (.int .i64 y2)) zJ 3 (.int .i64 y3)) zJ 4 (.int .i64 0)) zJ 5 (.int .i64 0)) zJ 6 (.int .i64 0)) zJ 7 (.int .i64 0)) zJ 8 (.int .i64 0))⟩
  have b2:decide (y1<(x.zH.zC.length:Int))=false:=decide_eq_false ky;go_wp2
  go_quiet (fail)
  obtain⟨HM5,HS5,hz5⟩:=(yU HM4 HS4 hz4).E 0 rfl 1 (.int .i64 y1) #[.int .i64 5,.int .i64 y1,.int .i64 0,.int .i64 0,.int .i64 0,.int .i64 0,.int .i64 0,.int .i64 0,.int .i64 0] rfl;clear HM4 HS4 hz4;clear kX lX fX;obtain⟨HM6,HS6,hz6⟩:=(yU HM5 HS5 hz5).N nq;clear HM5 HS5 hz5;generalize ((wa.setCell ⟨w1.heap.size,1,none⟩ (.int .i64 y1)).drewN nq)=wq6 at *;go_wp2_with fail
  refine(yIz HS6.o zM).mono ?_;rintro e wc ⟨y3,b3,rfl,hy3,hb3,hs⟩;obtain⟨HM7,HS7,hz7⟩:=(yU HM6 HS6 hz6).S hs;clear hs HM6 HS6 hz6;obtain⟨kX,lX,fX⟩:=yL HM7 0 rfl;obtain⟨kR,lR,fR⟩:=yL HM7 1 rfl;go_wp2;refine bodyPost_ret (v:= .agg #[.int .i64 5,.int .i64 y1,.int .i64 0,.int .i64 y3,.int .i64 0,.int .i64 0,.int .i64 0,.int .i64 0,.int .i64 0]) (by simp[results,Tryz.results19,go_sem,kX,fX,lX,kR,fR,lR,hne1,hne2]) rfl ?_;exact⟨⟨5,y1,0,y3,⟨0,0,0,0,0⟩⟩,b3,rfl,by omega,(Sx.set_ (Sx.set_ (Sx.set_ (Sx.set_ (Sx.set_ (Sx.set_ (Sx.set_ (Sx.set_ (Sx.set_ (Sx.set_ HS7.o zM 3 (.int .i64 y3)) zJ 0 (.int .i64 5)) zJ 1 (.int .i64 y1)) zJ 2 (.int .i64 0)) zJ 3 (.int .i64 y3)) zJ 4 (.int .i64 0)) zJ 5 (.int .i64 0)) zJ 6 (.int .i64 0)) zJ 7 (.int .i64 0)) zJ 8 (.int .i64 0))⟩
 have b4:(1+v == 5)=false:=by simpa using(by omega: ¬ 1+v=5)
 obtain⟨HM3,HS3,hz3⟩:=(yU HM2 HS2 hz2).B 41 #[.int .i64 (1+v),.int .i64 0,.int .i64 0,.int .i64 0,.int .i64 0,.int .i64 0,.int .i64 0,.int .i64 0,.int .i64 0];clear HM2 HS2 hz2;by_cases t0:x.zG.length=0
 ·
  have bt:((x.zG.length:Int) == 0)=true:=by rw[t0];rfl
  obtain⟨kX,lX,fX⟩:=yL HM3 0 rfl;have p2:(w1.alloc (.cells #[.int .i64 (1+v),.int .i64 0,.int .i64 0,.int .i64 0,.int .i64 0,.int .i64 0,.int .i64 0,.int .i64 0,.int .i64 0] 41)).cell? ⟨b,2,none⟩=some (.slice A2 x.zG.length C2):=(HS3.o.trn.cell_ HLB.o (by simpa using HBG.o)).trans HC2.o;have lb:b<(w1.alloc (.cells #[.int .i64 (1+v),.int .i64 0,.int .i64 0,.int .i64 0,.int .i64 0,.int .i64 0,.int .i64 0,.int .i64 0,.int .i64 0] 41)).heap.size:=zW HLB.o HS3.o.trn.size;go_wp2_with fail
  refine(x_one HS3.o zM zM).mono ?_;rintro e w2 ⟨bb,a2,rfl,ha2,hs⟩;obtain⟨HM4,HS4,hz4⟩:=(yU HM3 HS3 hz3).S hs;clear hs HM3 HS3 hz3;clear kX lX fX
  cases bb
  ·
   obtain⟨kX,lX,fX⟩:=yL HM4 0 rfl;clear p2 lb;have p5:w2.cell? ⟨b,5,none⟩=some (.slice A5 x.zH.zC.length C5):=(HS4.o.trn.cell_ HLB.o (by simpa using HBG.o)).trans HC5.o;have lb:b<w2.heap.size:=zW HLB.o HS4.o.trn.size;obtain⟨HM5,HS5,hz5⟩:=(yU HM4 HS4 hz4).E 0 rfl 0 (.int .i64 5) #[.int .i64 5,.int .i64 0,.int .i64 0,.int .i64 0,.int .i64 0,.int .i64 0,.int .i64 0,.int .i64 0,.int .i64 0] rfl;clear HM4 HS4 hz4;go_wp2_with fail
   refine(wS HS5.o zM zM).mono ?_;rintro e wa ⟨y1,b1,rfl,hy1,hb1,hs⟩;obtain⟨HM6,HS6,hz6⟩:=(yU HM5 HS5 hz5).S hs;clear hs HM5 HS5 hz5;clear kX lX fX;have hy1b:0≤y1∧y1<1000:=by omega
   obtain⟨kX,lX,fX⟩:=yL HM6 0 rfl;clear p5 lb;have p5:wa.cell? ⟨b,5,none⟩=some (.slice A5 x.zH.zC.length C5):=(HS6.o.trn.cell_ HLB.o (by simpa using HBG.o)).trans HC5.o;have lb:b<wa.heap.size:=zW HLB.o HS6.o.trn.size;by_cases ky:y1<(x.zH.zC.length:Int)
   ·
    obtain⟨k,rfl⟩: ∃ q:Nat,y1=(q:Int):=⟨y1.toNat,by omega⟩;have hkn:k<x.zH.zC.length:=by omega
    obtain⟨z,hz⟩: ∃ z,x.zH.zC[k]?=some z:=⟨x.zH.zC[k]'hkn,gE hkn⟩;have hzl:=HLX.o.str.2 z (List.mem_of_getElem? hz);obtain⟨sb,so,sc,sA,sC,e5,hsc⟩:=hold_strip H5.o hz;clear hz;injection e5 with e5 e6 e7;subst e5;clear e6 e7;have HSC:=xN hsc;clear hsc;go_wp2
    go_quiet (fail)
    obtain⟨HM7,HS7,hz7⟩:=(yU HM6 HS6 hz6).E 0 rfl 1 (.int .i64 (k:Int)) #[.int .i64 5,.int .i64 (k:Int),.int .i64 0,.int .i64 0,.int .i64 0,.int .i64 0,.int .i64 0,.int .i64 0,.int .i64 0] rfl;clear HM6 HS6 hz6;clear kX lX fX;clear p5 lb;obtain⟨HM8,HS8,hz8⟩:=(yU HM7 HS7 hz7).N nq;clear HM7 HS7 hz7;generalize ((wa.setCell ⟨w1.heap.size,1,none⟩ (.int .i64 (k:Int))).drewN nq)=wq8 at *;go_wp2;obtain⟨HM9,HS9,hz9⟩:=(yU HM8 HS8 hz8).D;clear HS8 HM8 hz8;refine wG (fun w'=>(∀ i,w'.cell? ⟨w1.heap.size,i,none⟩= #[.int .i64 5,.int .i64 (k:Int),.int .i64 0,.int .i64 0,.int .i64 0,.int .i64 0,.int .i64 0,.int .i64 0,.int .i64 0][i]?)∧w'.cell? ⟨b,5,none⟩=some (.slice (some ⟨sb,so,none⟩) x.zH.zC.length C5)∧w'.cell? ⟨sb,so+k * 3+2,none⟩=some (.slice sA z.zT.length sC)) [13,14] (by kernel_rfl) ?_ (fun hS0=>?_)
    ·exact⟨Bk.cell (HM9.o.get 0 rfl),(HS9.o.trn.cell_ HLB.o (by simpa using HBG.o)).trans HC5.o,HSC.o _ HS9.o.trn⟩
    generalize wq8.drew=we9 at *;refine zN 0 hS0 ?_;refine zN 1 hS0 ?_;refine zN 2 hS0 ?_;refine zN 3 hS0 ?_;refine zN 4 hS0 ?_;refine zN 5 hS0 ?_;refine zN 6 hS0 ?_;refine zN 7 hS0 ?_;refine zN 8 hS0 ?_;refine zN 9 hS0 ?_;refine zN 10 hS0 ?_;refine zN 11 hS0 ?_;refine pN 12 (fun K hK=>?_);go_simp;go_wp2_with (go_at_call 18;refine(wS HS9.o zM zM).mono ?_;rintro e wb ⟨y2,b2,rfl,hy2,hb2,hs⟩)
    obtain⟨HM10,HS10,hz10⟩:=(yU HM9 HS9 hz9).S hs;clear hs HM9 HS9 hz9;refine uN hK ?_ (fun hS1=>?_)
    ·exact⟨Bk.cell (HM10.o.get 0 rfl),(HS10.o.trn.cell_ HLB.o (by simpa using HBG.o)).trans HC5.o,HSC.o _ HS10.o.trn⟩
    clear hK K hS0;refine q2N 13 14 ?_;have hy2b:0≤y2∧y2<1000:=by omega
    obtain⟨kX,lX,fX⟩:=yL HM10 0 rfl;go_wp2_with fail
    obtain⟨HM11,HS11,hz11⟩:=(yU HM10 HS10 hz10).E 0 rfl 2 (.int .i64 y2) #[.int .i64 5,.int .i64 (k:Int),.int .i64 y2,.int .i64 0,.int .i64 0,.int .i64 0,.int .i64 0,.int .i64 0,.int .i64 0] rfl;clear HM10 HS10 hz10;refine(yIz HS11.o zM).mono ?_;rintro e wc ⟨y3,b3,rfl,hy3,hb3,hs⟩;obtain⟨HM12,HS12,hz12⟩:=(yU HM11 HS11 hz11).S hs;clear hs HM11 HS11 hz11;clear kX lX fX;obtain⟨kX,lX,fX⟩:=yL HM12 0 rfl;obtain⟨kR,lR,fR⟩:=yL HM12 1 rfl;go_wp2;refine bodyPost_ret (v:= .agg #[.int .i64 5,.int .i64 (k:Int),.int .i64 y2,.int .i64 y3,.int .i64 0,.int .i64 0,.int .i64 0,.int .i64 0,.int .i64 0]) (by simp[results,Tryz.results19,go_sem,kX,fX,lX,kR,fR,lR,hne1,hne2]) rfl ?_;exact⟨⟨5,(k:Int),y2,y3,⟨0,0,0,0,0⟩⟩,b3,rfl,by omega,(Sx.set_ (Sx.set_ (Sx.set_ (Sx.set_ (Sx.set_ (Sx.set_ (Sx.set_ (Sx.set_ (Sx.set_ (Sx.set_ HS12.o zM 3 (.int .i64 y3)) zJ 0 (.int .i64 5)) zJ 1 (.int .i64 (k:Int))) zJ 2 (.int .i64 y2)) zJ 3 (.int .i64 y3)) zJ 4 (.int .i64 0)) zJ 5 (.int .i64 0)) zJ 6 (.int .i64 0)) zJ 7 (.int .i64 0)) zJ 8 (.int .i64 0))⟩
   have b2:decide (y1<(x.zH.zC.length:Int))=false:=decide_eq_false ky;go_wp2
   go_quiet (fail)
   obtain⟨HM7,HS7,hz7⟩:=(yU HM6 HS6 hz6).E 0 rfl 1 (.int .i64 y1) #[.int .i64 5,.int .i64 y1,.int .i64 0,.int .i64 0,.int .i64 0,.int .i64 0,.int .i64 0,.int .i64 0,.int .i64 0] rfl;clear HM6 HS6 hz6;clear kX lX fX;obtain⟨HM8,HS8,hz8⟩:=(yU HM7 HS7 hz7).N nq;clear HM7 HS7 hz7;generalize ((wa.setCell ⟨w1.heap.size,1,none⟩ (.int .i64 y1)).drewN nq)=wq8 at *;go_wp2_with fail
   refine(yIz HS8.o zM).mono ?_;rintro e wc ⟨y3,b3,rfl,hy3,hb3,hs⟩;obtain⟨HM9,HS9,hz9⟩:=(yU HM8 HS8 hz8).S hs;clear hs HM8 HS8 hz8;obtain⟨kX,lX,fX⟩:=yL HM9 0 rfl;obtain⟨kR,lR,fR⟩:=yL HM9 1 rfl;go_wp2;refine bodyPost_ret (v:= .agg #[.int .i64 5,.int .i64 y1,.int .i64 0,.int .i64 y3,.int .i64 0,.int .i64 0,.int .i64 0,.int .i64 0,.int .i64 0]) (by simp[results,Tryz.results19,go_sem,kX,fX,lX,kR,fR,lR,hne1,hne2]) rfl ?_;exact⟨⟨5,y1,0,y3,⟨0,0,0,0,0⟩⟩,b3,rfl,by omega,(Sx.set_ (Sx.set_ (Sx.set_ (Sx.set_ (Sx.set_ (Sx.set_ (Sx.set_ (Sx.set_ (Sx.set_ (Sx.set_ HS9.o zM 3 (.int .i64 y3)) zJ 0 (.int .i64 5)) zJ 1 (.int .i64 y1)) zJ 2 (.int .i64 0)) zJ 3 (.int .i64 y3)) zJ 4 (.int .i64 0)) zJ 5 (.int .i64 0)) zJ 6 (.int .i64 0)) zJ 7 (.int .i64 0)) zJ 8 (.int .i64 0))⟩
  obtain⟨kX,lX,fX⟩:=yL HM4 0 rfl;have p2:w2.cell? ⟨b,2,none⟩=some (.slice A2 x.zG.length C2):=(HS4.o.trn.cell_ HLB.o (by simpa using HBG.o)).trans HC2.o;have lb:b<w2.heap.size:=zW HLB.o HS4.o.trn.size;go_wp2_with fail
  refine(wS HS4.o zM zM).mono ?_;rintro e wa ⟨y1,b1,rfl,hy1,hb1,hs⟩;obtain⟨HM5,HS5,hz5⟩:=(yU HM4 HS4 hz4).S hs;clear hs HM4 HS4 hz4;clear kX lX fX;have hy1b:0≤y1∧y1<1000:=by omega
  by_cases v3:v=3
  ·
   subst v3;replace HM5:=xN (HM5.o);obtain⟨kX,lX,fX⟩:=yL HM5 0 rfl;clear p2 lb;have p5:wa.cell? ⟨b,5,none⟩=some (.slice A5 x.zH.zC.length C5):=(HS5.o.trn.cell_ HLB.o (by simpa using HBG.o)).trans HC5.o;have lb:b<wa.heap.size:=zW HLB.o HS5.o.trn.size;obtain⟨HM6,HS6,hz6⟩:=(yU HM5 HS5 hz5).E 0 rfl 1 (.int .i64 y1) #[.int .i64 4,.int .i64 y1,.int .i64 0,.int .i64 0,.int .i64 0,.int .i64 0,.int .i64 0,.int .i64 0,.int .i64 0] rfl;clear HM5 HS5 hz5;go_wp2_with fail
   refine(wS HS6.o zM zM).mono ?_;rintro e wb ⟨y2,b2,rfl,hy2,hb2,hs⟩;obtain⟨HM7,HS7,hz7⟩:=(yU HM6 HS6 hz6).S hs;clear hs HM6 HS6 hz6;clear kX lX fX;obtain⟨kX,lX,fX⟩:=yL HM7 0 rfl;obtain⟨kR,lR,fR⟩:=yL HM7 1 rfl;clear p5 lb;go_wp2;refine bodyPost_ret (v:= .agg #[.int .i64 4,.int .i64 y1,.int .i64 0,.int .i64 y2,.int .i64 0,.int .i64 0,.int .i64 0,.int .i64 0,.int .i64 0]) (by simp[results,Tryz.results19,go_sem,kX,fX,lX,kR,fR,lR,hne1,hne2]) rfl ?_;exact⟨⟨4,y1,0,y2,⟨0,0,0,0,0⟩⟩,b2,rfl,by omega,(Sx.set_ (Sx.set_ (Sx.set_ (Sx.set_ (Sx.set_ (Sx.set_ (Sx.set_ (Sx.set_ (Sx.set_ (Sx.set_ HS7.o zM 3 (.int .i64 y2)) zJ 0 (.int .i64 4)) zJ 1 (.int .i64 y1)) zJ 2 (.int .i64 0)) zJ 3 (.int .i64 y2)) zJ 4 (.int .i64 0)) zJ 5 (.int .i64 0)) zJ 6 (.int .i64 0)) zJ 7 (.int .i64 0)) zJ 8 (.int .i64 0))⟩
  have b3:(1+v == 4)=false:=by simpa using(by omega: ¬ 1+v=4)
  obtain⟨kX,lX,fX⟩:=yL HM5 0 rfl;have p2:wa.cell? ⟨b,2,none⟩=some (.slice A2 x.zG.length C2):=(HS5.o.trn.cell_ HLB.o (by simpa using HBG.o)).trans HC2.o;have lb:b<wa.heap.size:=zW HLB.o HS5.o.trn.size;have bq:decide (0<x.zG.length)=false:=by rw[t0];rfl
  go_wp2_with fail
  obtain⟨HM6,HS6,hz6⟩:=(yU HM5 HS5 hz5).E 0 rfl 1 (.int .i64 y1) #[.int .i64 (1+v),.int .i64 y1,.int .i64 0,.int .i64 0,.int .i64 0,.int .i64 0,.int .i64 0,.int .i64 0,.int .i64 0] rfl;clear HM5 HS5 hz5;obtain⟨HM7,HS7,hz7⟩:=(yU HM6 HS6 hz6).A (.cells #[] 39);clear HM6 HS6 hz6;refine(wS HS7.o zM zM).mono ?_;rintro e wb ⟨y2,b2,rfl,hy2,hb2,hs⟩;obtain⟨HM8,HS8,hz8⟩:=(yU HM7 HS7 hz7).S hs;clear hs HM7 HS7 hz7;clear kX lX fX;have hy2b:0≤y2∧y2<1000:=by omega
  by_cases v1:v=1
  ·
   subst v1;replace HM8:=xN (HM8.o);obtain⟨kX,lX,fX⟩:=yL HM8 0 rfl;obtain⟨kR,lR,fR⟩:=yL HM8 1 rfl;clear p2 lb;go_wp2;refine bodyPost_ret (v:= .agg #[.int .i64 2,.int .i64 y1,.int .i64 y2,.int .i64 0,.int .i64 0,.int .i64 0,.int .i64 0,.int .i64 0,.int .i64 0]) (by simp[results,Tryz.results19,go_sem,kX,fX,lX,kR,fR,lR,hne1,hne2]) rfl ?_;exact⟨⟨2,y1,y2,0,⟨0,0,0,0,0⟩⟩,b2,rfl,by omega,(Sx.set_ (Sx.set_ (Sx.set_ (Sx.set_ (Sx.set_ (Sx.set_ (Sx.set_ (Sx.set_ (Sx.set_ (Sx.set_ HS8.o zM 2 (.int .i64 y2)) zJ 0 (.int .i64 2)) zJ 1 (.int .i64 y1)) zJ 2 (.int .i64 y2)) zJ 3 (.int .i64 0)) zJ 4 (.int .i64 0)) zJ 5 (.int .i64 0)) zJ 6 (.int .i64 0)) zJ 7 (.int .i64 0)) zJ 8 (.int .i64 0))⟩
  have b2:(1+v == 2)=false:=by simpa using(by omega: ¬ 1+v=2)
  obtain⟨kX,lX,fX⟩:=yL HM8 0 rfl;have p1:wb.cell? ⟨b,1,none⟩=some (.slice A1 x.zI.length C1):=(HS8.o.trn.cell_ HLB.o (by simpa using HBG.o)).trans HC1.o;have lb:b<wb.heap.size:=zW HLB.o HS8.o.trn.size;obtain⟨HM9,HS9,hz9⟩:=(yU HM8 HS8 hz8).E 0 rfl 2 (.int .i64 y2) #[.int .i64 (1+v),.int .i64 y1,.int .i64 y2,.int .i64 0,.int .i64 0,.int .i64 0,.int .i64 0,.int .i64 0,.int .i64 0] rfl;clear HM8 HS8 hz8;go_wp2_with fail
  refine(wS HS9.o zM zM).mono ?_;rintro e x1 ⟨z1,c1,rfl,hz1,hc1,hs⟩;obtain⟨HM10,HS10,hz10⟩:=(yU HM9 HS9 hz9).S hs;clear hs HM9 HS9 hz9;clear kX lX fX;go_wp2_with fail
  refine(wS HS10.o zM zM).mono ?_;rintro e x2 ⟨z2,c2,rfl,hz2,hc2,hs⟩;obtain⟨HM11,HS11,hz11⟩:=(yU HM10 HS10 hz10).S hs;clear hs HM10 HS10 hz10;go_wp2_with fail
  refine(wS HS11.o zM zM).mono ?_;rintro e x3 ⟨z3,c3,rfl,hz3,hc3,hs⟩;obtain⟨HM12,HS12,hz12⟩:=(yU HM11 HS11 hz11).S hs;clear hs HM11 HS11 hz11;go_wp2_with fail
  refine(wS HS12.o zM zM).mono ?_;rintro e x4 ⟨z4,c4,rfl,hz4,hc4,hs⟩;obtain⟨HM13,HS13,hz13⟩:=(yU HM12 HS12 hz12).S hs;clear hs HM12 HS12 hz12;go_wp2_with fail
  refine(wS HS13.o zM zM).mono ?_;rintro e x5 ⟨z5,c5,rfl,hz5,hc5,hs⟩;obtain⟨HM14,HS14,hz14⟩:=(yU HM13 HS13 hz13).S hs;clear hs HM13 HS13 hz13;have hz:0≤z1∧z1<1000∧0≤z2∧z2<6∧0≤z3∧z3<9∧0≤z4∧z4<30∧0≤z5∧z5<5:=by omega
  clear hz1 hz2 hz3 hz4 hz5;have hwa:IntKind.i64.wrap (1+z3)=1+z3:=IntWalk.i64_in _ zM;have hwb:IntKind.i64.wrap (z5 - 2)=z5 - 2:=IntWalk.i64_in _ zM;by_cases v0:v=0
  ·
   subst v0;replace HM14:=xN (HM14.o);obtain⟨kX,lX,fX⟩:=yL HM14 0 rfl;clear p1 lb;go_wp2;obtain⟨HM15,HS15,hz15⟩:=((((((yU HM14 HS14 hz14).T 0 rfl 4 (.int .i64 z1)).T 0 rfl 5 (.int .i64 z2)).T 0 rfl 6 (.int .i64 (1+z3))).T 0 rfl 7 (.int .i64 z4)).T 0 rfl 8 (.int .i64 (z5 - 2))).E 0 rfl 2 (.int .i64 0) #[.int .i64 1,.int .i64 y1,.int .i64 0,.int .i64 0,.int .i64 z1,.int .i64 z2,.int .i64 (1+z3),.int .i64 z4,.int .i64 (z5 - 2)] rfl;clear HM14 HS14 hz14;clear kX lX fX
   go_loopw [] (fun wr=>Sx w wr g cv bs c5∧FM w.heap.size wr [Item.bk w1.heap.size 41 #[.int .i64 1,.int .i64 y1,.int .i64 0,.int .i64 0,.int .i64 z1,.int .i64 z2,.int .i64 (1+z3),.int .i64 z4,.int .i64 (z5 - 2)],Item.bk w.heap.size 41 #[.int .i64 0,.int .i64 0,.int .i64 0,.int .i64 0,.int .i64 0,.int .i64 0,.int .i64 0,.int .i64 0,.int .i64 0]]∧w.heap.size≤wr.heap.size) (fun wr=>0)
   case atStart=>exact⟨HS15.o,HM15.o,hz15⟩
   case round=>
    obtain⟨hs,hm,hz16⟩:=hrel;have HS16:=xN hs;have HM16:=xN hm;clear hs hm HS15 HM15 hz15;obtain⟨kX,lX,fX⟩:=yL HM16 0 rfl;go_wp2
    go_quiet (fail)
    clear kX lX fX;obtain⟨HM17,HS17,hz17⟩:=(yU HM16 HS16 hz16).N nq;clear HM16 HS16 hz16;generalize (wr.drewN nq)=wq17 at *;obtain⟨kX,lX,fX⟩:=yL HM17 0 rfl;obtain⟨kR,lR,fR⟩:=yL HM17 1 rfl;go_wp2;refine bodyPost_ret (v:= .agg #[.int .i64 1,.int .i64 y1,.int .i64 0,.int .i64 0,.int .i64 z1,.int .i64 z2,.int .i64 (1+z3),.int .i64 z4,.int .i64 (z5 - 2)]) (by simp[results,Tryz.results19,go_sem,kX,fX,lX,kR,fR,lR,hne1,hne2]) rfl ?_;exact⟨⟨1,y1,0,0,⟨z1,z2,(1+z3),z4,(z5 - 2)⟩⟩,c5,rfl,by omega,(Sx.set_ (Sx.set_ (Sx.set_ (Sx.set_ (Sx.set_ (Sx.set_ (Sx.set_ (Sx.set_ (Sx.set_ HS17.o zJ 0 (.int .i64 1)) zJ 1 (.int .i64 y1)) zJ 2 (.int .i64 0)) zJ 3 (.int .i64 0)) zJ 4 (.int .i64 z1)) zJ 5 (.int .i64 z2)) zJ 6 (.int .i64 (1+z3))) zJ 7 (.int .i64 z4)) zJ 8 (.int .i64 (z5 - 2)))⟩
  have b1:(1+v == 1)=false:=by simpa using(by omega: ¬ 1+v=1)
  obtain⟨kX,lX,fX⟩:=yL HM14 0 rfl;obtain⟨kR,lR,fR⟩:=yL HM14 1 rfl;go_wp2;refine bodyPost_ret (v:= .agg #[.int .i64 (1+v),.int .i64 y1,.int .i64 y2,.int .i64 0,.int .i64 z1,.int .i64 z2,.int .i64 (1+z3),.int .i64 z4,.int .i64 (z5 - 2)]) (by simp[results,Tryz.results19,go_sem,kX,fX,lX,kR,fR,lR,hne1,hne2]) rfl ?_;exact⟨⟨(1+v),y1,y2,0,⟨z1,z2,(1+z3),z4,(z5 - 2)⟩⟩,c5,rfl,by omega,(Sx.set_ (Sx.set_ (Sx.set_ (Sx.set_ (Sx.set_ (Sx.set_ (Sx.set_ (Sx.set_ (Sx.set_ (Sx.set_ (Sx.set_ (Sx.set_ (Sx.set_ (Sx.set_ HS14.o zM 4 (.int .i64 z1)) zM 5 (.int .i64 z2)) zM 6 (.int .i64 (1+z3))) zM 7 (.int .i64 z4)) zM 8 (.int .i64 (z5 - 2))) zJ 0 (.int .i64 (1+v))) zJ 1 (.int .i64 y1)) zJ 2 (.int .i64 y2)) zJ 3 (.int .i64 0)) zJ 4 (.int .i64 z1)) zJ 5 (.int .i64 z2)) zJ 6 (.int .i64 (1+z3))) zJ 7 (.int .i64 z4)) zJ 8 (.int .i64 (z5 - 2)))⟩
 have bt:((x.zG.length:Int) == 0)=false:=by simpa using t0
 obtain⟨kX,lX,fX⟩:=yL HM3 0 rfl;have p2:(w1.alloc (.cells #[.int .i64 (1+v),.int .i64 0,.int .i64 0,.int .i64 0,.int .i64 0,.int .i64 0,.int .i64 0,.int .i64 0,.int .i64 0] 41)).cell? ⟨b,2,none⟩=some (.slice A2 x.zG.length C2):=(HS3.o.trn.cell_ HLB.o (by simpa using HBG.o)).trans HC2.o;have lb:b<(w1.alloc (.cells #[.int .i64 (1+v),.int .i64 0,.int .i64 0,.int .i64 0,.int .i64 0,.int .i64 0,.int .i64 0,.int .i64 0,.int .i64 0] 41)).heap.size:=zW HLB.o HS3.o.trn.size;go_wp2_with fail
 refine(wS HS3.o zM zM).mono ?_;rintro e wa ⟨y1,b1,rfl,hy1,hb1,hs⟩;obtain⟨HM4,HS4,hz4⟩:=(yU HM3 HS3 hz3).S hs;clear hs HM3 HS3 hz3;clear kX lX fX;have hy1b:0≤y1∧y1<1000:=by omega
 by_cases v3:v=3
 ·
  subst v3;replace HM4:=xN (HM4.o);obtain⟨kX,lX,fX⟩:=yL HM4 0 rfl;clear p2 lb;have p5:wa.cell? ⟨b,5,none⟩=some (.slice A5 x.zH.zC.length C5):=(HS4.o.trn.cell_ HLB.o (by simpa using HBG.o)).trans HC5.o;have lb:b<wa.heap.size:=zW HLB.o HS4.o.trn.size;obtain⟨HM5,HS5,hz5⟩:=(yU HM4 HS4 hz4).E 0 rfl 1 (.int .i64 y1) #[.int .i64 4,.int .i64 y1,.int .i64 0,.int .i64 0,.int .i64 0,.int .i64 0,.int .i64 0,.int .i64 0,.int .i64 0] rfl;clear HM4 HS4 hz4;go_wp2_with fail
  refine(wS HS5.o zM zM).mono ?_;rintro e wb ⟨y2,b2,rfl,hy2,hb2,hs⟩;obtain⟨HM6,HS6,hz6⟩:=(yU HM5 HS5 hz5).S hs;clear hs HM5 HS5 hz5;clear kX lX fX;obtain⟨kX,lX,fX⟩:=yL HM6 0 rfl;obtain⟨kR,lR,fR⟩:=yL HM6 1 rfl;clear p5 lb;go_wp2;refine bodyPost_ret (v:= .agg #[.int .i64 4,.int .i64 y1,.int .i64 0,.int .i64 y2,.int .i64 0,.int .i64 0,.int .i64 0,.int .i64 0,.int .i64 0]) (by simp[results,Tryz.results19,go_sem,kX,fX,lX,kR,fR,lR,hne1,hne2]) rfl ?_;exact⟨⟨4,y1,0,y2,⟨0,0,0,0,0⟩⟩,b2,rfl,by omega,(Sx.set_ (Sx.set_ (Sx.set_ (Sx.set_ (Sx.set_ (Sx.set_ (Sx.set_ (Sx.set_ (Sx.set_ (Sx.set_ HS6.o zM 3 (.int .i64 y2)) zJ 0 (.int .i64 4)) zJ 1 (.int .i64 y1)) zJ 2 (.int .i64 0)) zJ 3 (.int .i64 y2)) zJ 4 (.int .i64 0)) zJ 5 (.int .i64 0)) zJ 6 (.int .i64 0)) zJ 7 (.int .i64 0)) zJ 8 (.int .i64 0))⟩
 have b3:(1+v == 4)=false:=by simpa using(by omega: ¬ 1+v=4)
 obtain⟨kX,lX,fX⟩:=yL HM4 0 rfl;have p2:wa.cell? ⟨b,2,none⟩=some (.slice A2 x.zG.length C2):=(HS4.o.trn.cell_ HLB.o (by simpa using HBG.o)).trans HC2.o;have lb:b<wa.heap.size:=zW HLB.o HS4.o.trn.size;have bq:decide (0<x.zG.length)=true:=decide_eq_true zM;obtain⟨k,rfl⟩: ∃ q:Nat,y1=(q:Int):=⟨y1.toNat,by omega⟩;have hkn:k<x.zG.length:=by omega
 have hki:(k:Int)<(x.zG.length:Int):=by omega
 obtain⟨t,ht⟩: ∃ z,x.zG[k]?=some z:=⟨x.zG[k]'hkn,gE hkn⟩;have htm:=List.mem_of_getElem? ht;have hcn:=HLX.o.trk.2 t htm;clear htm;obtain⟨tb,to,tc,u,e2,hsc,hcl⟩:=hold_track H2.o ht;clear ht;injection e2 with e5 e6 e7;subst e5;clear e6 e7;obtain⟨cA,cC,rfl,-,-,-⟩:=T.yS (hcl w (Trn.refl _ _));have HSC:=xN hsc;have HCL:=xN hcl;clear hsc hcl;clear kX lX fX;obtain⟨kX,lX,fX⟩:=yL HM4 0 rfl;clear p2 lb;have p2:wa.cell? ⟨b,2,none⟩=some (.slice (some ⟨tb,to,none⟩) x.zG.length C2):=(HS4.o.trn.cell_ HLB.o (by simpa using HBG.o)).trans HC2.o;have lb:b<wa.heap.size:=zW HLB.o HS4.o.trn.size;have pt:wa.cell? ⟨tb,to+k,none⟩=some (.slice cA t.zS.length cC):=HSC.o _ HS4.o.trn;go_wp2;clear kX lX fX;clear p2 lb;clear pt;obtain⟨HM5,HS5,hz5⟩:=(yU HM4 HS4 hz4).E 0 rfl 1 (.int .i64 (k:Int)) #[.int .i64 (1+v),.int .i64 (k:Int),.int .i64 0,.int .i64 0,.int .i64 0,.int .i64 0,.int .i64 0,.int .i64 0,.int .i64 0] rfl;clear HM4 HS4 hz4;obtain⟨HM6,HS6,hz6⟩:=(yU HM5 HS5 hz5).A (.cells #[] 39);clear HM5 HS5 hz5;obtain⟨HM7,HS7,hz7⟩:=(yU HM6 HS6 hz6).D;clear HS6 HM6 hz6;refine wG (fun w'=>(∀ i,w'.cell? ⟨w1.heap.size,i,none⟩= #[.int .i64 (1+v),.int .i64 (k:Int),.int .i64 0,.int .i64 0,.int .i64 0,.int .i64 0,.int .i64 0,.int .i64 0,.int .i64 0][i]?)∧w'.cell? ⟨b,2,none⟩=some (.slice (some ⟨tb,to,none⟩) x.zG.length C2)∧w'.cell? ⟨tb,to+k,none⟩=some (.slice cA t.zS.length cC)) [] (by kernel_rfl) ?_ (fun hS0=>?_)
 ·exact⟨Bk.cell (HM7.o.get 0 rfl),(HS7.o.trn.cell_ HLB.o (by simpa using HBG.o)).trans HC2.o,HSC.o _ HS7.o.trn⟩
 generalize ((wa.setCell ⟨w1.heap.size,1,none⟩ (.int .i64 (k:Int))).alloc (.cells #[] 39)).drew=we7 at *;refine zN 0 hS0 ?_;refine zN 1 hS0 ?_;refine zN 2 hS0 ?_;refine zN 3 hS0 ?_;refine zN 4 hS0 ?_;refine zN 5 hS0 ?_;refine zN 6 hS0 ?_;refine zN 7 hS0 ?_;refine zN 8 hS0 ?_;refine zN 9 hS0 ?_;refine qN ?_;clear hS0;go_wp2_with fail
 refine(wS HS7.o zM zM).mono ?_;rintro e wb ⟨y2,b2,rfl,hy2,hb2,hs⟩;obtain⟨HM8,HS8,hz8⟩:=(yU HM7 HS7 hz7).S hs;clear hs HM7 HS7 hz7;have hy2b:0≤y2∧y2<1000:=by omega
 by_cases v1:v=1
 ·
  subst v1;replace HM8:=xN (HM8.o);obtain⟨kX,lX,fX⟩:=yL HM8 0 rfl;obtain⟨kR,lR,fR⟩:=yL HM8 1 rfl;go_wp2;refine bodyPost_ret (v:= .agg #[.int .i64 2,.int .i64 (k:Int),.int .i64 y2,.int .i64 0,.int .i64 0,.int .i64 0,.int .i64 0,.int .i64 0,.int .i64 0]) (by simp[results,Tryz.results19,go_sem,kX,fX,lX,kR,fR,lR,hne1,hne2]) rfl ?_;exact⟨⟨2,(k:Int),y2,0,⟨0,0,0,0,0⟩⟩,b2,rfl,by omega,(Sx.set_ (Sx.set_ (Sx.set_ (Sx.set_ (Sx.set_ (Sx.set_ (Sx.set_ (Sx.set_ (Sx.set_ (Sx.set_ HS8.o zM 2 (.int .i64 y2)) zJ 0 (.int .i64 2)) zJ 1 (.int .i64 (k:Int))) zJ 2 (.int .i64 y2)) zJ 3 (.int .i64 0)) zJ 4 (.int .i64 0)) zJ 5 (.int .i64 0)) zJ 6 (.int .i64 0)) zJ 7 (.int .i64 0)) zJ 8 (.int .i64 0))⟩
 have b2:(1+v == 2)=false:=by simpa using(by omega: ¬ 1+v=2)
 obtain⟨kX,lX,fX⟩:=yL HM8 0 rfl;have p1:wb.cell? ⟨b,1,none⟩=some (.slice A1 x.zI.length C1):=(HS8.o.trn.cell_ HLB.o (by simpa using HBG.o)).trans HC1.o;have lb:b<wb.heap.size:=zW HLB.o HS8.o.trn.size;obtain⟨HM9,HS9,hz9⟩:=(yU HM8 HS8 hz8).E 0 rfl 2 (.int .i64 y2) #[.int .i64 (1+v),.int .i64 (k:Int),.int .i64 y2,.int .i64 0,.int .i64 0,.int .i64 0,.int .i64 0,.int .i64 0,.int .i64 0] rfl;clear HM8 HS8 hz8;go_wp2_with fail
 refine(wS HS9.o zM zM).mono ?_;rintro e x1 ⟨z1,c1,rfl,hz1,hc1,hs⟩;obtain⟨HM10,HS10,hz10⟩:=(yU HM9 HS9 hz9).S hs;clear hs HM9 HS9 hz9;clear kX lX fX;go_wp2_with fail
 refine(wS HS10.o zM zM).mono ?_;rintro e x2 ⟨z2,c2,rfl,hz2,hc2,hs⟩;obtain⟨HM11,HS11,hz11⟩:=(yU HM10 HS10 hz10).S hs;clear hs HM10 HS10 hz10;go_wp2_with fail
 refine(wS HS11.o zM zM).mono ?_;rintro e x3 ⟨z3,c3,rfl,hz3,hc3,hs⟩;obtain⟨HM12,HS12,hz12⟩:=(yU HM11 HS11 hz11).S hs;clear hs HM11 HS11 hz11;go_wp2_with fail
 refine(wS HS12.o zM zM).mono ?_;rintro e x4 ⟨z4,c4,rfl,hz4,hc4,hs⟩;obtain⟨HM13,HS13,hz13⟩:=(yU HM12 HS12 hz12).S hs;clear hs HM12 HS12 hz12;go_wp2_with fail
 refine(wS HS13.o zM zM).mono ?_;rintro e x5 ⟨z5,c5,rfl,hz5,hc5,hs⟩;obtain⟨HM14,HS14,hz14⟩:=(yU HM13 HS13 hz13).S hs;clear hs HM13 HS13 hz13;have hz:0≤z1∧z1<1000∧0≤z2∧z2<6∧0≤z3∧z3<9∧0≤z4∧z4<30∧0≤z5∧z5<5:=by omega
 clear hz1 hz2 hz3 hz4 hz5;have hwa:IntKind.i64.wrap (1+z3)=1+z3:=IntWalk.i64_in _ zM;have hwb:IntKind.i64.wrap (z5 - 2)=z5 - 2:=IntWalk.i64_in _ zM;by_cases v0:v=0
 ·
  subst v0;replace HM14:=xN (HM14.o);obtain⟨kX,lX,fX⟩:=yL HM14 0 rfl;clear p1 lb;go_wp2;obtain⟨HM15,HS15,hz15⟩:=((((((yU HM14 HS14 hz14).T 0 rfl 4 (.int .i64 z1)).T 0 rfl 5 (.int .i64 z2)).T 0 rfl 6 (.int .i64 (1+z3))).T 0 rfl 7 (.int .i64 z4)).T 0 rfl 8 (.int .i64 (z5 - 2))).E 0 rfl 2 (.int .i64 0) #[.int .i64 1,.int .i64 (k:Int),.int .i64 0,.int .i64 0,.int .i64 z1,.int .i64 z2,.int .i64 (1+z3),.int .i64 z4,.int .i64 (z5 - 2)] rfl;clear HM14 HS14 hz14;clear kX lX fX
  go_loopw [] (fun wr=> ∃ i:Nat,i≤t.zS.length∧Sx w wr g cv bs c5∧FM w.heap.size wr [Item.bk w1.heap.size 41 #[.int .i64 1,.int .i64 (k:Int),.int .i64 (i:Int),.int .i64 0,.int .i64 z1,.int .i64 z2,.int .i64 (1+z3),.int .i64 z4,.int .i64 (z5 - 2)],Item.bk w.heap.size 41 #[.int .i64 0,.int .i64 0,.int .i64 0,.int .i64 0,.int .i64 0,.int .i64 0,.int .i64 0,.int .i64 0,.int .i64 0]]∧w.heap.size≤wr.heap.size) (fun wr=>t.zS.length - numAt wr w1.heap.size 2)
  case atStart=>exact⟨0,Nat.zero_le _,HS15.o,HM15.o,hz15⟩
  case round=>
   obtain⟨i,hi,hs,hm,hz16⟩:=hrel;have HS16:=xN hs;have HM16:=xN hm;clear hs hm HS15 HM15 hz15;by_cases hin:i<t.zS.length
   rotate_left
   ·
    have bl:decide (i<t.zS.length)=false:=decide_eq_false hin;obtain⟨kX,lX,fX⟩:=yL HM16 0 rfl;go_wp2
    go_quiet (fail)
    clear kX lX fX;obtain⟨HM17,HS17,hz17⟩:=(yU HM16 HS16 hz16).N nq;clear HM16 HS16 hz16;generalize (wr.drewN nq)=wq17 at *;obtain⟨kX,lX,fX⟩:=yL HM17 0 rfl;obtain⟨kR,lR,fR⟩:=yL HM17 1 rfl;go_wp2;refine bodyPost_ret (v:= .agg #[.int .i64 1,.int .i64 (k:Int),.int .i64 (i:Int),.int .i64 0,.int .i64 z1,.int .i64 z2,.int .i64 (1+z3),.int .i64 z4,.int .i64 (z5 - 2)]) (by simp[results,Tryz.results19,go_sem,kX,fX,lX,kR,fR,lR,hne1,hne2]) rfl ?_;exact⟨⟨1,(k:Int),(i:Int),0,⟨z1,z2,(1+z3),z4,(z5 - 2)⟩⟩,c5,rfl,by omega,(Sx.set_ (Sx.set_ (Sx.set_ (Sx.set_ (Sx.set_ (Sx.set_ (Sx.set_ (Sx.set_ (Sx.set_ HS17.o zJ 0 (.int .i64 1)) zJ 1 (.int .i64 (k:Int))) zJ 2 (.int .i64 (i:Int))) zJ 3 (.int .i64 0)) zJ 4 (.int .i64 z1)) zJ 5 (.int .i64 z2)) zJ 6 (.int .i64 (1+z3))) zJ 7 (.int .i64 z4)) zJ 8 (.int .i64 (z5 - 2)))⟩
   have hii:(i:Int)<(t.zS.length:Int):=by omega
   obtain⟨c,hcc⟩: ∃ z,t.zS[i]?=some z:=⟨t.zS[i]'hin,gE hin⟩;obtain⟨cb,co,cc,e2,hat⟩:=hold_clip HCL.o hcc;clear hcc;injection e2 with e5 e6 e7;subst e5;clear e6 e7;have HAT:=xN hat;clear hat;obtain⟨kX,lX,fX⟩:=yL HM16 0 rfl;have pc:wr.cell? ⟨cb,co+i * 5+3,none⟩=some (.int .i64 c.yE):=HAT.o _ HS16.o.trn
   cases bl:decide (c.yE≤z4)
   ·
    go_wp2
    go_quiet (fail)
    clear pc;clear kX lX fX;obtain⟨HM17,HS17,hz17⟩:=(yU HM16 HS16 hz16).N nq;clear HM16 HS16 hz16;generalize (wr.drewN nq)=wq17 at *;obtain⟨kX,lX,fX⟩:=yL HM17 0 rfl;obtain⟨kR,lR,fR⟩:=yL HM17 1 rfl;go_wp2;refine bodyPost_ret (v:= .agg #[.int .i64 1,.int .i64 (k:Int),.int .i64 (i:Int),.int .i64 0,.int .i64 z1,.int .i64 z2,.int .i64 (1+z3),.int .i64 z4,.int .i64 (z5 - 2)]) (by simp[results,Tryz.results19,go_sem,kX,fX,lX,kR,fR,lR,hne1,hne2]) rfl ?_;exact⟨⟨1,(k:Int),(i:Int),0,⟨z1,z2,(1+z3),z4,(z5 - 2)⟩⟩,c5,rfl,by omega,(Sx.set_ (Sx.set_ (Sx.set_ (Sx.set_ (Sx.set_ (Sx.set_ (Sx.set_ (Sx.set_ (Sx.set_ HS17.o zJ 0 (.int .i64 1)) zJ 1 (.int .i64 (k:Int))) zJ 2 (.int .i64 (i:Int))) zJ 3 (.int .i64 0)) zJ 4 (.int .i64 z1)) zJ 5 (.int .i64 z2)) zJ 6 (.int .i64 (1+z3))) zJ 7 (.int .i64 z4)) zJ 8 (.int .i64 (z5 - 2)))⟩
   have hlen:numAt wr w1.heap.size 2=i:=(by unfold numAt;rw[kX 2];simp);have HLE:=xN hlen;clear hlen;have hwi:IntKind.i64.wrap ((i:Int)+1)=(i:Int)+1:=IntWalk.i64_in _ zM;go_wp2
   go_quiet (fail)
   clear pc;clear kX lX fX;obtain⟨HM17,HS17,hz17⟩:=(yU HM16 HS16 hz16).N nq;clear HM16 HS16 hz16;generalize (wr.drewN nq)=wq17 at *;obtain⟨kX,lX,fX⟩:=yL HM17 0 rfl;go_wp2;obtain⟨HM18,HS18,hz18⟩:=(yU HM17 HS17 hz17).E 0 rfl 2 (.int .i64 ((i:Int)+1)) #[.int .i64 1,.int .i64 (k:Int),.int .i64 ((i:Int)+1),.int .i64 0,.int .i64 z1,.int .i64 z2,.int .i64 (1+z3),.int .i64 z4,.int .i64 (z5 - 2)] rfl;clear HM17 HS17 hz17;have hl9:numAt (wq17.setCell ⟨w1.heap.size,2,none⟩ (.int .i64 ((i:Int)+1))) w1.heap.size 2=i+1:=(by unfold numAt;rw[Bk.cell (HM18.o.get 0 rfl) 2];show ((i:Int)+1).toNat=i+1;omega);have HL9:=xN hl9;clear hl9
   go_roundw
   case rel=>exact⟨i+1,by omega,HS18.o,HM18.o,hz18⟩
   case measure=>(try dsimp only);rw[HL9.o,HLE.o];omega
 have b1:(1+v == 1)=false:=by simpa using(by omega: ¬ 1+v=1)
 by_cases n0:t.zS.length=0
 ·
  have bn:decide (0<t.zS.length)=false:=decide_eq_false zM;obtain⟨kX,lX,fX⟩:=yL HM14 0 rfl;obtain⟨kR,lR,fR⟩:=yL HM14 1 rfl;go_wp2;refine bodyPost_ret (v:= .agg #[.int .i64 (1+v),.int .i64 (k:Int),.int .i64 y2,.int .i64 0,.int .i64 z1,.int .i64 z2,.int .i64 (1+z3),.int .i64 z4,.int .i64 (z5 - 2)]) (by simp[results,Tryz.results19,go_sem,kX,fX,lX,kR,fR,lR,hne1,hne2]) rfl ?_;exact⟨⟨(1+v),(k:Int),y2,0,⟨z1,z2,(1+z3),z4,(z5 - 2)⟩⟩,c5,rfl,by omega,(Sx.set_ (Sx.set_ (Sx.set_ (Sx.set_ (Sx.set_ (Sx.set_ (Sx.set_ (Sx.set_ (Sx.set_ (Sx.set_ (Sx.set_ (Sx.set_ (Sx.set_ (Sx.set_ HS14.o zM 4 (.int .i64 z1)) zM 5 (.int .i64 z2)) zM 6 (.int .i64 (1+z3))) zM 7 (.int .i64 z4)) zM 8 (.int .i64 (z5 - 2))) zJ 0 (.int .i64 (1+v))) zJ 1 (.int .i64 (k:Int))) zJ 2 (.int .i64 y2)) zJ 3 (.int .i64 0)) zJ 4 (.int .i64 z1)) zJ 5 (.int .i64 z2)) zJ 6 (.int .i64 (1+z3))) zJ 7 (.int .i64 z4)) zJ 8 (.int .i64 (z5 - 2)))⟩
 have bn:decide (0<t.zS.length)=true:=decide_eq_true zM;obtain⟨i,rfl⟩: ∃ q:Nat,y2=(q:Int):=⟨y2.toNat,by omega⟩;have hin:i<t.zS.length:=by omega
 have hii:(i:Int)<(t.zS.length:Int):=by omega
 obtain⟨c,hcc⟩: ∃ z,t.zS[i]?=some z:=⟨t.zS[i]'hin,gE hin⟩;obtain⟨cb,co,cc,e2,hat⟩:=hold_clip HCL.o hcc;clear hcc;injection e2 with e5 e6 e7;subst e5;clear e6 e7;have HAT:=xN hat;clear hat;obtain⟨kX,lX,fX⟩:=yL HM14 0 rfl;obtain⟨HM15,HS15,hz15⟩:=(((((yU HM14 HS14 hz14).T 0 rfl 4 (.int .i64 z1)).T 0 rfl 5 (.int .i64 z2)).T 0 rfl 6 (.int .i64 (1+z3))).T 0 rfl 7 (.int .i64 z4)).E 0 rfl 8 (.int .i64 (z5 - 2)) #[.int .i64 (1+v),.int .i64 (k:Int),.int .i64 (i:Int),.int .i64 0,.int .i64 z1,.int .i64 z2,.int .i64 (1+z3),.int .i64 z4,.int .i64 (z5 - 2)] rfl;clear HM14 HS14 hz14;go_wp2_with fail
 refine(x_one HS15.o zM zM).mono ?_;rintro e x6 ⟨bb,c6,rfl,hc6,hs⟩;obtain⟨HM16,HS16,hz16⟩:=(yU HM15 HS15 hz15).S hs;clear hs HM15 HS15 hz15;clear kX lX fX
 cases bb
 ·
  have pc:x6.cell? ⟨cb,co+i * 5+3,none⟩=some (.int .i64 c.yE):=HAT.o _ HS16.o.trn;obtain⟨kX,lX,fX⟩:=yL HM16 0 rfl;obtain⟨kR,lR,fR⟩:=yL HM16 1 rfl;go_wp2;refine bodyPost_ret (v:= .agg #[.int .i64 (1+v),.int .i64 (k:Int),.int .i64 (i:Int),.int .i64 0,.int .i64 z1,.int .i64 z2,.int .i64 (1+z3),.int .i64 c.yE,.int .i64 (z5 - 2)]) (by simp[results,Tryz.results19,go_sem,kX,fX,lX,kR,fR,lR,hne1,hne2]) rfl ?_;exact⟨⟨(1+v),(k:Int),(i:Int),0,⟨z1,z2,(1+z3),c.yE,(z5 - 2)⟩⟩,c6,rfl,by omega,(Sx.set_ (Sx.set_ (Sx.set_ (Sx.set_ (Sx.set_ (Sx.set_ (Sx.set_ (Sx.set_ (Sx.set_ (Sx.set_ HS16.o zM 7 (.int .i64 c.yE)) zJ 0 (.int .i64 (1+v))) zJ 1 (.int .i64 (k:Int))) zJ 2 (.int .i64 (i:Int))) zJ 3 (.int .i64 0)) zJ 4 (.int .i64 z1)) zJ 5 (.int .i64 z2)) zJ 6 (.int .i64 (1+z3))) zJ 7 (.int .i64 c.yE)) zJ 8 (.int .i64 (z5 - 2)))⟩
 obtain⟨kX,lX,fX⟩:=yL HM16 0 rfl;clear kX lX fX;obtain⟨kX,lX,fX⟩:=yL HM16 0 rfl;obtain⟨kR,lR,fR⟩:=yL HM16 1 rfl;go_wp2;refine bodyPost_ret (v:= .agg #[.int .i64 (1+v),.int .i64 (k:Int),.int .i64 (i:Int),.int .i64 0,.int .i64 z1,.int .i64 z2,.int .i64 (1+z3),.int .i64 z4,.int .i64 (z5 - 2)]) (by simp[results,Tryz.results19,go_sem,kX,fX,lX,kR,fR,lR,hne1,hne2]) rfl ?_;exact⟨⟨(1+v),(k:Int),(i:Int),0,⟨z1,z2,(1+z3),z4,(z5 - 2)⟩⟩,c6,rfl,by omega,(Sx.set_ (Sx.set_ (Sx.set_ (Sx.set_ (Sx.set_ (Sx.set_ (Sx.set_ (Sx.set_ (Sx.set_ HS16.o zJ 0 (.int .i64 (1+v))) zJ 1 (.int .i64 (k:Int))) zJ 2 (.int .i64 (i:Int))) zJ 3 (.int .i64 0)) zJ 4 (.int .i64 z1)) zJ 5 (.int .i64 z2)) zJ 6 (.int .i64 (1+z3))) zJ 7 (.int .i64 z4)) zJ 8 (.int .i64 (z5 - 2)))⟩
end
end Go.Proofs.YtdcofkabaigjpaaGreat
