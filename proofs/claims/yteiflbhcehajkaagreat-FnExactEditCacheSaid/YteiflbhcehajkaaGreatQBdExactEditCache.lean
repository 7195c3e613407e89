/- Contract: the program's apply. -/
import Derived.Test.YteiflbhcehajkaaGreatQAwExactEditCache
import Derived.Test.YteiflbhcehajkaaGreatQBaExactEditCache
import Derived.Test.YteiflbhcehajkaaGreatQBbExactEditCache
import Derived.Test.YteiflbhcehajkaaGreatQBcExactEditCache
import Derived.Test.YteiflbhcehajkaaGreatQAeExactEditCache
import Derived.Test.YteiflbhcehajkaaGreatQAsExactEditCache
set_option linter.unusedVariables false
set_option linter.unusedSimpArgs false
set_option maxHeartbeats 8000000
set_option maxRecDepth 100000
namespace Go.Proofs.YteiflbhcehajkaaGreat
open Go.RowKit
theorem none_ows (w:World):T.ows w noSession.fs [] [.int .i64 0,.slice none 0 0,.slice none 0 0,.slice none 0 0,.slice none 0 0,.slice none 0 0]:=
 GSession.ow_mk (x:=noSession) (Own.nil 0 w _ _).ow (Own.nil 0 w _ _).ow (Own.nil 0 w _ _).ow (Own.nil 0 w _ _).ow (Own.nil 0 w _ _).ow
theorem GSession.sl5 {w:World} {x:GSession} {p1 p2 p3 p4 p5:Value} (h:T.rds w x.fs [.int .i64 x.zA,p1,p2,p3,p4,p5]):(∃ A l c,p1= .slice A l c)∧(∃ A l c,p2= .slice A l c)∧(∃ A l c,p3= .slice A l c)∧(∃ A l c,p4= .slice A l c)∧ ∃ A l c,p5= .slice A l c:=by
 obtain⟨v1,v2,v3,v4,v5,e,h1,h2,h3,h4,h5⟩:=GSession.yL h
 injection e with _ e
 injection e with e1 e
 injection e with e2 e
 injection e with e3 e
 injection e with e4 e
 injection e with e5 _
 subst e1 e2 e3 e4 e5
 exact⟨T.yS h1,T.yS h2,T.yS h3,T.yS h4,T.yS h5⟩
theorem GSession.part_tracks {w:World} {x:GSession} {F:List Nat} {v1 v2 v3 v4 v5:Value} (h:T.ows w x.fs F [.int .i64 x.zA,v1,v2,v3,v4,v5]) (nd:F.Nodup):
  ∃ Fx,T.ow w (T.sl 126 1 (x.zE.map GTrack.t)) Fx [v2]∧Fx.Nodup∧(∀ b ∈ Fx,b ∈ F)∧ ∀ (w':World) (l':List GTrack) (Fy:List Nat) (u:Value),Trn Fx w w'→T.ow w' (T.sl 126 1 (l'.map GTrack.t)) Fy [u]→Fy.Nodup→(∀ b ∈ Fy,b ∈ Fx∨w.heap.size≤b)→
   ∃ F',T.ows w' ({ x with zE:=l' }).fs F' [.int .i64 x.zA,v1,u,v3,v4,v5]∧F'.Nodup∧ ∀ b ∈ F',b ∈ F∨w.heap.size≤b:=by
 obtain⟨Fp,Fx,Fq,cp,cx,cq,rfl,ec,el,ho,hn,put⟩:=T.ows_part (pre:= [.num x.zA,T.sl 24 1 (x.zG.map (T.ints 2))]) (x:=T.sl 126 1 (x.zE.map GTrack.t)) (post:= [T.ints 2 x.zK,T.sl 130 4 (x.zJ.map GPatch.t),T.sl 139 3 (x.zF.zD.map GStrip.t)]) h nd
 obtain⟨c,rfl⟩:=T.rd_one (T.ow_rd _ _ _ ho)
 have el:cp.length=2:=el
 obtain⟨a0,a1,rfl⟩:=len2 el
 simp only[List.cons_append,List.nil_append,List.cons.injEq] at ec
 obtain⟨rfl,rfl,rfl,rfl⟩:=ec
 refine⟨Fx,ho,hn,fun b hb=>by simp[hb],fun w' l' Fy u h1 h2 h3 h4=>?_⟩
 obtain⟨k1,k2,k3⟩:=put w' _ Fy [u] h1 h2 h3 h4
 exact⟨_,k1,k2,k3⟩
theorem GSession.part_feeds {w:World} {x:GSession} {F:List Nat} {v1 v2 v3 v4 v5:Value} (h:T.ows w x.fs F [.int .i64 x.zA,v1,v2,v3,v4,v5]) (nd:F.Nodup):
  ∃ Fx,T.ow w (T.ints 2 x.zK) Fx [v3]∧Fx.Nodup∧(∀ b ∈ Fx,b ∈ F)∧ ∀ (w':World) (l':List Int) (Fy:List Nat) (u:Value),Trn Fx w w'→T.ow w' (T.ints 2 l') Fy [u]→Fy.Nodup→(∀ b ∈ Fy,b ∈ Fx∨w.heap.size≤b)→
   ∃ F',T.ows w' ({ x with zK:=l' }).fs F' [.int .i64 x.zA,v1,v2,u,v4,v5]∧F'.Nodup∧ ∀ b ∈ F',b ∈ F∨w.heap.size≤b:=by
 obtain⟨Fp,Fx,Fq,cp,cx,cq,rfl,ec,el,ho,hn,put⟩:=T.ows_part (pre:= [.num x.zA,T.sl 24 1 (x.zG.map (T.ints 2)),T.sl 126 1 (x.zE.map GTrack.t)]) (x:=T.ints 2 x.zK) (post:= [T.sl 130 4 (x.zJ.map GPatch.t),T.sl 139 3 (x.zF.zD.map GStrip.t)]) h nd
 obtain⟨c,rfl⟩:=T.rd_one (T.ow_rd _ _ _ ho)
 have el:cp.length=3:=el
 obtain⟨a0,a1,a2,rfl⟩:=len3 el
 simp only[List.cons_append,List.nil_append,List.cons.injEq] at ec
 obtain⟨rfl,rfl,rfl,rfl,rfl⟩:=ec
 refine⟨Fx,ho,hn,fun b hb=>by simp[hb],fun w' l' Fy u h1 h2 h3 h4=>?_⟩
 obtain⟨k1,k2,k3⟩:=put w' _ Fy [u] h1 h2 h3 h4
 exact⟨_,k1,k2,k3⟩
theorem GSession.part_strips {w:World} {x:GSession} {F:List Nat} {v1 v2 v3 v4 v5:Value} (h:T.ows w x.fs F [.int .i64 x.zA,v1,v2,v3,v4,v5]) (nd:F.Nodup):
  ∃ Fx,T.ow w (T.sl 139 3 (x.zF.zD.map GStrip.t)) Fx [v5]∧Fx.Nodup∧(∀ b ∈ Fx,b ∈ F)∧ ∀ (w':World) (l':List GStrip) (Fy:List Nat) (u:Value),Trn Fx w w'→T.ow w' (T.sl 139 3 (l'.map GStrip.t)) Fy [u]→Fy.Nodup→(∀ b ∈ Fy,b ∈ Fx∨w.heap.size≤b)→
   ∃ F',T.ows w' ({ x with zF:=⟨l'⟩ }).fs F' [.int .i64 x.zA,v1,v2,v3,v4,u]∧F'.Nodup∧ ∀ b ∈ F',b ∈ F∨w.heap.size≤b:=by
 obtain⟨Fp,Fx,Fq,cp,cx,cq,rfl,ec,el,ho,hn,put⟩:=T.ows_part (pre:= [.num x.zA,T.sl 24 1 (x.zG.map (T.ints 2)),T.sl 126 1 (x.zE.map GTrack.t),T.ints 2 x.zK,T.sl 130 4 (x.zJ.map GPatch.t)]) (x:=T.sl 139 3 (x.zF.zD.map GStrip.t)) (post:= []) h nd
 obtain⟨c,rfl⟩:=T.rd_one (T.ow_rd _ _ _ ho)
 have el:cp.length=5:=el
 obtain⟨a0,a1,a2,a3,a4,rfl⟩:=len5 el
 simp only[List.cons_append,List.nil_append,List.cons.injEq] at ec
 obtain⟨rfl,rfl,rfl,rfl,rfl,rfl,rfl⟩:=ec
 refine⟨Fx,ho,hn,fun b hb=>by simp[hb],fun w' l' Fy u h1 h2 h3 h4=>?_⟩
 obtain⟨k1,k2,k3⟩:=put w' _ Fy [u] h1 h2 h3 h4
 exact⟨_,k1,k2,k3⟩
theorem T.ow_rowmem {w:World} {E:TypeId} {sz:Nat} {xs:List T} {F:List Nat} {v:Value} (h:T.ow w (.sl E sz xs) F [v]): ∀ k,v.ownBlock=some k→k ∈ F:=by
 intro k hk
 simp only[T.ow] at h
 obtain⟨v0,es,G,e,rfl,_⟩:=h
 injection e with e _
 subst e
 exact List.mem_append.2 (.inl (by rw[hk];simp))
theorem T.ow_row2 {w:World} {E:TypeId} {sz:Nat} {xs:List T} {F:List Nat} {v:Value} (h:T.ow w (.sl E sz xs) F [v]): ∃ es,w.ownsRow 0 E sz v xs.length es:=by
 simp only[T.ow] at h
 obtain⟨v0,es,G,e,_,_,hr,_⟩:=h
 injection e with e _
 subst e
 exact⟨es,hr⟩
theorem own_isc {w:World} {B E sz n g cap l:Nat} {es:List Value} (h:w.ownsRow B E sz (.slice (some ⟨g,0,none⟩) l cap) n es) {j:Nat} (hj:j<n * sz): ∃ u,w.cell? ⟨g,j,none⟩=some u:=by
 rcases h.2 with ⟨h0,_⟩|⟨g',cap',cur,e,_,hg,hn,_,hs,_⟩
 ·cases h0
 ·injection e with e1 e2 e3
  injection e1 with e1
  injection e1 with e1
  subst e1 e2 e3
  have hk:Bk w g E cur:=hg
  have hm:=Nat.mul_le_mul_right sz hn
  exact⟨cur[j]'(by omega),by rw[hk.cell j,Array.getElem?_eq_getElem]⟩
theorem c_apply (x:GSession) (cs:List Value) (ed:GEdit) (w:World) (hs:x.small) (hv:SessionOk x) (h:T.rds w x.fs cs):Calls Tryz.prog 56 #[.agg cs.toArray,.agg #[.int .i64 ed.zC,.int .i64 ed.zV,.int .i64 ed.zZ,.int .i64 ed.zY,.int .i64 ed.zP.zO,.int .i64 ed.zP.zI,.int .i64 ed.zP.zA,.int .i64 ed.zP.zW,.int .i64 ed.zP.zQ]] w fun e w'=> ∃ v1 v2 v3 v4 v5 F,e= .returned (.tuple #[.agg #[.int .i64 (applyF x ed).1.zA,v1,v2,v3,v4,v5],.int .i64 (applyF x ed).2])∧Nw w w' (applyF x ed).1.fs F [.int .i64 (applyF x ed).1.zA,v1,v2,v3,v4,v5]:=by
 obtain⟨ek,et,ec,ev,ns,nf,nl,na,ng⟩:=ed
 dsimp only
 obtain⟨v1,v2,v3,v4,v5,rfl,h1,h2,h3,h4,h5⟩:=GSession.yL h
 clear h
 have R1:=hide h1;obtain⟨va1,vc1,rfl,vl1,vm1,vx1⟩:=T.yK h1
 have HX1:=hide vx1;clear vx1 h1
 have R2:=hide h2;obtain⟨va2,vc2,rfl,vl2,vm2,vx2⟩:=T.yK h2
 have HX2:=hide vx2;clear vx2 h2
 have h3i:=T.yQ.1 h3;obtain⟨va3,vc3,rfl,vl3,vm3,vx3⟩:=h3i.open_
 have R3:=hide h3i;have HX3:=hide vx3;clear vx3 h3 h3i
 have R4:=hide h4;obtain⟨va4,vc4,rfl,vl4,vm4,vx4⟩:=T.yK h4
 have HX4:=hide vx4;clear vx4 h4
 have R5:=hide h5;obtain⟨va5,vc5,rfl,vl5,vm5,vx5⟩:=T.yK h5
 have HX5:=hide vx5;clear vx5 h5
 have HB0:=hide (show Below w.heap.size w (w.alloc (.cells #[.int .i64 x.zA,(.slice va1 x.zG.length vc1),(.slice va2 x.zE.length vc2),(.slice va3 x.zK.length vc3),(.slice va4 x.zJ.length vc4),(.slice va5 x.zF.zD.length vc5)] 41)) from(Below.refl _ _).alloc (Nat.le_refl _) _)
 have HK0:=hide (Bk.born w 41 #[.int .i64 x.zA,(.slice va1 x.zG.length vc1),(.slice va2 x.zE.length vc2),(.slice va3 x.zK.length vc3),(.slice va4 x.zJ.length vc4),(.slice va5 x.zF.zD.length vc5)])
 have HSM:=hide hs;have HV:=hide hv;clear hs hv
 have GX:=hide (show ∀ w',Below w.heap.size w w'→T.rds w' x.fs [.int .i64 x.zA,(.slice va1 x.zG.length vc1),(.slice va2 x.zE.length vc2),(.slice va3 x.zK.length vc3),(.slice va4 x.zJ.length vc4),(.slice va5 x.zF.zD.length vc5)] from fun w' hb=>GSession.rd_mk (T.yC R1.out hb) (T.yC R2.out hb) (T.yQ.2 (Rd.below R3.out hb)) (T.yC R4.out hb) (T.yC R5.out hb))
 have IE:=hide (fun W=>c_isEdit ⟨ek,et,ec,ev,⟨ns,nf,nl,na,ng⟩⟩ _ W GEdit.rd_mk)
 have II:=hide (fun(W:World) (hb:Below w.heap.size w W)=>c_isInRange x _ ⟨ek,et,ec,ev,⟨ns,nf,nl,na,ng⟩⟩ W HSM.out (GX.out W hb))
 have IC:=hide (fun(W:World) (hb:Below w.heap.size w W)=>c_copySession x _ W HSM.out (GX.out W hb))
 have A1:=hide (applyF_fields (e:=⟨ek,et,ec,ev,⟨ns,nf,nl,na,ng⟩⟩) HV.out);have A2:=hide (applyF_range (e:=⟨ek,et,ec,ev,⟨ns,nf,nl,na,ng⟩⟩) HV.out);have A3:=hide (applyF_full (e:=⟨ek,et,ec,ev,⟨ns,nf,nl,na,ng⟩⟩) HV.out);have A4:=hide (applyF_feed (e:=⟨ek,et,ec,ev,⟨ns,nf,nl,na,ng⟩⟩) HV.out);have A5:=hide (applyF_send (e:=⟨ek,et,ec,ev,⟨ns,nf,nl,na,ng⟩⟩) HV.out);have A6:=hide (fun h1 h2 h3 h4 h5 (k:Nat) t=>applyF_clips (e:=⟨ek,et,ec,ev,⟨ns,nf,nl,na,ng⟩⟩) HV.out h1 h2 h3 h4 h5 (k:=k) (t:=t))
 have HBa:=hide ((HB0.out.alloc (by simp) (.cells #[.int .i64 ek,.int .i64 et,.int .i64 ec,.int .i64 ev,.int .i64 ns,.int .i64 nf,.int .i64 nl,.int .i64 na,.int .i64 ng] 62)).alloc (by simp;omega) (.cells #[.int .i64 0,.slice none 0 0,.slice none 0 0,.slice none 0 0,.slice none 0 0,.slice none 0 0] 41))
 have HP:=hide ((HK0.out.alloc (.cells #[.int .i64 ek,.int .i64 et,.int .i64 ec,.int .i64 ev,.int .i64 ns,.int .i64 nf,.int .i64 nl,.int .i64 na,.int .i64 ng] 62)).alloc (.cells #[.int .i64 0,.slice none 0 0,.slice none 0 0,.slice none 0 0,.slice none 0 0,.slice none 0 0] 41));have HE:=hide ((Bk.born1' w (.cells #[.int .i64 x.zA,(.slice va1 x.zG.length vc1),(.slice va2 x.zE.length vc2),(.slice va3 x.zK.length vc3),(.slice va4 x.zJ.length vc4),(.slice va5 x.zF.zD.length vc5)] 41) 62 #[.int .i64 ek,.int .i64 et,.int .i64 ec,.int .i64 ev,.int .i64 ns,.int .i64 nf,.int .i64 nl,.int .i64 na,.int .i64 ng]).alloc (.cells #[.int .i64 0,.slice none 0 0,.slice none 0 0,.slice none 0 0,.slice none 0 0,.slice none 0 0] 41));have HR:Sec (Bk _ (w.heap.size+1+1) 41 #[.int .i64 0,.slice none 0 0,.slice none 0 0,.slice none 0 0,.slice none 0 0,.slice none 0 0]):=hide (Bk.born2 w (.cells #[.int .i64 x.zA,(.slice va1 x.zG.length vc1),(.slice va2 x.zE.length vc2),(.slice va3 x.zK.length vc3),(.slice va4 x.zJ.length vc4),(.slice va5 x.zF.zD.length vc5)] 41) (.cells #[.int .i64 ek,.int .i64 et,.int .i64 ec,.int .i64 ev,.int .i64 ns,.int .i64 nf,.int .i64 nl,.int .i64 na,.int .i64 ng] 62) 41 #[.int .i64 0,.slice none 0 0,.slice none 0 0,.slice none 0 0,.slice none 0 0,.slice none 0 0])
 clear HB0 HK0
 obtain⟨W,hW⟩: ∃ W',W'=(((w.alloc (.cells #[.int .i64 x.zA,(.slice va1 x.zG.length vc1),(.slice va2 x.zE.length vc2),(.slice va3 x.zK.length vc3),(.slice va4 x.zJ.length vc4),(.slice va5 x.zF.zD.length vc5)] 41)).alloc (.cells #[.int .i64 ek,.int .i64 et,.int .i64 ec,.int .i64 ev,.int .i64 ns,.int .i64 nf,.int .i64 nl,.int .i64 na,.int .i64 ng] 62)).alloc (.cells #[.int .i64 0,.slice none 0 0,.slice none 0 0,.slice none 0 0,.slice none 0 0,.slice none 0 0] 41)):=⟨_,rfl⟩
 rw[←hW] at HBa HP HE HR
 have HW:=hide hW;clear hW
 generalize hAP:applyF x ⟨ek,et,ec,ev,⟨ns,nf,nl,na,ng⟩⟩=AP at *;have HAP:=hide hAP;clear hAP
 go_enter Tryz.func56,Tryz.ntmps56
 have HB:=HBa;clear HBa
 have hz:w.heap.size+2<W.heap.size:=HR.out.lt
 have ke:=HE.out.cell;have kp:=HP.out.cell
 go_wp2_with fail
 rw[←HW.out]
 refine(IE.out _).mono ?_;rintro e wE ⟨rfl,hb⟩
 have HB1:=hide (yG HB.out HB.out.size hb);have HP1:=hide (HP.out.below hb HP.out.lt);have HE1:=hide (HE.out.below hb HE.out.lt);have HR1:=hide (HR.out.below hb HR.out.lt);clear hb ke kp HB HP HE HR
 have ke:=HE1.out.cell;have kp:=HP1.out.cell;have kr:=HR1.out.cell;have fr:=HR1.out.free;have lr:=HR1.out.lt
 by_cases hF:FieldsOk ⟨ek,et,ec,ev,⟨ns,nf,nl,na,ng⟩⟩
 rotate_left
 ·
  rw[yV hF];have HA:=hide ((A1.out hF));clear hF
  go_wp2
  refine bodyPost_ret (v:= .tuple #[.agg #[.int .i64 0,.slice none 0 0,.slice none 0 0,.slice none 0 0,.slice none 0 0,.slice none 0 0],.int .i64 1]) (by simp[results,Tryz.results56,go_sem,kr,fr]) rfl ?_
  exact⟨_,_,_,_,_,[],by rw[HA.out];rfl,by rw[HA.out];exact⟨none_ows _,List.nodup_nil,by simp,((((((HB1.out.setCell (by first|(simp;done)|(simp;omega)|omega) _).setCell (by first|(simp;done)|(simp;omega)|omega) _).setCell (by first|(simp;done)|(simp;omega)|omega) _).setCell (by first|(simp;done)|(simp;omega)|omega) _).setCell (by first|(simp;done)|(simp;omega)|omega) _).setCell (by first|(simp;done)|(simp;omega)|omega) _)⟩⟩
 rw[yW hF];have HF:=hide hF;clear hF
 go_wp2_with fail
 refine(II.out _ HB1.out).mono ?_;rintro e wI ⟨rfl,hb⟩
 have HB2:=hide (yG HB1.out HB1.out.size hb);have HP2:=hide (HP1.out.below hb HP1.out.lt);have HE2:=hide (HE1.out.below hb HE1.out.lt);have HR2:=hide (HR1.out.below hb HR1.out.lt);clear hb ke kp kr fr lr HB1 HP1 HE1 HR1
 have ke:=HE2.out.cell;have kp:=HP2.out.cell;have kr:=HR2.out.cell;have fr:=HR2.out.free;have lr:=HR2.out.lt
 by_cases hRa:RangeOk x ⟨ek,et,ec,ev,⟨ns,nf,nl,na,ng⟩⟩
 rotate_left
 ·
  rw[yV hRa];have HA:=hide ((A2.out HF.out hRa));clear hRa
  go_wp2
  refine bodyPost_ret (v:= .tuple #[.agg #[.int .i64 0,.slice none 0 0,.slice none 0 0,.slice none 0 0,.slice none 0 0,.slice none 0 0],.int .i64 2]) (by simp[results,Tryz.results56,go_sem,kr,fr]) rfl ?_
  exact⟨_,_,_,_,_,[],by rw[HA.out];rfl,by rw[HA.out];exact⟨none_ows _,List.nodup_nil,by simp,((((((HB2.out.setCell (by first|(simp;done)|(simp;omega)|omega) _).setCell (by first|(simp;done)|(simp;omega)|omega) _).setCell (by first|(simp;done)|(simp;omega)|omega) _).setCell (by first|(simp;done)|(simp;omega)|omega) _).setCell (by first|(simp;done)|(simp;omega)|omega) _).setCell (by first|(simp;done)|(simp;omega)|omega) _)⟩⟩
 rw[yW hRa];have HRG:=hide hRa;clear hRa
 by_cases k4:ek=4
 ·
  have q4:(ek == 4)=true:=yP k4;have q1:(ek == 1)=false:=yO (by omega)
  have hA:=(A4.out HF.out HRG.out k4)
  obtain⟨k,t,hk,ht⟩:=range_track HRG.out (show ek≠5 by omega)
  obtain rfl:et=(k:Int):=hk
  have hlt:k<x.zK.length:=by have h1:=(List.getElem?_eq_some_iff.1 ht).1;have h2:=HV.out.feed;omega
  have hA':AP=({ x with zK:=x.zK.set k ev },0):=by rw[hA];simp
  have HA:=hide hA';have HLT:=hide hlt;clear hA hA' k4 ht t hlt hz
  have hi0:(0:Int)≤(k:Int):=by omega
  go_wp2_with (go_at_call 42;refine(IC.out _ HB2.out).mono ?_;rintro e wC ⟨v1,v2,v3,v4,v5,F,rfl,hN⟩;have hb:=hN.below;obtain⟨⟨A1,L1,C1,rfl⟩,⟨A2,L2,C2,rfl⟩,⟨A3,L3,C3,rfl⟩,⟨A4,L4,C4,rfl⟩,⟨A5,L5,C5,rfl⟩⟩:=GSession.sl5 (T.ows_rds _ _ _ hN.ows);have HN:=hide hN;obtain⟨Fx,ho,hn,hm,put⟩:=GSession.part_feeds hN.ows hN.nodup;obtain⟨g3,c3,e3,hc1,hc2⟩:=T.ow_form ho (by rw[List.length_map];have:=HLT.out;omega);rw[List.length_map] at e3 hc1;injection e3 with e3 e4 e5;subst e3 e4 e5;have hlo: ∀ b ∈ Fx,wI.heap.size≤b:=fun b hb=>hN.lo b (hm b hb);have hO:Own w.heap.size wC (T.ints 2 x.zK) Fx (.slice (some ⟨g3,0,none⟩) x.zK.length C3):=⟨ho,hn,fun b hb=>Nat.le_trans HB2.out.size (hlo b hb)⟩;have hg3:g3 ∈ Fx:=hO.mem g3 rfl;have g3l:=hO.lt g3 hg3;have g3b:=hlo g3 hg3;have HO:=hide hO;have HB3:=hide (yG HB2.out HB2.out.size hb);have HP3:=hide (HP2.out.below hb HP2.out.lt);have HE3:=hide (HE2.out.below hb HE2.out.lt);have HR3:=hide (HR2.out.below hb HR2.out.lt);have HPUT:=hide put;have HMEM:=hide hm;have HG3:=hide hg3;have HROW:=hide (T.ow_ints.1 HO.out.ow).1;have HCELL:=hide (show wC.cell? ⟨g3,k,none⟩=some (.int .i64 (x.zK[k]'HLT.out)) from(World.ownsRow.cellAt HROW.out k (by simpa using HLT.out)).trans (by simp[HLT.out]));have kce:=HCELL.out;have kfr:=yR HROW.out k;have hlt:=HLT.out;have ke:=HE3.out.cell;have kr:=HR3.out.cell;have fr:=HR3.out.free;have lr:=HR3.out.lt;have le:=HE3.out.lt;have n3: ¬ w.heap.size+1+1=g3:=(by have:=HR2.out.lt;omega);have n4: ¬ g3=w.heap.size+1+1:=(by have:=HR2.out.lt;omega);have n6: ¬ g3=w.heap.size+1:=(by have:=HR2.out.lt;omega);have n7: ¬ w.heap.size+1=g3:=(by have:=HR2.out.lt;omega);clear ho hn hm put hlo hO hg3 hN hb)
  obtain⟨F3,hO3,hF3⟩:=Own.puti ev HO.out HLT.out
  obtain⟨F',z1,z2,z3⟩:=HPUT.out _ (x.zK.set k ev) F3 _ (Trn.set_ HG3.out k (.int .i64 ev)) hO3.ow hO3.nodup (fun b hb=> .inl (hF3 b hb))
  refine bodyPost_ret (v:= .tuple #[.agg #[.int .i64 x.zA,.slice A1 L1 C1,.slice A2 L2 C2,.slice (some ⟨g3,0,none⟩) x.zK.length C3,.slice A4 L4 C4,.slice A5 L5 C5],.int .i64 0]) (by simp[results,Tryz.results56,go_sem,kr,fr,n3,n4,lr]) rfl ?_
  have hlo:=HN.out.lo
  have hzR:w.heap.size+1+1 ∉ F':=fun hm=>by rcases z3 _ hm with h|h;(· have h1:=hlo _ h;have h2:=HR2.out.lt;omega);(· have h2:=HR3.out.lt;omega)
  have hwi:=HB2.out.size;have hwc:=HB3.out.size
  have hbE:=(show Below w.heap.size w (wC.setCell ⟨g3,k,none⟩ (.int .i64 ev)) from HB3.out.setCell (show w.heap.size≤g3 by omega) _)
  exact⟨_,_,_,_,_,F',by rw[HA.out],by rw[HA.out];exact⟨T.ows_all (T.yM (T.yM (T.yM (T.yM (T.yM (T.yM z1 hzR _ _) hzR _ _) hzR _ _) hzR _ _) hzR _ _) hzR _ _) ((Below.refl _ _).alloc (Nat.le_refl _) _),z2,fun b hb=>by rcases z3 b hb with h|h;(· have:=hlo b h;omega);(· omega),(by repeat(first|with_reducible exact Below.refl _ _|with_reducible assumption|with_reducible refine Below.setCell ?_ (by first|omega|(simp;done)|(simp;omega)) _|with_reducible refine Below.alloc ?_ (by first|omega|(simp;done)|(simp;omega)) _|with_reducible refine Below.drew ?_|with_reducible refine below_drewN ?_ _|exact Below.refl _ _|assumption|refine Below.drew ?_|refine below_drewN ?_ _|refine Below.alloc ?_ (by first|omega|(simp;done)|(simp;omega)) _|refine Below.setCell ?_ (by first|omega|(simp;done)|(simp;omega)) _))⟩⟩
 have q4:(ek == 4)=false:=yO k4
 by_cases k5:ek=5
 ·
  have q5:(ek == 5)=true:=yP k5;have q1:(ek == 1)=false:=yO (by omega)
  have hA:=A5.out HF.out HRG.out k5
  have hr:=HRG.out;unfold RangeOk at hr;rw[if_pos k5] at hr
  obtain⟨r1,r2,-⟩:=hr
  have i1:=yY.1 r1
  obtain⟨k,rfl⟩: ∃ k:Nat,et=(k:Int):=⟨et.toNat,by dsimp only at i1;omega⟩
  have hlt:k<x.zF.zD.length:=by dsimp only at i1;omega
  have hgk:=List.getElem?_eq_getElem hlt
  generalize x.zF.zD[k]=y at hgk
  dsimp only at r2
  rw[sendsAt_of hgk] at r2
  have i2:=yY.1 r2
  obtain⟨j,rfl⟩: ∃ j:Nat,ec=(j:Int):=⟨ec.toNat,by omega⟩
  have hjl:j<y.zS.length:=by omega
  have hgj:=List.getElem?_eq_getElem hjl
  generalize y.zS[j]=z at hgj
  have hA':AP=({ x with zF:=⟨x.zF.zD.set k { y with zS:=y.zS.set j ⟨z.yB,ev⟩ }⟩ },0):=by rw[hA,Int.toNat_natCast,turnAt_of hgk,Int.toNat_natCast,turnAt_of hgj]
  have HA:=hide hA';have HGK:=hide hgk;have HGJ:=hide hgj;clear hA hA' k5 k4 hgk hgj r1 r2 i1 i2 hz
  have hi0:(0:Int)≤(k:Int):=by omega
  have hi1:(k:Int)<(x.zF.zD.length:Int):=by omega
  have hi2:(0:Int)≤(j:Int):=by omega
  have hi3:(j:Int)<(y.zS.length:Int):=by omega
  go_wp2_with fail
  go_at_call 42
  refine(IC.out _ HB2.out).mono ?_
  rintro e wC ⟨v1,v2,v3,v4,v5,F,rfl,hN⟩
  have hb:=hN.below
  obtain⟨⟨A1,L1,C1,rfl⟩,⟨A2,L2,C2,rfl⟩,⟨A3,L3,C3,rfl⟩,⟨A4,L4,C4,rfl⟩,⟨A5,L5,C5,rfl⟩⟩:=GSession.sl5 (T.ows_rds _ _ _ hN.ows)
  have HN:=hide hN
  obtain⟨Fx,ho,hn,hm,put⟩:=GSession.part_strips hN.ows hN.nodup
  obtain⟨g5,c5,e5,hc1,hc2⟩:=T.ow_form ho (by rw[List.length_map];omega)
  rw[List.length_map] at e5 hc1
  injection e5 with e3 e4 e5
  subst e3 e4 e5
  have hlo: ∀ b ∈ Fx,wI.heap.size≤b:=fun b hb=>hN.lo b (hm b hb)
  have hO:Own w.heap.size wC (T.sl 139 3 (x.zF.zD.map GStrip.t)) Fx (.slice (some ⟨g5,0,none⟩) x.zF.zD.length C5):=⟨ho,hn,fun b hb=>Nat.le_trans HB2.out.size (hlo b hb)⟩
  obtain⟨Fy,cx,hoy,hny,hmy,hgy,hcy,hcl⟩:=hO.inner (k:=k) (x:=y.t) (by rw[List.getElem?_map,HGK.out];rfl)
  obtain⟨u2,F2,ecx,eF2,ho2⟩:=GStrip.ow_open (x:=y) (show T.ows wC y.fs Fy cx by simpa only[GStrip.t,T.ow] using hoy)
  subst ecx
  obtain⟨gs,cs,e6,hs1,hs2⟩:=T.ow_form ho2 (by rw[List.length_map];omega)
  rw[List.length_map] at e6 hs1
  subst e6
  rw[List.append_nil] at eF2
  subst eF2
  have hgs:gs ∈ Fy:=(T.ow_rowmem ho2 gs rfl)
  have gsl:=T.ow_lt _ _ _ ho2 gs hgs;have gsb:=hlo gs (hmy gs hgs);have hgy5: ¬ gs=g5:=(fun e=>hgy (e ▸ hgs))
  have hs5:(wC.cell? ⟨g5,k * 3+2,none⟩)=some (.slice (some ⟨gs,0,none⟩) y.zS.length cs):=hcy 2 _ rfl
  have HB3:=hide (yG HB2.out HB2.out.size hb);have HP3:=hide (HP2.out.below hb HP2.out.lt);have HE3:=hide (HE2.out.below hb HE2.out.lt);have HR3:=hide (HR2.out.below hb HR2.out.lt)
  have HPUT:=hide put;have HMEM:=hide hm;have HCL:=hide hcl;have HO2:=hide (show Own w.heap.size wC (T.sl 159 2 (y.zS.map GSend.t)) Fy (.slice (some ⟨gs,0,none⟩) y.zS.length cs) from⟨ho2,hny,fun b hb=>Nat.le_trans HB2.out.size (hlo b (hmy b hb))⟩);have HGS:=hide hgs;have HMY:=hide hmy;have HNX:=hide hn
  have hrw:=T.ow_row2 ho2
  obtain⟨es2,hrw2⟩:=hrw
  rw[List.length_map] at hrw2
  have kgs:=own_isc hrw2 (show j * 2+1<y.zS.length * 2 by omega)
  obtain⟨uu,kgc⟩:=kgs
  have kfr:=yR hrw2 (j * 2+1)
  have g5l:=World.block_lt_of_cell? wC _ hs5
  have ke:=HE3.out.cell;have kr:=HR3.out.cell;have fr:=HR3.out.free;have lr:=HR3.out.lt;have le:=HE3.out.lt
  have hr2:=HR2.out.lt
  have n3: ¬ w.heap.size+1+1=gs:=(by omega)
  have n4: ¬ gs=w.heap.size+1+1:=(by omega)
  have n6: ¬ gs=w.heap.size+1:=(by omega)
  have n7: ¬ w.heap.size+1=gs:=(by omega)
  have n8: ¬ g5=gs:=(fun e=>hgy5 e.symm)
  clear ho hn hm put hlo hO hN hb hoy hny hmy hgy hcy hcl ho2 hgs hrw2
  go_wp2
  have q1:=(Bk.born wC 41 #[.int .i64 x.zA,.slice A1 L1 C1,.slice A2 L2 C2,.slice A3 L3 C3,.slice A4 L4 C4,.slice (some ⟨g5,0,none⟩) x.zF.zD.length C5]).cell;have q2:=(HE3.out.alloc (.cells #[.int .i64 x.zA,.slice A1 L1 C1,.slice A2 L2 C2,.slice A3 L3 C3,.slice A4 L4 C4,.slice (some ⟨g5,0,none⟩) x.zF.zD.length C5] 41)).cell;have q3:(wC.alloc (.cells #[.int .i64 x.zA,.slice A1 L1 C1,.slice A2 L2 C2,.slice A3 L3 C3,.slice A4 L4 C4,.slice (some ⟨g5,0,none⟩) x.zF.zD.length C5] 41)).cell? ⟨g5,k * 3+2,none⟩=some (.slice (some ⟨gs,0,none⟩) y.zS.length cs):=(World.cell?_alloc_lt _ _ _ g5l).trans hs5
  refine wp_region_still_tail 14 (by kernel_rfl) (by kernel_rfl) ?_
  simp only[List.take_succ_cons,List.take_zero,List.drop_succ_cons,List.drop_zero]
  change wpStill _ _ (World.drew (wC.alloc (.cells #[.int .i64 x.zA,.slice A1 L1 C1,.slice A2 L2 C2,.slice A3 L3 C3,.slice A4 L4 C4,.slice (some ⟨g5,0,none⟩) x.zF.zD.length C5] 41))) (fun a'=>wpList _ _ _ _ a' (World.drew (wC.alloc (.cells #[.int .i64 x.zA,.slice A1 L1 C1,.slice A2 L2 C2,.slice A3 L3 C3,.slice A4 L4 C4,.slice (some ⟨g5,0,none⟩) x.zF.zD.length C5] 41)))) _ _
  repeat still_step
  refine wpStill_nil ?_
  clear q1 q2 q3
  go_wp2
  have p2:=Own.put2 ev HO2.out (k:=j) (a:=z.yB) (b:=z.zQ) (by rw[List.getElem?_map,HGJ.out];rfl)
  rw[show (y.zS.map GSend.t).set j (.st [.num z.yB,.num ev])=(y.zS.set j ⟨z.yB,ev⟩).map GSend.t by rw[List.map_set];rfl] at p2
  have tr:=Trn.set_ (w:=wC) HGS.out (j * 2+1) (.int .i64 ev)
  have oy:=GStrip.ow_mk (x:= { y with zS:=y.zS.set j ⟨z.yB,ev⟩ }) p2.ow
  rw[List.append_nil] at oy
  have o5:=HCL.out _ (GStrip.t { y with zS:=y.zS.set j ⟨z.yB,ev⟩ }) tr (T.ow_st oy) (GStrip.wide_t _)
  rw[show (x.zF.zD.map GStrip.t).set k (GStrip.t { y with zS:=y.zS.set j ⟨z.yB,ev⟩ })=(x.zF.zD.set k { y with zS:=y.zS.set j ⟨z.yB,ev⟩ }).map GStrip.t by rw[List.map_set]] at o5
  obtain⟨F',z1,z2,z3⟩:=HPUT.out _ (x.zF.zD.set k { y with zS:=y.zS.set j ⟨z.yB,ev⟩ }) Fx _ (tr.mono HMY.out) o5.ow HNX.out (fun b hb=> .inl hb)
  refine bodyPost_ret (v:= .tuple #[.agg #[.int .i64 x.zA,.slice A1 L1 C1,.slice A2 L2 C2,.slice A3 L3 C3,.slice A4 L4 C4,.slice (some ⟨g5,0,none⟩) x.zF.zD.length C5],.int .i64 0]) (by simp[results,Tryz.results56,go_sem,kr,fr,n3,n4,lr]) rfl ?_
  have hlo:=HN.out.lo
  have hzR:w.heap.size+1+1 ∉ F':=fun hm=>by rcases z3 _ hm with h|h;(· have h1:=hlo _ h;have h2:=HR2.out.lt;omega);(· have h2:=HR3.out.lt;omega)
  have hwi:=HB2.out.size;have hwc:=HB3.out.size
  have hbE:=(show Below w.heap.size w (wC.setCell ⟨gs,j * 2+1,none⟩ (.int .i64 ev)) from HB3.out.setCell (show w.heap.size≤gs by omega) _)
  exact⟨_,_,_,_,_,F',by rw[HA.out],by rw[HA.out];exact⟨T.ows_all (T.yM (T.yM (T.yM (T.yM (T.yM (T.yM z1 hzR _ _) hzR _ _) hzR _ _) hzR _ _) hzR _ _) hzR _ _) (((Below.refl _ _).alloc (Nat.le_refl _) _).drew),z2,fun b hb=>by rcases z3 b hb with h|h;(· have:=hlo b h;omega);(· omega),(by repeat(first|with_reducible exact Below.refl _ _|with_reducible assumption|with_reducible refine Below.setCell ?_ (by first|omega|(simp;done)|(simp;omega)) _|with_reducible refine Below.alloc ?_ (by first|omega|(simp;done)|(simp;omega)) _|with_reducible refine Below.drew ?_|with_reducible refine below_drewN ?_ _|exact Below.refl _ _|assumption|refine Below.drew ?_|refine below_drewN ?_ _|refine Below.alloc ?_ (by first|omega|(simp;done)|(simp;omega)) _|refine Below.setCell ?_ (by first|omega|(simp;done)|(simp;omega)) _))⟩⟩
 have q5:(ek == 5)=false:=yO k5
 obtain⟨k,t,hk,ht⟩:=range_track HRG.out k5
 obtain rfl:et=(k:Int):=hk
 have hlt:k<x.zE.length:=(List.getElem?_eq_some_iff.1 ht).1
 have hsy:=HSM.out.2.1.2 t (List.mem_of_getElem? ht)
 have hr:=HRG.out;unfold RangeOk at hr;rw[if_neg k5] at hr
 have hr:=hr.2;dsimp only at hr;rw[clipsAt_of ht] at hr
 have hfk:=fields_kind HF.out
 dsimp only at hfk
 obtain⟨b,off,cs1,hA,hb1,hcs,hcell⟩:=HX2.out k t ht
 subst hA
 have HBr:=hide (Below.refl w.heap.size w)
 obtain⟨u0,rfl,hRY0⟩:=GTrack.yL (show T.rds _ _ _ by simpa only[GTrack.t,T.rd] using hcs)
 have d0:=(HBr.out.cell hb1).trans (hcell 0 (u0) rfl)
 rw[show off+(k * 1+0)=off+k by omega] at d0
 have RY0:=hide (T.yC hRY0 HBr.out);clear hRY0
 clear hcs hcell
 obtain⟨ua0,uc0,rfl,ul0,um0,-⟩:=T.yK RY0.out
 have hny:t.zL.length≤1048576:=hsy;clear hsy
 obtain⟨j,hj,hj1,hj2⟩: ∃ j:Nat,ec=(j:Int)∧(ek=1→j≤t.zL.length)∧(ek≠1→j<t.zL.length):=by
  by_cases h1:ek=1
  ·rw[if_pos h1] at hr;have:=yY.1 hr.1;exact⟨ec.toNat,by omega,fun _=>by omega,fun h=>absurd h1 h⟩
  ·rw[if_neg h1] at hr
   by_cases h3:ek=3
   ·rw[if_pos h3] at hr;have:=yY.1 hr.1;exact⟨ec.toNat,by omega,fun h=>absurd h h1,fun _=>by omega⟩
   ·rw[if_neg h3,if_pos (by omega)] at hr;have:=yY.1 hr;exact⟨ec.toNat,by omega,fun h=>absurd h h1,fun _=>by omega⟩
 obtain rfl:ec=(j:Int):=hj
 have HJ1:=hide hj1;have HJ2:=hide hj2;have HT:=hide ht;have HK4:=hide k4;have HK5:=hide k5;clear hj1 hj2 hr hfk k4 k5 ht hz
 have hi0:(0:Int)≤(k:Int):=by omega
 have hi1:(k:Int)<(x.zE.length:Int):=by omega
 have dI:wI.cell? ⟨b,off+k,none⟩=some (.slice ua0 t.zL.length uc0):=(HB2.out.cell hb1).trans d0
 have hbI:b<wI.heap.size:=Nat.lt_of_lt_of_le hb1 HB2.out.size
 by_cases k1:ek=1
 ·
  have q1:(ek == 1)=true:=yP k1
  by_cases c12:t.zL.length=12
  ·
   have b12:((t.zL.length:Int) == 12)=true:=yP (by omega)
   have HA:=hide (A3.out HF.out HRG.out k1 (by rw[clipsAt_of HT.out];omega))
   go_wp2
   refine bodyPost_ret (v:= .tuple #[.agg #[.int .i64 0,.slice none 0 0,.slice none 0 0,.slice none 0 0,.slice none 0 0,.slice none 0 0],.int .i64 5]) (by simp[results,Tryz.results56,go_sem,kr,fr]) rfl ?_
   exact⟨_,_,_,_,_,[],by rw[HA.out];rfl,by rw[HA.out];exact⟨none_ows _,List.nodup_nil,by simp,((((((HB2.out.setCell (by first|(simp;done)|(simp;omega)|omega) _).setCell (by first|(simp;done)|(simp;omega)|omega) _).setCell (by first|(simp;done)|(simp;omega)|omega) _).setCell (by first|(simp;done)|(simp;omega)|omega) _).setCell (by first|(simp;done)|(simp;omega)|omega) _).setCell (by first|(simp;done)|(simp;omega)|omega) _)⟩⟩
  have b12:((t.zL.length:Int) == 12)=false:=yO (by omega)
  have HNF:Sec (¬ (ek=1∧12≤(clipsAt x (k:Int)).length)):=hide (fun h=>by have h2:=h.2;rw[clipsAt_of HT.out] at h2;have h3:=(HV.out.tracks k t HT.out).1.few;omega)
  clear k1 c12
  have hA:=A6.out HF.out HRG.out HNF.out HK4.out HK5.out k t rfl HT.out
  have HA0:=hide hA;clear hA
  go_wp2_with fail
  go_at_call 42
  refine(IC.out _ HB2.out).mono ?_
  rintro e wC ⟨v1,v2,v3,v4,v5,F,rfl,hN⟩
  have hb:=hN.below
  obtain⟨⟨A1,L1,C1,rfl⟩,⟨A2,L2,C2,rfl⟩,⟨A3,L3,C3,rfl⟩,⟨A4,L4,C4,rfl⟩,⟨A5,L5,C5,rfl⟩⟩:=GSession.sl5 (T.ows_rds _ _ _ hN.ows)
  have HN:=hide hN
  obtain⟨Fx,ho,hn,hm,put⟩:=GSession.part_tracks hN.ows hN.nodup
  obtain⟨g2,c2,e3,hc1,hc2⟩:=T.ow_form ho (by rw[List.length_map];omega)
  rw[List.length_map] at e3 hc1
  injection e3 with e3 e4 e5
  subst e3 e4 e5
  have hlo: ∀ b ∈ Fx,wI.heap.size≤b:=fun b hb=>hN.lo b (hm b hb)
  have hO:Own w.heap.size wC (T.sl 126 1 (x.zE.map GTrack.t)) Fx (.slice (some ⟨g2,0,none⟩) x.zE.length C2):=⟨ho,hn,fun b hb=>Nat.le_trans HB2.out.size (hlo b hb)⟩
  have hg2:g2 ∈ Fx:=hO.mem g2 rfl
  have g2l:=hO.lt g2 hg2;have g2b:=hlo g2 hg2
  have HB3:=hide (yG HB2.out HB2.out.size hb);have HP3:=hide (HP2.out.below hb HP2.out.lt);have HE3:=hide (HE2.out.below hb HE2.out.lt);have HR3:=hide (HR2.out.below hb HR2.out.lt)
  have HO:=hide hO;have HPUT:=hide put;have HMEM:=hide hm;have HG2:=hide hg2;have HLO:=hide hlo
  obtain⟨es2,hrw2⟩:=T.ow_row2 ho
  rw[List.length_map] at hrw2
  obtain⟨uu,kgc⟩:=own_isc hrw2 (show k<x.zE.length * 1 by omega)
  have kfr:=yR hrw2 k
  have HOB4:=hide (Bk.born wC 41 #[.int .i64 x.zA,.slice A1 L1 C1,.slice (some ⟨g2,0,none⟩) x.zE.length C2,.slice A3 L3 C3,.slice A4 L4 C4,.slice A5 L5 C5])
  have dC:wC.cell? ⟨b,off+k,none⟩=some (.slice ua0 t.zL.length uc0):=(hb.cell hbI).trans dI
  have hr2:=HR2.out.lt;have hbC:b<wC.heap.size:=Nat.lt_of_lt_of_le hbI hb.size
  clear ho hn hm put hlo hO hg2 hrw2 hN hb dI ke kp kr fr lr
  have hB4:Below wC.heap.size wC (wC.alloc (.cells #[.int .i64 x.zA,.slice A1 L1 C1,.slice (some ⟨g2,0,none⟩) x.zE.length C2,.slice A3 L3 C3,.slice A4 L4 C4,.slice A5 L5 C5] 41)):=(Below.refl _ _).alloc (Nat.le_refl _) _
  have HB4:=hide (HB3.out.alloc HB3.out.size (.cells #[.int .i64 x.zA,.slice A1 L1 C1,.slice (some ⟨g2,0,none⟩) x.zE.length C2,.slice A3 L3 C3,.slice A4 L4 C4,.slice A5 L5 C5] 41));have HP4:=hide (HP3.out.alloc (.cells #[.int .i64 x.zA,.slice A1 L1 C1,.slice (some ⟨g2,0,none⟩) x.zE.length C2,.slice A3 L3 C3,.slice A4 L4 C4,.slice A5 L5 C5] 41));have HE4:=hide (HE3.out.alloc (.cells #[.int .i64 x.zA,.slice A1 L1 C1,.slice (some ⟨g2,0,none⟩) x.zE.length C2,.slice A3 L3 C3,.slice A4 L4 C4,.slice A5 L5 C5] 41));have HR4:=hide (HR3.out.alloc (.cells #[.int .i64 x.zA,.slice A1 L1 C1,.slice (some ⟨g2,0,none⟩) x.zE.length C2,.slice A3 L3 C3,.slice A4 L4 C4,.slice A5 L5 C5] 41))
  have d4:(wC.alloc (.cells #[.int .i64 x.zA,.slice A1 L1 C1,.slice (some ⟨g2,0,none⟩) x.zE.length C2,.slice A3 L3 C3,.slice A4 L4 C4,.slice A5 L5 C5] 41)).cell? ⟨b,off+k,none⟩=some (.slice ua0 t.zL.length uc0):=(World.cell?_alloc_lt _ _ _ hbC).trans dC
  have k4c:(wC.alloc (.cells #[.int .i64 x.zA,.slice A1 L1 C1,.slice (some ⟨g2,0,none⟩) x.zE.length C2,.slice A3 L3 C3,.slice A4 L4 C4,.slice A5 L5 C5] 41)).cell? ⟨g2,k,none⟩=some uu:=(World.cell?_alloc_lt _ _ _ g2l).trans kgc
  have f4:(wC.alloc (.cells #[.int .i64 x.zA,.slice A1 L1 C1,.slice (some ⟨g2,0,none⟩) x.zE.length C2,.slice A3 L3 C3,.slice A4 L4 C4,.slice A5 L5 C5] 41)).frozen? ⟨g2,k,none⟩=false:=(World.frozen?_of_block (Below.heap_alloc wC _ g2 g2l)).trans kfr
  have HO4:=hide (HO.out.all hB4);have HB4c:=hide hB4
  have ko:=HOB4.out.cell;have ke:=HE4.out.cell;have kp:=HP4.out.cell
  go_wp2
  generalize hW4:wC.alloc (.cells #[.int .i64 x.zA,.slice A1 L1 C1,.slice (some ⟨g2,0,none⟩) x.zE.length C2,.slice A3 L3 C3,.slice A4 L4 C4,.slice A5 L5 C5] 41)=W4 at *
  have hs4:wC.heap.size+1≤W4.heap.size:=by rw[←hW4];simp
  clear hW4 hB4
  have n1: ¬ g2=wC.heap.size:=by omega
  have n2: ¬ wC.heap.size=g2:=by omega
  have n3: ¬ g2=w.heap.size+1:=by omega
  have n4: ¬ w.heap.size+1=g2:=by omega
  have n5: ¬ g2=w.heap.size:=by omega
  have n6: ¬ w.heap.size=g2:=by omega
  have n7: ¬ g2=b:=by have:=HB2.out.size;omega
  have n8: ¬ b=g2:=fun e=>n7 e.symm
  have n9: ¬ w.heap.size+1+1=g2:=by omega
  have n10: ¬ g2=w.heap.size+1+1:=by omega
  go_region_held3 (fun w'=>(∀ i,w'.cell? ⟨wC.heap.size,i,none⟩= #[.int .i64 x.zA,.slice A1 L1 C1,.slice (some ⟨g2,0,none⟩) x.zE.length C2,.slice A3 L3 C3,.slice A4 L4 C4,.slice A5 L5 C5][i]?)∧(∀ i,w'.cell? ⟨w.heap.size+1,i,none⟩= #[.int .i64 ek,.int .i64 (k:Int),.int .i64 (j:Int),.int .i64 ev,.int .i64 ns,.int .i64 nf,.int .i64 nl,.int .i64 na,.int .i64 ng][i]?)∧(∀ i,w'.cell? ⟨w.heap.size,i,none⟩= #[.int .i64 x.zA,(.slice va1 x.zG.length vc1),(.slice (some ⟨b,off,none⟩) x.zE.length vc2),(.slice va3 x.zK.length vc3),(.slice va4 x.zJ.length vc4),(.slice va5 x.zF.zD.length vc5)][i]?)∧w'.cell? ⟨b,off+k,none⟩=some (.slice ua0 t.zL.length uc0)) (first|with_reducible exact⟨(HOB5.out.far (p:=⟨g2,k,none⟩) n2 _).cell,(HE5.out.far (p:=⟨g2,k,none⟩) n4 _).cell,(HP5.out.far (p:=⟨g2,k,none⟩) n6 _).cell,(World.cell?_setCell_far _ _ _ _ n7).trans dD⟩|with_reducible exact⟨HOB5.out.cell,HE5.out.cell,HP5.out.cell,dD⟩|exact⟨HOB4.out.cell,HE4.out.cell,HP4.out.cell,d4⟩) ((go_at_call 110;refine(c_edited t.zL ek (k:Int) ev ns nf nl na ng j _ _ (T.yC RY0.out (by first|exact HB4.out|exact HB4.out.drew)) hny HJ1.out HJ2.out).mono ?_;rintro e wD ⟨vD,FD,rfl,hoD,hbD⟩;obtain⟨tD,lD,cD,rfl⟩:=T.yT hoD.ow;have hbd:=undrew hbD;have HOD:=hide hoD;have HDD:=hide hbd;have HB5:=hide (yG HB4.out HB4.out.size hbd);have HP5:=hide (HP4.out.below hbd HP4.out.lt);have HE5:=hide (HE4.out.below hbd HE4.out.lt);have HR5:=hide (HR4.out.below hbd HR4.out.lt);have HOB5:=hide (HOB4.out.below hbd HOB4.out.lt);have dD:=(hbd.cell (Nat.lt_of_lt_of_le hbC (by omega))).trans d4;have kD:=(hbd.cell (Nat.lt_of_lt_of_le g2l (by omega))).trans k4c;have fD:=(World.frozen?_of_block (a:=⟨g2,k,none⟩) (hbd.block g2 (Nat.lt_of_lt_of_le g2l (by omega)))).trans f4;clear hoD hbD hbd))
  have kS:=World.cell?_setCell_same _ _ (.slice tD lD cD) kD
  have HO5:=hide (HO4.out.all HDD.out)
  have hdl: ∀ b ∈ FD,W4.heap.size≤b:=fun b hb=>HOD.out.lo b hb
  have hdx: ∀ b ∈ Fx,b ∉ FD:=fun b hb hm=>by have h1:=HO.out.lt b hb;have h2:=hdl b hm;omega
  have oy:=GTrack.ow_mk (x:=(⟨(editL t.zL ⟨ek,(k:Int),(j:Int),ev,⟨ns,nf,nl,na,ng⟩⟩)⟩:GTrack)) HOD.out.ow
  rw[List.append_nil] at oy
  have hgd:g2 ∉ FD:=fun hm=>by have h2:=hdl _ hm;omega
  have RT:=hide (T.ows_rds _ _ _ (T.yM oy hgd k (.slice tD lD cD)))
  obtain⟨F6,hO6,hF6⟩:=Own.put1 HO5.out (k:=k) (x:=t.t) (y:=GTrack.t (⟨(editL t.zL ⟨ek,(k:Int),(j:Int),ev,⟨ns,nf,nl,na,ng⟩⟩)⟩:GTrack)) (by rw[List.getElem?_map,HT.out];rfl) (T.ow_st oy) HOD.out.nodup (fun b hb=>by have h1:=hdl b hb;have h2:=HB4.out.size;omega) hdx rfl
  rw[show (x.zE.map GTrack.t).set k (GTrack.t (⟨(editL t.zL ⟨ek,(k:Int),(j:Int),ev,⟨ns,nf,nl,na,ng⟩⟩)⟩:GTrack))=(x.zE.set k (⟨(editL t.zL ⟨ek,(k:Int),(j:Int),ev,⟨ns,nf,nl,na,ng⟩⟩)⟩:GTrack)).map GTrack.t by rw[List.map_set]] at hO6
  obtain⟨F',z1,z2,z3⟩:=HPUT.out _ (x.zE.set k (⟨(editL t.zL ⟨ek,(k:Int),(j:Int),ev,⟨ns,nf,nl,na,ng⟩⟩)⟩:GTrack)) F6 _ ((Trn.of_below (yG HB4c.out HB4c.out.size HDD.out)).trans (Trn.set_ HG2.out k (.slice tD lD cD))) hO6.ow hO6.nodup (fun b hb=>by rcases hF6 b hb with h|h;(· exact .inl h);(· have:=hdl b h;exact .inr (by omega)))
  have HZ1:=hide z1;clear z1 hO6 hF6 oy hdl hdx hgd
  have HB6:=hide (Below.setCell (p:=⟨g2,k,none⟩) HB5.out (show w.heap.size≤g2 by omega) (.slice tD lD cD));have HE6:=hide (HE5.out.far (p:=⟨g2,k,none⟩) n4 (.slice tD lD cD));have HR6:=hide (HR5.out.far (p:=⟨g2,k,none⟩) n9 (.slice tD lD cD));have HOB6:=hide (HOB5.out.far (p:=⟨g2,k,none⟩) n2 (.slice tD lD cD))
  have hlo:=HN.out.lo
  have hcD:wC.heap.size≤wD.heap.size:=(yG HB4c.out HB4c.out.size HDD.out).size
  clear HDD dD kD fD f4 k4c d4 kgc kfr dC HB4c HO4 HO5 HOD HB5 HE5 HR5 HOB5 HP5 HB4 HE4 HP4 HR4 HOB4
  generalize hWS:wD.setCell ⟨g2,k,none⟩ (.slice tD lD cD)=WS at *
  clear hWS
  have ko:=HOB6.out.cell;have ke:=HE6.out.cell
  go_wp2_with fail
  refine(c_isTrack (⟨(editL t.zL ⟨ek,(k:Int),(j:Int),ev,⟨ns,nf,nl,na,ng⟩⟩)⟩:GTrack) _ _ RT.out).mono ?_;rintro e wT ⟨rfl,hb⟩
  have HB7:=hide (yG HB6.out HB6.out.size hb);have HR7:=hide (HR6.out.below hb HR6.out.lt);have HOB7:=hide (HOB6.out.below hb HOB6.out.lt);have HZ7:=hide (T.ows_all HZ1.out hb);clear hb ko ke kS
  have ko:=HOB7.out.cell;have kr:=HR7.out.cell;have fr:=HR7.out.free;have lr:=HR7.out.lt;have lo:=HOB7.out.lt
  have n11: ¬ wC.heap.size=w.heap.size+1+1:=by omega
  have n12: ¬ w.heap.size+1+1=wC.heap.size:=by omega
  by_cases hT:TrackOk (⟨(editL t.zL ⟨ek,(k:Int),(j:Int),ev,⟨ns,nf,nl,na,ng⟩⟩)⟩:GTrack)
  rotate_left
  ·
   have HA:=hide (HA0.out.trans (if_neg (by rw[yV hT];simp)))
   rw[yV hT];clear hT
   go_wp2
   refine bodyPost_ret (v:= .tuple #[.agg #[.int .i64 0,.slice none 0 0,.slice none 0 0,.slice none 0 0,.slice none 0 0,.slice none 0 0],.int .i64 6]) (by simp[results,Tryz.results56,go_sem,kr,fr]) rfl ?_
   exact⟨_,_,_,_,_,[],by rw[HA.out];rfl,by rw[HA.out];exact⟨none_ows _,List.nodup_nil,by simp,((((((HB7.out.setCell (by first|(simp;done)|(simp;omega)|omega) _).setCell (by first|(simp;done)|(simp;omega)|omega) _).setCell (by first|(simp;done)|(simp;omega)|omega) _).setCell (by first|(simp;done)|(simp;omega)|omega) _).setCell (by first|(simp;done)|(simp;omega)|omega) _).setCell (by first|(simp;done)|(simp;omega)|omega) _)⟩⟩
  have HA:=hide (HA0.out.trans (if_pos (yW hT)))
  rw[yW hT];clear hT
  go_wp2
  have z1:=HZ7.out
  refine bodyPost_ret (v:= .tuple #[.agg #[.int .i64 x.zA,.slice A1 L1 C1,.slice (some ⟨g2,0,none⟩) x.zE.length C2,.slice A3 L3 C3,.slice A4 L4 C4,.slice A5 L5 C5],.int .i64 0]) (by simp[results,Tryz.results56,go_sem,kr,fr,n3,n4,lr]) rfl ?_
  have hlo:=HN.out.lo
  have hzR:w.heap.size+1+1 ∉ F':=fun hm=>by rcases z3 _ hm with h|h;(· have h1:=hlo _ h;have h2:=HR2.out.lt;omega);(· have h2:=HR3.out.lt;omega)
  have hwi:=HB2.out.size;have hwc:=HB3.out.size
  have hbE:=HB7.out
  exact⟨_,_,_,_,_,F',by rw[HA.out],by rw[HA.out];exact⟨(T.yM (T.yM (T.yM (T.yM (T.yM (T.yM z1 hzR _ _) hzR _ _) hzR _ _) hzR _ _) hzR _ _) hzR _ _),z2,fun b hb=>by rcases z3 b hb with h|h;(· have:=hlo b h;omega);(· omega),(by repeat(first|with_reducible exact Below.refl _ _|with_reducible assumption|with_reducible refine Below.setCell ?_ (by first|omega|(simp;done)|(simp;omega)) _|with_reducible refine Below.alloc ?_ (by first|omega|(simp;done)|(simp;omega)) _|with_reducible refine Below.drew ?_|with_reducible refine below_drewN ?_ _|exact Below.refl _ _|assumption|refine Below.drew ?_|refine below_drewN ?_ _|refine Below.alloc ?_ (by first|omega|(simp;done)|(simp;omega)) _|refine Below.setCell ?_ (by first|omega|(simp;done)|(simp;omega)) _))⟩⟩
 have q1:(ek == 1)=false:=yO k1
 have HNF:Sec (¬ (ek=1∧12≤(clipsAt x (k:Int)).length)):=hide (fun h=>k1 h.1)
 clear k1
 have hA:=A6.out HF.out HRG.out HNF.out HK4.out HK5.out k t rfl HT.out
 have HA0:=hide hA;clear hA
 go_wp2_with fail
 go_at_call 42
 refine(IC.out _ HB2.out).mono ?_
 rintro e wC ⟨v1,v2,v3,v4,v5,F,rfl,hN⟩
 have hb:=hN.below
 obtain⟨⟨A1,L1,C1,rfl⟩,⟨A2,L2,C2,rfl⟩,⟨A3,L3,C3,rfl⟩,⟨A4,L4,C4,rfl⟩,⟨A5,L5,C5,rfl⟩⟩:=GSession.sl5 (T.ows_rds _ _ _ hN.ows)
 have HN:=hide hN
 obtain⟨Fx,ho,hn,hm,put⟩:=GSession.part_tracks hN.ows hN.nodup
 obtain⟨g2,c2,e3,hc1,hc2⟩:=T.ow_form ho (by rw[List.length_map];omega)
 rw[List.length_map] at e3 hc1
 injection e3 with e3 e4 e5
 subst e3 e4 e5
 have hlo: ∀ b ∈ Fx,wI.heap.size≤b:=fun b hb=>hN.lo b (hm b hb)
 have hO:Own w.heap.size wC (T.sl 126 1 (x.zE.map GTrack.t)) Fx (.slice (some ⟨g2,0,none⟩) x.zE.length C2):=⟨ho,hn,fun b hb=>Nat.le_trans HB2.out.size (hlo b hb)⟩
 have hg2:g2 ∈ Fx:=hO.mem g2 rfl
 have g2l:=hO.lt g2 hg2;have g2b:=hlo g2 hg2
 have HB3:=hide (yG HB2.out HB2.out.size hb);have HP3:=hide (HP2.out.below hb HP2.out.lt);have HE3:=hide (HE2.out.below hb HE2.out.lt);have HR3:=hide (HR2.out.below hb HR2.out.lt)
 have HO:=hide hO;have HPUT:=hide put;have HMEM:=hide hm;have HG2:=hide hg2;have HLO:=hide hlo
 obtain⟨es2,hrw2⟩:=T.ow_row2 ho
 rw[List.length_map] at hrw2
 obtain⟨uu,kgc⟩:=own_isc hrw2 (show k<x.zE.length * 1 by omega)
 have kfr:=yR hrw2 k
 have HOB4:=hide (Bk.born wC 41 #[.int .i64 x.zA,.slice A1 L1 C1,.slice (some ⟨g2,0,none⟩) x.zE.length C2,.slice A3 L3 C3,.slice A4 L4 C4,.slice A5 L5 C5])
 have dC:wC.cell? ⟨b,off+k,none⟩=some (.slice ua0 t.zL.length uc0):=(hb.cell hbI).trans dI
 have hr2:=HR2.out.lt;have hbC:b<wC.heap.size:=Nat.lt_of_lt_of_le hbI hb.size
 clear ho hn hm put hlo hO hg2 hrw2 hN hb dI ke kp kr fr lr
 have hB4:Below wC.heap.size wC (wC.alloc (.cells #[.int .i64 x.zA,.slice A1 L1 C1,.slice (some ⟨g2,0,none⟩) x.zE.length C2,.slice A3 L3 C3,.slice A4 L4 C4,.slice A5 L5 C5] 41)):=(Below.refl _ _).alloc (Nat.le_refl _) _
 have HB4:=hide (HB3.out.alloc HB3.out.size (.cells #[.int .i64 x.zA,.slice A1 L1 C1,.slice (some ⟨g2,0,none⟩) x.zE.length C2,.slice A3 L3 C3,.slice A4 L4 C4,.slice A5 L5 C5] 41));have HP4:=hide (HP3.out.alloc (.cells #[.int .i64 x.zA,.slice A1 L1 C1,.slice (some ⟨g2,0,none⟩) x.zE.length C2,.slice A3 L3 C3,.slice A4 L4 C4,.slice A5 L5 C5] 41));have HE4:=hide (HE3.out.alloc (.cells #[.int .i64 x.zA,.slice A1 L1 C1,.slice (some ⟨g2,0,none⟩) x.zE.length C2,.slice A3 L3 C3,.slice A4 L4 C4,.slice A5 L5 C5] 41));have HR4:=hide (HR3.out.alloc (.cells #[.int .i64 x.zA,.slice A1 L1 C1,.slice (some ⟨g2,0,none⟩) x.zE.length C2,.slice A3 L3 C3,.slice A4 L4 C4,.slice A5 L5 C5] 41))
 have d4:(wC.alloc (.cells #[.int .i64 x.zA,.slice A1 L1 C1,.slice (some ⟨g2,0,none⟩) x.zE.length C2,.slice A3 L3 C3,.slice A4 L4 C4,.slice A5 L5 C5] 41)).cell? ⟨b,off+k,none⟩=some (.slice ua0 t.zL.length uc0):=(World.cell?_alloc_lt _ _ _ hbC).trans dC
 have k4c:(wC.alloc (.cells #[.int .i64 x.zA,.slice A1 L1 C1,.slice (some ⟨g2,0,none⟩) x.zE.length C2,.slice A3 L3 C3,.slice A4 L4 C4,.slice A5 L5 C5] 41)).cell? ⟨g2,k,none⟩=some uu:=(World.cell?_alloc_lt _ _ _ g2l).trans kgc
 have f4:(wC.alloc (.cells #[.int .i64 x.zA,.slice A1 L1 C1,.slice (some ⟨g2,0,none⟩) x.zE.length C2,.slice A3 L3 C3,.slice A4 L4 C4,.slice A5 L5 C5] 41)).frozen? ⟨g2,k,none⟩=false:=(World.frozen?_of_block (Below.heap_alloc wC _ g2 g2l)).trans kfr
 have HO4:=hide (HO.out.all hB4);have HB4c:=hide hB4
 have ko:=HOB4.out.cell;have ke:=HE4.out.cell;have kp:=HP4.out.cell
 go_wp2
 generalize hW4:wC.alloc (.cells #[.int .i64 x.zA,.slice A1 L1 C1,.slice (some ⟨g2,0,none⟩) x.zE.length C2,.slice A3 L3 C3,.slice A4 L4 C4,.slice A5 L5 C5] 41)=W4 at *
 have hs4:wC.heap.size+1≤W4.heap.size:=by rw[←hW4];simp
 clear hW4 hB4
 have n1: ¬ g2=wC.heap.size:=by omega
 have n2: ¬ wC.heap.size=g2:=by omega
 have n3: ¬ g2=w.heap.size+1:=by omega
 have n4: ¬ w.heap.size+1=g2:=by omega
 have n5: ¬ g2=w.heap.size:=by omega
 have n6: ¬ w.heap.size=g2:=by omega
 have n7: ¬ g2=b:=by have:=HB2.out.size;omega
 have n8: ¬ b=g2:=fun e=>n7 e.symm
 have n9: ¬ w.heap.size+1+1=g2:=by omega
 have n10: ¬ g2=w.heap.size+1+1:=by omega
 go_region_held3 (fun w'=>(∀ i,w'.cell? ⟨wC.heap.size,i,none⟩= #[.int .i64 x.zA,.slice A1 L1 C1,.slice (some ⟨g2,0,none⟩) x.zE.length C2,.slice A3 L3 C3,.slice A4 L4 C4,.slice A5 L5 C5][i]?)∧(∀ i,w'.cell? ⟨w.heap.size+1,i,none⟩= #[.int .i64 ek,.int .i64 (k:Int),.int .i64 (j:Int),.int .i64 ev,.int .i64 ns,.int .i64 nf,.int .i64 nl,.int .i64 na,.int .i64 ng][i]?)∧(∀ i,w'.cell? ⟨w.heap.size,i,none⟩= #[.int .i64 x.zA,(.slice va1 x.zG.length vc1),(.slice (some ⟨b,off,none⟩) x.zE.length vc2),(.slice va3 x.zK.length vc3),(.slice va4 x.zJ.length vc4),(.slice va5 x.zF.zD.length vc5)][i]?)∧w'.cell? ⟨b,off+k,none⟩=some (.slice ua0 t.zL.length uc0)) (first|with_reducible exact⟨(HOB5.out.far (p:=⟨g2,k,none⟩) n2 _).cell,(HE5.out.far (p:=⟨g2,k,none⟩) n4 _).cell,(HP5.out.far (p:=⟨g2,k,none⟩) n6 _).cell,(World.cell?_setCell_far _ _ _ _ n7).trans dD⟩|with_reducible exact⟨HOB5.out.cell,HE5.out.cell,HP5.out.cell,dD⟩|exact⟨HOB4.out.cell,HE4.out.cell,HP4.out.cell,d4⟩) ((go_at_call 110;refine(c_edited t.zL ek (k:Int) ev ns nf nl na ng j _ _ (T.yC RY0.out (by first|exact HB4.out|exact HB4.out.drew)) hny HJ1.out HJ2.out).mono ?_;rintro e wD ⟨vD,FD,rfl,hoD,hbD⟩;obtain⟨tD,lD,cD,rfl⟩:=T.yT hoD.ow;have hbd:=undrew hbD;have HOD:=hide hoD;have HDD:=hide hbd;have HB5:=hide (yG HB4.out HB4.out.size hbd);have HP5:=hide (HP4.out.below hbd HP4.out.lt);have HE5:=hide (HE4.out.below hbd HE4.out.lt);have HR5:=hide (HR4.out.below hbd HR4.out.lt);have HOB5:=hide (HOB4.out.below hbd HOB4.out.lt);have dD:=(hbd.cell (Nat.lt_of_lt_of_le hbC (by omega))).trans d4;have kD:=(hbd.cell (Nat.lt_of_lt_of_le g2l (by omega))).trans k4c;have fD:=(World.frozen?_of_block (a:=⟨g2,k,none⟩) (hbd.block g2 (Nat.lt_of_lt_of_le g2l (by omega)))).trans f4;clear hoD hbD hbd))
 have kS:=World.cell?_setCell_same _ _ (.slice tD lD cD) kD
 have HO5:=hide (HO4.out.all HDD.out)
 have hdl: ∀ b ∈ FD,W4.heap.size≤b:=fun b hb=>HOD.out.lo b hb
 have hdx: ∀ b ∈ Fx,b ∉ FD:=fun b hb hm=>by have h1:=HO.out.lt b hb;have h2:=hdl b hm;omega
 have oy:=GTrack.ow_mk (x:=(⟨(editL t.zL ⟨ek,(k:Int),(j:Int),ev,⟨ns,nf,nl,na,ng⟩⟩)⟩:GTrack)) HOD.out.ow
 rw[List.append_nil] at oy
 have hgd:g2 ∉ FD:=fun hm=>by have h2:=hdl _ hm;omega
 have RT:=hide (T.ows_rds _ _ _ (T.yM oy hgd k (.slice tD lD cD)))
 obtain⟨F6,hO6,hF6⟩:=Own.put1 HO5.out (k:=k) (x:=t.t) (y:=GTrack.t (⟨(editL t.zL ⟨ek,(k:Int),(j:Int),ev,⟨ns,nf,nl,na,ng⟩⟩)⟩:GTrack)) (by rw[List.getElem?_map,HT.out];rfl) (T.ow_st oy) HOD.out.nodup (fun b hb=>by have h1:=hdl b hb;have h2:=HB4.out.size;omega) hdx rfl
 rw[show (x.zE.map GTrack.t).set k (GTrack.t (⟨(editL t.zL ⟨ek,(k:Int),(j:Int),ev,⟨ns,nf,nl,na,ng⟩⟩)⟩:GTrack))=(x.zE.set k (⟨(editL t.zL ⟨ek,(k:Int),(j:Int),ev,⟨ns,nf,nl,na,ng⟩⟩)⟩:GTrack)).map GTrack.t by rw[List.map_set]] at hO6
 obtain⟨F',z1,z2,z3⟩:=HPUT.out _ (x.zE.set k (⟨(editL t.zL ⟨ek,(k:Int),(j:Int),ev,⟨ns,nf,nl,na,ng⟩⟩)⟩:GTrack)) F6 _ ((Trn.of_below (yG HB4c.out HB4c.out.size HDD.out)).trans (Trn.set_ HG2.out k (.slice tD lD cD))) hO6.ow hO6.nodup (fun b hb=>by rcases hF6 b hb with h|h;(· exact .inl h);(· have:=hdl b h;exact .inr (by omega)))
 have HZ1:=hide z1;clear z1 hO6 hF6 oy hdl hdx hgd
 have HB6:=hide (Below.setCell (p:=⟨g2,k,none⟩) HB5.out (show w.heap.size≤g2 by omega) (.slice tD lD cD));have HE6:=hide (HE5.out.far (p:=⟨g2,k,none⟩) n4 (.slice tD lD cD));have HR6:=hide (HR5.out.far (p:=⟨g2,k,none⟩) n9 (.slice tD lD cD));have HOB6:=hide (HOB5.out.far (p:=⟨g2,k,none⟩) n2 (.slice tD lD cD))
 have hlo:=HN.out.lo
 have hcD:wC.heap.size≤wD.heap.size:=(yG HB4c.out HB4c.out.size HDD.out).size
 clear HDD dD kD fD f4 k4c d4 kgc kfr dC HB4c HO4 HO5 HOD HB5 HE5 HR5 HOB5 HP5 HB4 HE4 HP4 HR4 HOB4
 generalize hWS:wD.setCell ⟨g2,k,none⟩ (.slice tD lD cD)=WS at *
 clear hWS
 have ko:=HOB6.out.cell;have ke:=HE6.out.cell
 go_wp2_with fail
 refine(c_isTrack (⟨(editL t.zL ⟨ek,(k:Int),(j:Int),ev,⟨ns,nf,nl,na,ng⟩⟩)⟩:GTrack) _ _ RT.out).mono ?_;rintro e wT ⟨rfl,hb⟩
 have HB7:=hide (yG HB6.out HB6.out.size hb);have HR7:=hide (HR6.out.below hb HR6.out.lt);have HOB7:=hide (HOB6.out.below hb HOB6.out.lt);have HZ7:=hide (T.ows_all HZ1.out hb);clear hb ko ke kS
 have ko:=HOB7.out.cell;have kr:=HR7.out.cell;have fr:=HR7.out.free;have lr:=HR7.out.lt;have lo:=HOB7.out.lt
 have n11: ¬ wC.heap.size=w.heap.size+1+1:=by omega
 have n12: ¬ w.heap.size+1+1=wC.heap.size:=by omega
 by_cases hT:TrackOk (⟨(editL t.zL ⟨ek,(k:Int),(j:Int),ev,⟨ns,nf,nl,na,ng⟩⟩)⟩:GTrack)
 rotate_left
 ·
  have HA:=hide (HA0.out.trans (if_neg (by rw[yV hT];simp)))
  rw[yV hT];clear hT
  go_wp2
  refine bodyPost_ret (v:= .tuple #[.agg #[.int .i64 0,.slice none 0 0,.slice none 0 0,.slice none 0 0,.slice none 0 0,.slice none 0 0],.int .i64 6]) (by simp[results,Tryz.results56,go_sem,kr,fr]) rfl ?_
  exact⟨_,_,_,_,_,[],by rw[HA.out];rfl,by rw[HA.out];exact⟨none_ows _,List.nodup_nil,by simp,((((((HB7.out.setCell (by first|(simp;done)|(simp;omega)|omega) _).setCell (by first|(simp;done)|(simp;omega)|omega) _).setCell (by first|(simp;done)|(simp;omega)|omega) _).setCell (by first|(simp;done)|(simp;omega)|omega) _).setCell (by first|(simp;done)|(simp;omega)|omega) _).setCell (by first|(simp;done)|(simp;omega)|omega) _)⟩⟩
 have HA:=hide (HA0.out.trans (if_pos (yW hT)))
 rw[yW hT];clear hT
 go_wp2
 have z1:=HZ7.out
 refine bodyPost_ret (v:= .tuple #[.agg #[.int .i64 x.zA,.slice A1 L1 C1,.slice (some ⟨g2,0,none⟩) x.zE.length C2,.slice A3 L3 C3,.slice A4 L4 C4,.slice A5 L5 C5],.int .i64 0]) (by simp[results,Tryz.results56,go_sem,kr,fr,n3,n4,lr]) rfl ?_
 have hlo:=HN.out.lo
 have hzR:w.heap.size+1+1 ∉ F':=fun hm=>by rcases z3 _ hm with h|h;(· have h1:=hlo _ h;have h2:=HR2.out.lt;omega);(· have h2:=HR3.out.lt;omega)
 have hwi:=HB2.out.size;have hwc:=HB3.out.size
 have hbE:=HB7.out
 exact⟨_,_,_,_,_,F',by rw[HA.out],by rw[HA.out];exact⟨(T.yM (T.yM (T.yM (T.yM (T.yM (T.yM z1 hzR _ _) hzR _ _) hzR _ _) hzR _ _) hzR _ _) hzR _ _),z2,fun b hb=>by rcases z3 b hb with h|h;(· have:=hlo b h;omega);(· omega),(by repeat(first|with_reducible exact Below.refl _ _|with_reducible assumption|with_reducible refine Below.setCell ?_ (by first|omega|(simp;done)|(simp;omega)) _|with_reducible refine Below.alloc ?_ (by first|omega|(simp;done)|(simp;omega)) _|with_reducible refine Below.drew ?_|with_reducible refine below_drewN ?_ _|exact Below.refl _ _|assumption|refine Below.drew ?_|refine below_drewN ?_ _|refine Below.alloc ?_ (by first|omega|(simp;done)|(simp;omega)) _|refine Below.setCell ?_ (by first|omega|(simp;done)|(simp;omega)) _))⟩⟩
end Go.Proofs.YteiflbhcehajkaaGreat
