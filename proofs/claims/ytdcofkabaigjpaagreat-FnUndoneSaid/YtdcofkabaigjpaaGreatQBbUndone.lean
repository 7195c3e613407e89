/- The session after an edit is small. Contract: the program's ApplyEdits. Contract: l31Range, reference. -/
import Derived.Test.YtdcofkabaigjpaaGreatQAxUndone
import Derived.Test.YtdcofkabaigjpaaGreatQBaUndone
import Derived.Test.YtdcofkabaigjpaaGreatQAdUndone
import Derived.Deep.RegionHeld3
import Derived.Test.YtdcofkabaigjpaaGreatQAlUndone
set_option linter.unusedVariables false
set_option linter.unusedSimpArgs false
set_option maxHeartbeats 4000000
set_option maxRecDepth 100000
namespace Go.Proofs.YtdcofkabaigjpaaGreat
section
open Go.RowKit
theorem turnAt_mem {α:Type} {l:List α} {k:Nat} {f:α→α} {y:α} (h:y ∈ wQ l k f):y ∈ l∨ ∃ x ∈ l,y=f x:=by
 unfold wQ at h
 split at h
 ·next x hx=>
  rcases List.mem_or_eq_of_mem_set h with h|h
  ·exact .inl h
  ·exact .inr ⟨x,List.mem_of_getElem? hx,h⟩
 ·exact .inl h
theorem editL_len (l:List xR) (e:xS):(xY l e).length≤l.length+1:=by
 unfold xY
 split
 ·simp;omega
 ·split
  ·simp;omega
  ·simp;omega
theorem doE_small {s:xM} {e:xS} (h:s.small) (hv:xW s):(doE s e).small:=by
 obtain⟨h1,h2,h3,h4,h5⟩:=h;unfold doE
 split
 ·exact⟨h1,h2,by simpa using h3,h4,h5⟩
 split
 ·refine⟨h1,h2,h3,h4,⟨by rw[wR];exact h5.1,fun y hy=>?_⟩⟩
  rcases turnAt_mem hy with hy|⟨x,hx,rfl⟩
  ·exact h5.2 y hy
  ·exact⟨(h5.2 x hx).1,by show (wQ x.zV _ _).length≤_;rw[wR];exact(h5.2 x hx).2⟩
 ·refine⟨h1,⟨by rw[wR];exact h2.1,fun y hy=>?_⟩,h3,h4,h5⟩
  rcases turnAt_mem hy with hy|⟨x,hx,rfl⟩
  ·exact h2.2 y hy
  ·obtain⟨k,hk⟩:=List.mem_iff_getElem?.1 hx
   have h6:=(hv.tracks k x hk).1.few;have h7:=editL_len x.zL e
   show (xY x.zL e).length≤1048576
   omega
end
section
open Go.RowKit
theorem zSz {s:xM} {e:xS} (h:s.small) (hc:(wF s e).2=0):(wF s e).1.small∧xW (wF s e).1:=by
 obtain⟨h1,_,_,_,h5,h6⟩:=wFz hc;rw[h6];exact⟨doE_small h h1,h5⟩
theorem runE_step {s:xM} {l:List xS} {k:Nat} {e:xS} (hk:l[k]?=some e) (hc:(wF s e).2=0):uU s (l.drop k) k=uU (wF s e).1 (l.drop (k+1)) (k+1):=by
 have hlt:=(List.getElem?_eq_some_iff.1 hk).1;rw[List.drop_eq_getElem_cons hlt,(List.getElem?_eq_some_iff.1 hk).2];simp only[uU];rw[if_pos hc]
theorem runE_stop {s:xM} {l:List xS} {k:Nat} {e:xS} (hk:l[k]?=some e) (hc: ¬ (wF s e).2=0):uU s (l.drop k) k=(wN,(k:Int),(wF s e).2):=by
 have hlt:=(List.getElem?_eq_some_iff.1 hk).1;rw[List.drop_eq_getElem_cons hlt,(List.getElem?_eq_some_iff.1 hk).2];simp only[uU];rw[if_neg hc]
theorem runE_end {s:xM} {l:List xS} {k:Nat} (hk:k=l.length):uU s (l.drop k) k=(s,(l.length:Int),0):=by
 subst hk;rw[List.drop_length];rfl
theorem applyEs_bad {s:xM} {l:List xS} (h: ¬ xW s):vM s l=(wN,0,1):=by
 unfold vM;rw[if_neg (by rw[xE h];simp)]
theorem applyEs_long {s:xM} {l:List xS} (h:xW s) (hl: ¬ l.length≤40):vM s l=(wN,0,2):=by
 unfold vM;rw[if_pos (xG h),if_neg hl]
theorem applyEs_run {s:xM} {l:List xS} (h:xW s) (hl:l.length≤40):vM s l=uU s l 0:=by
 unfold vM;rw[if_pos (xG h),if_pos hl]
theorem wPz (x:xM) (cs:List Value) (v:Value) (l:List xS) (w:World) (hs:x.small) (hl:T.rd w (T.sl 41 9 (l.map xS.t)) [v]) (h:T.rds w x.fs cs):Calls Tryz.prog 7 #[.agg cs.toArray,v] w fun e w'=> ∃ v1 v2 v3 v4 v5 F,e= .returned (.tuple #[.agg #[.int .i64 (vM x l).1.zA,v1,v2,v3,v4,v5],.int .i64 (vM x l).2.1,.int .i64 (vM x l).2.2])∧Nw w w' (vM x l).1.fs F [.int .i64 (vM x l).1.zA,v1,v2,v3,v4,v5]:=by
 obtain⟨v1,v2,v3,v4,v5,rfl,h1,h2,h3,h4,h5⟩:=xM.yR h;clear h;obtain⟨va1,vc1,rfl,vl1,vm1,R1,HX1⟩:=oG h1;clear h1;obtain⟨va2,vc2,rfl,vl2,vm2,R2,HX2⟩:=oG h2;clear h2;obtain⟨va3,vc3,rfl,vl3,vm3,R3,HX3⟩:=oI h3;clear h3;obtain⟨va4,vc4,rfl,vl4,vm4,R4,HX4⟩:=oG h4;clear h4;obtain⟨va5,vc5,rfl,vl5,vm5,R5,HX5⟩:=oG h5;clear h5;have HB0:=xL (show Below w.heap.size w (w.alloc (.cells #[.int .i64 x.zA,(.slice va1 x.zD.length vc1),(.slice va2 x.zB.length vc2),(.slice va3 x.zO.length vc3),(.slice va4 x.zG.length vc4),(.slice va5 x.zI.zF.length vc5)] 32)) from zR.alloc zJ _);have HK0:=xL (Bk.born w 32 #[.int .i64 x.zA,(.slice va1 x.zD.length vc1),(.slice va2 x.zB.length vc2),(.slice va3 x.zO.length vc3),(.slice va4 x.zG.length vc4),(.slice va5 x.zI.zF.length vc5)]);have HSM:=xL hs;clear hs;obtain⟨Av,cv,rfl,hlv,hcv,hxv⟩:=T.yQ hl;have HXL:=xL hxv;clear hxv hl;have GX:=xL (show ∀ w',Below w.heap.size w w'→T.rds w' x.fs [.int .i64 x.zA,(.slice va1 x.zD.length vc1),(.slice va2 x.zB.length vc2),(.slice va3 x.zO.length vc3),(.slice va4 x.zG.length vc4),(.slice va5 x.zI.zF.length vc5)] from fun w' hb=>xM.rd_mk (T.yH R1.out hb) (T.yH R2.out hb) (T.yZ.2 (Rd.below R3.out hb)) (T.yH R4.out hb) (T.yH R5.out hb));have IS:=xL (fun(W:World) (hb:Below w.heap.size w W)=>c_isSession x _ W HSM.out (GX.out W hb));have IC:=xL (fun(W:World) (hb:Below w.heap.size w W)=>wOz x _ W HSM.out (GX.out W hb));have HBa:=xL (HB0.out.alloc (by simp) (.cells #[.int .i64 0,.slice none 0 0,.slice none 0 0,.slice none 0 0,.slice none 0 0,.slice none 0 0] 32));have HP:=xL (HK0.out.alloc (.cells #[.int .i64 0,.slice none 0 0,.slice none 0 0,.slice none 0 0,.slice none 0 0,.slice none 0 0] 32));have HR:=xL (Bk.born1' w (.cells #[.int .i64 x.zA,(.slice va1 x.zD.length vc1),(.slice va2 x.zB.length vc2),(.slice va3 x.zO.length vc3),(.slice va4 x.zG.length vc4),(.slice va5 x.zI.zF.length vc5)] 32) 32 #[.int .i64 0,.slice none 0 0,.slice none 0 0,.slice none 0 0,.slice none 0 0,.slice none 0 0]);clear HB0 HK0;obtain⟨W,hW⟩: ∃ W',W'=((w.alloc (.cells #[.int .i64 x.zA,(.slice va1 x.zD.length vc1),(.slice va2 x.zB.length vc2),(.slice va3 x.zO.length vc3),(.slice va4 x.zG.length vc4),(.slice va5 x.zI.zF.length vc5)] 32)).alloc (.cells #[.int .i64 0,.slice none 0 0,.slice none 0 0,.slice none 0 0,.slice none 0 0,.slice none 0 0] 32)):=⟨_,rfl⟩;rw[←hW] at HBa HP HR;have HW:=xL hW;clear hW;have E0:=xL (@applyEs_bad x l);have E1:=xL (@applyEs_long x l);have E2:=xL (@applyEs_run x l);generalize hAE:vM x l=AE at *;have HAE:=xL hAE;clear hAE
 go_enter Tryz.func7,Tryz.ntmps7
 have HB:=HBa;clear HBa;go_wp2_with fail
 rw[←HW.out];refine(IS.out _ HB.out).mono ?_;rintro e wE ⟨rfl,hb⟩;have HB1:=xL (yM HB.out HB.out.size hb);have HP1:=xL (HP.out.below hb HP.out.lt);have HR1:=xL (HR.out.below hb HR.out.lt);clear hb HB HP HR;have kp:=HP1.out.cell;have kr:=HR1.out.cell;have fr:=HR1.out.free;have lr:=HR1.out.lt;by_cases hS:xW x
 rotate_left
 ·
  rw[xE hS];have HA:=xL (E0.out hS);clear hS;go_wp2;refine bodyPost_ret (v:= .tuple #[.agg #[.int .i64 0,.slice none 0 0,.slice none 0 0,.slice none 0 0,.slice none 0 0,.slice none 0 0],.int .i64 0,.int .i64 1]) (by simp[results,Tryz.results7,go_sem,kr,fr,lr]) rfl ?_;rw[HA.out];exact⟨_,_,_,_,_,[],rfl,vY _,List.nodup_nil,by simp,((((((HB1.out.setCell zQ _).setCell zQ _).setCell zQ _).setCell zQ _).setCell zQ _).setCell zQ _)⟩
 rw[xG hS];have HS:=xL hS;clear hS;by_cases hn:l.length≤40
 rotate_left
 ·
  have HA:=xL (E1.out HS.out hn);have hn':(40:Int)<(l.length:Int):=by omega
  go_wp2;refine bodyPost_ret (v:= .tuple #[.agg #[.int .i64 0,.slice none 0 0,.slice none 0 0,.slice none 0 0,.slice none 0 0,.slice none 0 0],.int .i64 0,.int .i64 2]) (by simp[results,Tryz.results7,go_sem,kr,fr,lr]) rfl ?_;rw[HA.out];exact⟨_,_,_,_,_,[],rfl,vY _,List.nodup_nil,by simp,((((((HB1.out.setCell zQ _).setCell zQ _).setCell zQ _).setCell zQ _).setCell zQ _).setCell zQ _)⟩
 have HA:=xL (E2.out HS.out hn);have hn': ¬ (40:Int)<(l.length:Int):=by omega
 go_wp2_with fail
 refine(IC.out _ HB1.out).mono ?_;rintro e wC ⟨v1,v2,v3,v4,v5,F,rfl,hN⟩;have hb:=hN.below;obtain⟨⟨A1,L1,C1,rfl⟩,⟨A2,L2,C2,rfl⟩,⟨A3,L3,C3,rfl⟩,⟨A4,L4,C4,rfl⟩,⟨A5,L5,C5,rfl⟩⟩:=xM.sl5 (T.ows_rds _ _ _ hN.ows);have HN:=xL hN;clear hN;have HB2:=xL (yM HB1.out HB1.out.size hb);have HR2:=xL (HR1.out.below hb HR1.out.lt);have hs2:=hb.size;clear hb kp kr fr lr HP1;go_wp2
 go_loopw [24] (fun i wr=> ∃ (k:Nat) (y:xM) (A1:Option Addr) (L1 C1:Nat) (A2:Option Addr) (L2 C2:Nat) (A3:Option Addr) (L3 C3:Nat) (A4:Option Addr) (L4 C4:Nat) (A5:Option Addr) (L5 C5:Nat) (G:List Nat),k≤l.length∧i= .int .i64 k∧Bk wr wC.heap.size 32 #[.int .i64 y.zA,.slice A1 L1 C1,.slice A2 L2 C2,.slice A3 L3 C3,.slice A4 L4 C4,.slice A5 L5 C5]∧T.ows wr y.fs G [.int .i64 y.zA,.slice A1 L1 C1,.slice A2 L2 C2,.slice A3 L3 C3,.slice A4 L4 C4,.slice A5 L5 C5]∧G.Nodup∧(∀ b ∈ G,w.heap.size+2≤b∧b≠wC.heap.size)∧y.small∧xW y∧uU x l 0=uU y (l.drop k) k∧Below w.heap.size w wr∧Bk wr (w.heap.size+1) 32 #[.int .i64 0,.slice none 0 0,.slice none 0 0,.slice none 0 0,.slice none 0 0,.slice none 0 0]) (fun i _=>l.length - (intOf i).toNat)
 case atStart=>exact⟨0,x,A1,L1,C1,A2,L2,C2,A3,L3,C3,A4,L4,C4,A5,L5,C5,F,Nat.zero_le _,rfl,Bk.born _ _ _,T.ows_all HN.out.ows (zR.alloc zJ _),HN.out.nodup,fun b hb=>⟨by have h1:=HN.out.lo b hb;have h2:=HR1.out.lt;omega,fun e=>by have h1:=T.ows_lt _ _ _ HN.out.ows b hb;omega⟩,HSM.out,HS.out,rfl,HB2.out.alloc HB2.out.size _,HR2.out.alloc _⟩
 case round=>
  clear HN HR2;obtain⟨k,y,A1,L1,C1,A2,L2,C2,A3,L3,C3,A4,L4,C4,A5,L5,C5,G,hk,rfl,hbk,how,hnd,hlo,hsm,hok,hrun,hbw,hbr⟩:=hrel;have HBK:=xL hbk;have HOW:=xL how;have HND:=xL hnd;have HLO:=xL hlo;have HYS:=xL hsm;have HYO:=xL hok;have HRUN:=xL hrun;have HBW:=xL hbw;have HBR:=xL hbr;clear hbk how hnd hlo hsm hok hrun hbw hbr;have kk:=HBK.out.cell;have kf:=HBK.out.free;have kl:=HBK.out.lt;have rl:=HBR.out.lt;have rc:=HBR.out.cell;have rf:=HBR.out.free;by_cases hlt:k<l.length
  rotate_left
  ·
   obtain rfl:k=l.length:=by omega
   have HE:=xL (HA.out.trans (HRUN.out.trans (runE_end rfl)));have nn1: ¬ wC.heap.size=w.heap.size+1:=by have h1:=HR1.out.lt;omega
   have nn2: ¬ w.heap.size+1=wC.heap.size:=fun e=>nn1 e.symm
   clear HXL HX1 HX2 HX3 HX4 HX5;go_wp2_with fail
   go_region_held3 (fun w'=> ∀ i,w'.cell? ⟨wC.heap.size,i,none⟩= #[.int .i64 y.zA,.slice A1 L1 C1,.slice A2 L2 C2,.slice A3 L3 C3,.slice A4 L4 C4,.slice A5 L5 C5][i]?) ((((try simp only[World.cell?_drew]));first|with_reducible exact kk|exact((((((HBK.out.far nn1 _).far nn1 _).far nn1 _).far nn1 _).far nn1 _).far nn1 _).cell)) ((go_at_call 26;refine(c_sizeEdit _ _ _ _ zM).mono ?_;rintro e _ ⟨rfl,rfl⟩))
   go_wp2;refine bodyPost_ret (v:= .tuple #[.agg #[.int .i64 y.zA,.slice A1 L1 C1,.slice A2 L2 C2,.slice A3 L3 C3,.slice A4 L4 C4,.slice A5 L5 C5],.int .i64 (l.length:Int),.int .i64 0]) (by simp[results,Tryz.results7,go_sem,rc,rf,rl]) rfl ?_;have hz:w.heap.size+1 ∉ G:=fun hm=>by have:=(HLO.out _ hm).1;omega
   rw[HE.out];refine⟨_,_,_,_,_,G,rfl,?_,HND.out,fun b hb=>by have:=(HLO.out b hb).1;omega,?_⟩
   ·dsimp only;exact T.ows_all (T.yS (T.yS (T.yS (T.yS (T.yS (T.yS HOW.out hz 0 (.int .i64 y.zA)) hz 1 (.slice A1 L1 C1)) hz 2 (.slice A2 L2 C2)) hz 3 (.slice A3 L3 C3)) hz 4 (.slice A4 L4 C4)) hz 5 (.slice A5 L5 C5)) zR.drew
   ·exact(Below.setCell (p:=⟨w.heap.size+1,5,none⟩) (Below.setCell (p:=⟨w.heap.size+1,4,none⟩) (Below.setCell (p:=⟨w.heap.size+1,3,none⟩) (Below.setCell (p:=⟨w.heap.size+1,2,none⟩) (Below.setCell (p:=⟨w.heap.size+1,1,none⟩) (Below.setCell (p:=⟨w.heap.size+1,0,none⟩) HBW.out (Nat.le_succ _) (.int .i64 y.zA)) (Nat.le_succ _) (.slice A1 L1 C1)) (Nat.le_succ _) (.slice A2 L2 C2)) (Nat.le_succ _) (.slice A3 L3 C3)) (Nat.le_succ _) (.slice A4 L4 C4)) (Nat.le_succ _) (.slice A5 L5 C5)).drew
  have hgk:=gE hlt;obtain⟨b1,off,cs1,hA,hb1,hcs,hcell⟩:=HXL.out k l[k] hgk;subst hA;generalize l[k]=ed at *;have HG:=xL hgk;clear hgk;obtain rfl:=xS.yR (show T.rds _ _ _ by simpa only[xS.t,T.rd] using hcs);have d0:=(HBW.out.cell hb1).trans (hcell 0 (.int .i64 ed.zC) rfl);have d1:=(HBW.out.cell hb1).trans (hcell 1 (.int .i64 ed.yB) rfl);have d2:=(HBW.out.cell hb1).trans (hcell 2 (.int .i64 ed.yF) rfl);have d3:=(HBW.out.cell hb1).trans (hcell 3 (.int .i64 ed.yD) rfl);have d4:=(HBW.out.cell hb1).trans (hcell 4 (.int .i64 ed.zY.zX) rfl);have d5:=(HBW.out.cell hb1).trans (hcell 5 (.int .i64 ed.zY.zK) rfl);have d6:=(HBW.out.cell hb1).trans (hcell 6 (.int .i64 ed.zY.zA) rfl);have d7:=(HBW.out.cell hb1).trans (hcell 7 (.int .i64 ed.zY.yE) rfl);have d8:=(HBW.out.cell hb1).trans (hcell 8 (.int .i64 ed.zY.zZ) rfl);rw[show off+(k * 9+0)=off+k * 9 by omega] at d0;rw[show off+(k * 9+1)=off+k * 9+1 by omega] at d1;rw[show off+(k * 9+2)=off+k * 9+2 by omega] at d2;rw[show off+(k * 9+3)=off+k * 9+3 by omega] at d3;rw[show off+(k * 9+4)=off+k * 9+4 by omega] at d4;rw[show off+(k * 9+5)=off+k * 9+5 by omega] at d5;rw[show off+(k * 9+6)=off+k * 9+6 by omega] at d6;rw[show off+(k * 9+7)=off+k * 9+7 by omega] at d7;rw[show off+(k * 9+8)=off+k * 9+8 by omega] at d8;clear hcs hcell;have hq1:b1<wr.heap.size:=zW hb1 HBW.out.size;have hbA:=xL (show Below wr.heap.size wr (wr.alloc (.cells #[.int .i64 ed.zC,.int .i64 ed.yB,.int .i64 ed.yF,.int .i64 ed.yD,.int .i64 ed.zY.zX,.int .i64 ed.zY.zK,.int .i64 ed.zY.zA,.int .i64 ed.zY.yE,.int .i64 ed.zY.zZ] 41)) from zR.alloc zJ _);have OK:=xL (@zSz y ed);have R1':=xL (runE_step (s:=y) HG.out);have R2':=xL (runE_stop (s:=y) HG.out);go_wp2_with fail
  refine(c_apply y _ ed _ HYS.out HYO.out (T.rds_below' (T.ows_rds _ _ _ HOW.out) hbA.out)).mono ?_;rintro e w2 ⟨v1,v2,v3,v4,v5,F2,rfl,hN⟩;have hb:=hN.below;obtain⟨⟨B1,M1,D1,rfl⟩,⟨B2,M2,D2,rfl⟩,⟨B3,M3,D3,rfl⟩,⟨B4,M4,D4,rfl⟩,⟨B5,M5,D5,rfl⟩⟩:=xM.sl5 (T.ows_rds _ _ _ hN.ows);have HN:=xL hN;clear hN;generalize wF y ed=AF at *;have HBX:=xL (yM hbA.out hbA.out.size hb);clear hb;have HB3:=xL (yM HBW.out HBW.out.size HBX.out);have HBK3:=xL (HBK.out.below HBX.out HBK.out.lt);have HBR3:=xL (HBR.out.below HBX.out HBR.out.lt);have hs3:=HBX.out.size;have hloF:=HN.out.lo;have HLF:=xL hloF;clear hloF;have nn1: ¬ wC.heap.size=w.heap.size+1:=by have h1:=HR1.out.lt;omega
  have nn2: ¬ w.heap.size+1=wC.heap.size:=fun e=>nn1 e.symm
  clear kk kf kl rc rf d0 d1 d2 d3 d4 d5 d6 d7 d8;have kr:=HBR3.out.cell;have fr:=HBR3.out.free;have lr:=HBR3.out.lt;have kk:=HBK3.out.cell;have kf:=HBK3.out.free;have kl:=HBK3.out.lt;by_cases hc:AF.2=0
  rotate_left
  ·
   have q0:(AF.2 != 0)=true:=uQ hc;have HE:=xL (HA.out.trans (HRUN.out.trans (R2'.out hc)));clear hc;go_wp2;refine bodyPost_ret (v:= .tuple #[.agg #[.int .i64 0,.slice none 0 0,.slice none 0 0,.slice none 0 0,.slice none 0 0,.slice none 0 0],.int .i64 (k:Int),.int .i64 AF.2]) (by simp[results,Tryz.results7,go_sem,kr,fr,lr]) rfl ?_;rw[HE.out];refine⟨_,_,_,_,_,[],rfl,vY _,List.nodup_nil,by simp,?_⟩;have hfin:=(Below.setCell (p:=⟨w.heap.size+1,5,none⟩) (Below.setCell (p:=⟨w.heap.size+1,4,none⟩) (Below.setCell (p:=⟨w.heap.size+1,3,none⟩) (Below.setCell (p:=⟨w.heap.size+1,2,none⟩) (Below.setCell (p:=⟨w.heap.size+1,1,none⟩) (Below.setCell (p:=⟨w.heap.size+1,0,none⟩) HB3.out (Nat.le_succ _) (.int .i64 0)) (Nat.le_succ _) (.slice none 0 0)) (Nat.le_succ _) (.slice none 0 0)) (Nat.le_succ _) (.slice none 0 0)) (Nat.le_succ _) (.slice none 0 0)) (Nat.le_succ _) (.slice none 0 0));exact hfin.alloc hfin.size _
  have q0:(AF.2 != 0)=false:=uT hc;have HE:=xL (HRUN.out.trans (R1'.out hc));have HOK:=xL (OK.out HYS.out hc);clear hc;go_wp2
  go_roundw
  case rel=>
   have hz:wC.heap.size ∉ F2:=fun hm=>by have h1:=HLF.out _ hm;have h2:=HBK.out.lt;have h3:=hbA.out.size;omega
   refine⟨k+1,AF.1,B1,M1,D1,B2,M2,D2,B3,M3,D3,B4,M4,D4,B5,M5,D5,F2,by omega,by go_num,?_,?_,HN.out.nodup,fun b hb=>?_,HOK.out.1,HOK.out.2,HE.out,?_,?_⟩
   ·have:=(((((((HBK3.out.set_ 0 (.int .i64 AF.1.zA)).set_ 1 (.slice B1 M1 D1)).set_ 2 (.slice B2 M2 D2)).set_ 3 (.slice B3 M3 D3)).set_ 4 (.slice B4 M4 D4)).set_ 5 (.slice B5 M5 D5))).alloc (.cells #[.int .i64 AF.1.zA,.slice B1 M1 D1,.slice B2 M2 D2,.slice B3 M3 D3,.slice B4 M4 D4,.slice B5 M5 D5] 32);simpa using this
   ·exact T.ows_all ((T.yS (T.yS (T.yS (T.yS (T.yS (T.yS HN.out.ows hz 0 (.int .i64 AF.1.zA)) hz 1 (.slice B1 M1 D1)) hz 2 (.slice B2 M2 D2)) hz 3 (.slice B3 M3 D3)) hz 4 (.slice B4 M4 D4)) hz 5 (.slice B5 M5 D5))) (zR.alloc zJ _)
   ·have h1:=HLF.out b hb;have h2:=HBK.out.lt;have h4:=HBR.out.lt;have h3:(wr.alloc (.cells #[.int .i64 ed.zC,.int .i64 ed.yB,.int .i64 ed.yF,.int .i64 ed.yD,.int .i64 ed.zY.zX,.int .i64 ed.zY.zK,.int .i64 ed.zY.zA,.int .i64 ed.zY.yE,.int .i64 ed.zY.zZ] 41)).heap.size=wr.heap.size+1:=by simp
    exact⟨by omega,by omega⟩
   ·have hfin:=(Below.setCell (p:=⟨wC.heap.size,5,none⟩) (Below.setCell (p:=⟨wC.heap.size,4,none⟩) (Below.setCell (p:=⟨wC.heap.size,3,none⟩) (Below.setCell (p:=⟨wC.heap.size,2,none⟩) (Below.setCell (p:=⟨wC.heap.size,1,none⟩) (Below.setCell (p:=⟨wC.heap.size,0,none⟩) HB3.out (show w.heap.size≤wC.heap.size by have h1:=HR1.out.lt;omega) (.int .i64 AF.1.zA)) (show w.heap.size≤wC.heap.size by have h1:=HR1.out.lt;omega) (.slice B1 M1 D1)) (show w.heap.size≤wC.heap.size by have h1:=HR1.out.lt;omega) (.slice B2 M2 D2)) (show w.heap.size≤wC.heap.size by have h1:=HR1.out.lt;omega) (.slice B3 M3 D3)) (show w.heap.size≤wC.heap.size by have h1:=HR1.out.lt;omega) (.slice B4 M4 D4)) (show w.heap.size≤wC.heap.size by have h1:=HR1.out.lt;omega) (.slice B5 M5 D5));exact hfin.alloc hfin.size _
   ·exact(((((((HBR3.out.far (p:=⟨wC.heap.size,0,none⟩) nn2 (.int .i64 AF.1.zA)).far (p:=⟨wC.heap.size,1,none⟩) nn2 (.slice B1 M1 D1)).far (p:=⟨wC.heap.size,2,none⟩) nn2 (.slice B2 M2 D2)).far (p:=⟨wC.heap.size,3,none⟩) nn2 (.slice B3 M3 D3)).far (p:=⟨wC.heap.size,4,none⟩) nn2 (.slice B4 M4 D4)).far (p:=⟨wC.heap.size,5,none⟩) nn2 (.slice B5 M5 D5))).alloc _
  case measure=>simp[intOf];omega
end
section
open Go.RowKit
theorem c_l31Range (x:xM) (b o:Nat) (ed:xS) (b' o':Nat) (w:World) (hs:x.small) (he:T.at w ed.fs b' o') (h:T.at w x.fs b o):Calls Tryz.prog 44 #[.pointer (some ⟨b,o,none⟩),.pointer (some ⟨b',o',none⟩)] w fun e w'=>e= .returned (.bool (tf (wG x ed)))∧Below w.heap.size w w':=by
 have HAT:=xL h;obtain⟨hlt0,cs,hr,hc⟩:=h;obtain⟨v1,v2,v3,v4,v5,rfl,h1,h2,h3,h4,h5⟩:=xM.yR hr;clear hr;obtain⟨va1,vc1,rfl,vl1,vm1,R1,HX1⟩:=oG h1;clear h1;obtain⟨va2,vc2,rfl,vl2,vm2,R2,HX2⟩:=oG h2;clear h2;obtain⟨va3,vc3,rfl,vl3,vm3,R3,HX3⟩:=oI h3;clear h3;obtain⟨va4,vc4,rfl,vl4,vm4,R4,HX4⟩:=oG h4;clear h4;obtain⟨va5,vc5,rfl,vl5,vm5,R5,HX5⟩:=oG h5;clear h5;have HL:=xL hlt0;have HCC:=xL hc;have HB0:=xL (Below.refl w.heap.size w);clear hlt0 hc;obtain⟨ek,et,ec,ev,ns,nf,nl,na,ng⟩:=ed;obtain⟨hlt',cs',hr',hc'⟩:=he;obtain rfl:=xS.yR hr';dsimp only at hc';have p0:w.cell? ⟨b,o,none⟩=some (.int .i64 x.zA):=(HB0.out.cell HL.out).trans (HCC.out 0 _ rfl);have p1:w.cell? ⟨b,o+1,none⟩=some (.slice va1 x.zD.length vc1):=(HB0.out.cell HL.out).trans (HCC.out 1 _ rfl);have p2:w.cell? ⟨b,o+2,none⟩=some (.slice va2 x.zB.length vc2):=(HB0.out.cell HL.out).trans (HCC.out 2 _ rfl);have p3:w.cell? ⟨b,o+3,none⟩=some (.slice va3 x.zO.length vc3):=(HB0.out.cell HL.out).trans (HCC.out 3 _ rfl);have p4:w.cell? ⟨b,o+4,none⟩=some (.slice va4 x.zG.length vc4):=(HB0.out.cell HL.out).trans (HCC.out 4 _ rfl);have p5:w.cell? ⟨b,o+5,none⟩=some (.slice va5 x.zI.zF.length vc5):=(HB0.out.cell HL.out).trans (HCC.out 5 _ rfl);have lb:b<w.heap.size:=zW HL.out HB0.out.size;have c0:w.cell? ⟨b',o',none⟩=some (.int .i64 ek):=hc' 0 _ rfl;have c1:w.cell? ⟨b',o'+1,none⟩=some (.int .i64 et):=hc' 1 _ rfl;have c2:w.cell? ⟨b',o'+2,none⟩=some (.int .i64 ec):=hc' 2 _ rfl;have c3:w.cell? ⟨b',o'+3,none⟩=some (.int .i64 ev):=hc' 3 _ rfl;have c4:w.cell? ⟨b',o'+4,none⟩=some (.int .i64 ns):=hc' 4 _ rfl;clear hc' hr';have n5:x.zI.zF.length≤1048576:=hs.2.2.2.2.1;have n2:x.zB.length≤1048576:=hs.2.1.1;have n1:x.zD.length≤1048576:=hs.1.1;have HSS:=xL hs.2.2.2.2.2;have HST:=xL hs.2.1.2;clear hs;have BS:=xL (@rangeB_send x ⟨ek,et,ec,ev,⟨ns,nf,nl,na,ng⟩⟩);have BO:=xL (@rangeB_out x ⟨ek,et,ec,ev,⟨ns,nf,nl,na,ng⟩⟩);have BI:=xL (@rangeB_ins x ⟨ek,et,ec,ev,⟨ns,nf,nl,na,ng⟩⟩);have BP:=xL (@rangeB_rep x ⟨ek,et,ec,ev,⟨ns,nf,nl,na,ng⟩⟩);have BR:=xL (@rangeB_rem x ⟨ek,et,ec,ev,⟨ns,nf,nl,na,ng⟩⟩);have BF:=xL (@rangeB_feed x ⟨ek,et,ec,ev,⟨ns,nf,nl,na,ng⟩⟩);have w5:IntKind.i64.wrap ((x.zI.zF.length:Int) - 1)=(x.zI.zF.length:Int) - 1:=IntWalk.i64_in _ zM;have w2:IntKind.i64.wrap ((x.zB.length:Int) - 1)=(x.zB.length:Int) - 1:=IntWalk.i64_in _ zM;have lb':b'<w.heap.size:=hlt'
 go_enter Tryz.func44,Tryz.ntmps44
 by_cases k5:ek=5
 ·
  have q5:(ek == 5)=true:=yY k5;have HE:=xL (BS.out k5);clear k5;by_cases r1:inB et 0 ((x.zI.zF.length:Int) - 1)=true
  rotate_left
  ·
   have r1':inB et 0 ((x.zI.zF.length:Int) - 1)=false:=by simpa using r1
   have HR1:=xL r1';go_wp2;have g0:=yI p0;have g1:=yI p1;have g2:=yI p2;have g3:=yI p5;have g4:=yI c0;have g5:=yI c1;have g6:=yI c2;have g7:=yI c3;have g8:=yI c4;refine rB ?_
   repeat(first|go_big_quiet_skip|(go_big_quiet_want;go_big_quiet_op;first|go_big_quiet_on|(apply Exists.intro;refine⟨fun _=>?_,?_⟩;(· (first|(go_at_call 67;exact Calls.yN ((xZ _ _ _ _).mono (fun e w' h=>by(first|rw[r1'] at h|skip);exact h)))));go_big_quiet_on)))
   refine wpQuiet_nil ?_;rintro w9 ⟨uu,rfl⟩;have hb9:=yJ w uu;generalize bel w uu=w9 at *;have HB9:=xL (yM HB0.out HB0.out.size hb9);clear g0 g1 g2 g3 g4 g5 g6 g7 g8;go_wp2;go_ret
   exact⟨yK (by rw[HE.out];rw[HR1.out];rfl),HB9.out⟩
  have i1:=xI.1 r1;obtain⟨k,rfl⟩: ∃ k:Nat,et=(k:Int):=⟨et.toNat,by omega⟩;have hlt:k<x.zI.zF.length:=by omega
  have hgk:=gE hlt;have hsy:=HSS.out _ (List.getElem_mem hlt);obtain⟨b1,off,cs1,hA,hb1,hcs,hcell⟩:=HX5.out k x.zI.zF[k] hgk;subst hA;have HSA:=xL (zXz hgk);generalize x.zI.zF[k]=y at *;have hny:y.zV.length≤1048576:=hsy.2;clear hsy hgk;have HBr:=xL (Below.refl w.heap.size w);obtain⟨u2,rfl,hRY2⟩:=xO.yR (show T.rds _ _ _ by simpa only[xO.t,T.rd] using hcs);have d0:=(HBr.out.cell hb1).trans (hcell 0 (.string y.yC) rfl);have d1:=(HBr.out.cell hb1).trans (hcell 1 (.int .i64 y.yA) rfl);have d2:=(HBr.out.cell hb1).trans (hcell 2 (u2) rfl);rw[show off+(k * 3+0)=off+k * 3 by omega] at d0;rw[show off+(k * 3+1)=off+k * 3+1 by omega] at d1;rw[show off+(k * 3+2)=off+k * 3+2 by omega] at d2;have RY2:=xL (T.yH hRY2 HBr.out);clear hRY2;clear hcs hcell;obtain⟨ua2,uc2,rfl,ul2,um2,-⟩:=T.yQ RY2.out;have wy:IntKind.i64.wrap ((y.zV.length:Int) - 1)=(y.zV.length:Int) - 1:=IntWalk.i64_in _ zM;have hk0:(0:Int)≤(k:Int):=by omega
  have hk1:(k:Int)<(x.zI.zF.length:Int):=by omega
  have HR1:=xL r1;by_cases r2:inB ec 0 ((y.zV.length:Int) - 1)=true
  rotate_left
  ·
   have r2':inB ec 0 ((y.zV.length:Int) - 1)=false:=by simpa using r2
   have HR2:=xL r2';go_wp2;have g0:=yI p0;have g1:=yI p1;have g2:=yI p2;have g3:=yI p5;have g4:=yI c0;have g5:=yI c1;have g6:=yI c2;have g7:=yI c3;have g8:=yI c4;have g9:=yI d2;refine rB ?_
   repeat(first|go_big_quiet_skip|(go_big_quiet_want;go_big_quiet_op;first|go_big_quiet_on|(apply Exists.intro;refine⟨fun _=>?_,?_⟩;(· (first|(go_at_call 67;exact Calls.yN ((xZ _ _ _ _).mono (fun e w' h=>by(first|rw[r1] at h|rw[r2'] at h|skip);exact h)))));go_big_quiet_on)))
   refine wpQuiet_nil ?_;rintro w9 ⟨uu,rfl⟩;have hb9:=yJ w uu;generalize bel w uu=w9 at *;have HB9:=xL (yM HB0.out HB0.out.size hb9);clear g0 g1 g2 g3 g4 g5 g6 g7 g8 g9;go_wp2;go_ret
   exact⟨yK (by rw[HE.out];rw[HR1.out,HSA.out,HR2.out];rfl),HB9.out⟩
  have HR2:=xL r2;generalize hsm:decide (Smp ev)=sm at *;have HSM:=xL hsm;clear hsm;go_wp2;have g0:=yI p0;have g1:=yI p1;have g2:=yI p2;have g3:=yI p5;have g4:=yI c0;have g5:=yI c1;have g6:=yI c2;have g7:=yI c3;have g8:=yI c4;have g9:=yI d2;refine rB ?_
  repeat(first|go_big_quiet_skip|(go_big_quiet_want;go_big_quiet_op;first|go_big_quiet_on|(apply Exists.intro;refine⟨fun _=>?_,?_⟩;(· (first|(go_at_call 67;exact Calls.yN ((xZ _ _ _ _).mono (fun e w' h=>by(first|rw[r1] at h|rw[r2] at h|skip);exact h)))|(go_at_call 84;exact Calls.yN ((wH _ _).mono (fun e w' h=>by(first|rw[HSM.out] at h|skip);exact h)))));go_big_quiet_on)))
  refine wpQuiet_nil ?_;rintro w9 ⟨uu,rfl⟩;have hb9:=yJ w uu;generalize bel w uu=w9 at *;have HB9:=xL (yM HB0.out HB0.out.size hb9);clear g0 g1 g2 g3 g4 g5 g6 g7 g8 g9;go_wp2;go_ret
  exact⟨yK (by rw[HE.out];rw[HR1.out,HSA.out,HR2.out];rfl),HB9.out⟩
 have q5:(ek == 5)=false:=yX k5;by_cases r1:inB et 0 ((x.zB.length:Int) - 1)=true
 rotate_left
 ·
  have r1':inB et 0 ((x.zB.length:Int) - 1)=false:=by simpa using r1
  have HE:=xL (BO.out k5 r1');clear k5;go_wp2;have g0:=yI p0;have g1:=yI p1;have g2:=yI p2;have g3:=yI p5;have g4:=yI c0;have g5:=yI c1;have g6:=yI c2;have g7:=yI c3;have g8:=yI c4;refine rB ?_
  repeat(first|go_big_quiet_skip|(go_big_quiet_want;go_big_quiet_op;first|go_big_quiet_on|(apply Exists.intro;refine⟨fun _=>?_,?_⟩;(· (first|(go_at_call 67;exact Calls.yN ((xZ _ _ _ _).mono (fun e w' h=>by(first|rw[r1'] at h|skip);exact h)))));go_big_quiet_on)))
  refine wpQuiet_nil ?_;rintro w9 ⟨uu,rfl⟩;have hb9:=yJ w uu;generalize bel w uu=w9 at *;have HB9:=xL (yM HB0.out HB0.out.size hb9);clear g0 g1 g2 g3 g4 g5 g6 g7 g8;go_wp2;go_ret
  exact⟨yK (HE.out.symm),HB9.out⟩
 have i1:=xI.1 r1;obtain⟨k,rfl⟩: ∃ k:Nat,et=(k:Int):=⟨et.toNat,by omega⟩;have hlt:k<x.zB.length:=by omega
 have hgk:=gE hlt;have hsy:=HST.out _ (List.getElem_mem hlt);obtain⟨b1,off,cs1,hA,hb1,hcs,hcell⟩:=HX2.out k x.zB[k] hgk;subst hA;have HCA:=xL (wS hgk);generalize x.zB[k]=y at *;have hny:y.zL.length≤1048576:=hsy;clear hsy hgk;have HBr:=xL (Below.refl w.heap.size w);obtain⟨u0,rfl,hRY0⟩:=xN.yR (show T.rds _ _ _ by simpa only[xN.t,T.rd] using hcs);have d0:=(HBr.out.cell hb1).trans (hcell 0 (u0) rfl);rw[show off+(k * 1+0)=off+k by omega] at d0;have RY0:=xL (T.yH hRY0 HBr.out);clear hRY0;clear hcs hcell;obtain⟨ua0,uc0,rfl,ul0,um0,-⟩:=T.yQ RY0.out;have wy:IntKind.i64.wrap ((y.zL.length:Int) - 1)=(y.zL.length:Int) - 1:=IntWalk.i64_in _ zM;have hk0:(0:Int)≤(k:Int):=by omega
 have hk1:(k:Int)<(x.zB.length:Int):=by omega
 have R1:=xL r1;have HC0:=xL c0;have HC1:=xL c1;have HC2:=xL c2;have HC3:=xL c3;have HC4:=xL c4;have HD0:=xL d0;clear p3 p4;go_wp2;have g0:=yI p0;have g1:=yI p1;have g2:=yI p2;have g3:=yI p5;have g4:=yI c0;have g5:=yI c1;have g6:=yI c2;have g7:=yI c3;have g8:=yI c4;have g9:=yI d0;refine rB ?_
 repeat(first|go_big_quiet_skip|(go_big_quiet_want;go_big_quiet_op;first|go_big_quiet_on|(apply Exists.intro;refine⟨fun _=>?_,?_⟩;(· (first|(go_at_call 67;exact Calls.yN ((xZ _ _ _ _).mono (fun e w' h=>by(first|rw[r1] at h|skip);exact h)))));go_big_quiet_on)))
 refine wpQuiet_nil ?_;rintro w9 ⟨uu,rfl⟩;have hb9:=yJ w uu;generalize bel w uu=w9 at *;have HB9:=xL (yM HB0.out HB0.out.size hb9);clear g0 g1 g2 g3 g4 g5 g6 g7 g8 g9;replace p0:w9.cell? ⟨b,o,none⟩=some (.int .i64 x.zA):=(HB9.out.cell HL.out).trans (HCC.out 0 _ rfl);replace p1:w9.cell? ⟨b,o+1,none⟩=some (.slice va1 x.zD.length vc1):=(HB9.out.cell HL.out).trans (HCC.out 1 _ rfl);replace p2:w9.cell? ⟨b,o+2,none⟩=some (.slice (some ⟨b1,off,none⟩) x.zB.length vc2):=(HB9.out.cell HL.out).trans (HCC.out 2 _ rfl);replace p5:w9.cell? ⟨b,o+5,none⟩=some (.slice va5 x.zI.zF.length vc5):=(HB9.out.cell HL.out).trans (HCC.out 5 _ rfl);replace c0:=(HB9.out.cell lb').trans HC0.out;replace c1:=(HB9.out.cell lb').trans HC1.out;replace c2:=(HB9.out.cell lb').trans HC2.out;replace c3:=(HB9.out.cell lb').trans HC3.out;replace c4:=(HB9.out.cell lb').trans HC4.out;replace d0:=(HB9.out.cell hb1).trans HD0.out;go_wp2;have g0:=yI p0;have g1:=yI p1;have g2:=yI p2;have g3:=yI p5;have g4:=yI c0;have g5:=yI c1;have g6:=yI c2;have g7:=yI c3;have g8:=yI c4;have g9:=yI d0;refine rB ?_
 repeat(first|go_big_quiet_skip|(go_big_quiet_want;go_big_quiet_op;first|go_big_quiet_on|(apply Exists.intro;refine⟨fun _=>?_,?_⟩;(· (fail));go_big_quiet_on)))
 refine wpQuiet_nil ?_;rintro wA ⟨uu,rfl⟩;have hb9:=yJ w9 uu;generalize bel w9 uu=wA at *;have HB1:=xL (yM HB9.out HB9.out.size hb9);clear hb9 g0 g1 g2 g3 g4 g5 g6 g7 g8 g9;replace p0:wA.cell? ⟨b,o,none⟩=some (.int .i64 x.zA):=(HB1.out.cell HL.out).trans (HCC.out 0 _ rfl);replace p1:wA.cell? ⟨b,o+1,none⟩=some (.slice va1 x.zD.length vc1):=(HB1.out.cell HL.out).trans (HCC.out 1 _ rfl);replace p2:wA.cell? ⟨b,o+2,none⟩=some (.slice (some ⟨b1,off,none⟩) x.zB.length vc2):=(HB1.out.cell HL.out).trans (HCC.out 2 _ rfl);replace p5:wA.cell? ⟨b,o+5,none⟩=some (.slice va5 x.zI.zF.length vc5):=(HB1.out.cell HL.out).trans (HCC.out 5 _ rfl);replace c0:=(HB1.out.cell lb').trans HC0.out;replace c1:=(HB1.out.cell lb').trans HC1.out;replace c2:=(HB1.out.cell lb').trans HC2.out;replace c3:=(HB1.out.cell lb').trans HC3.out;replace c4:=(HB1.out.cell lb').trans HC4.out;replace d0:=(HB1.out.cell hb1).trans HD0.out;by_cases k1:ek=1
 ·
  have q1:(ek == 1)=true:=yY k1;have HE:=xL (BI.out k1 R1.out);clear k1 k5;by_cases r2:inB ec 0 (y.zL.length:Int)=true
  rotate_left
  ·
   have r2':inB ec 0 (y.zL.length:Int)=false:=by simpa using r2
   have HR2:=xL r2';clear r2 r2';go_wp2_with (go_at_call 67;refine(xZ _ _ _ _).mono ?_;rintro e w' ⟨rfl,rfl⟩;rw[HR2.out])
   go_ret
   exact⟨yK (by rw[HE.out];rw[HCA.out,HR2.out];rfl),HB1.out⟩
  have HR2:=xL r2;clear r2;go_wp2_with (go_at_call 67;refine(xZ _ _ _ _).mono ?_;rintro e w' ⟨rfl,rfl⟩;rw[HR2.out])
  go_ret
  exact⟨yK (by rw[HE.out];rw[HCA.out,HR2.out];rfl),HB1.out⟩
 have q1:(ek == 1)=false:=yX k1;by_cases k3:ek=3
 ·
  have q3:(ek == 3)=true:=yY k3;have HE:=xL (BP.out k3 R1.out);clear k3 k5;by_cases r2:inB ec 0 ((y.zL.length:Int) - 1)=true
  rotate_left
  ·
   have r2':inB ec 0 ((y.zL.length:Int) - 1)=false:=by simpa using r2
   have HR2:=xL r2';clear r2 r2';go_wp2_with (go_at_call 67;refine(xZ _ _ _ _).mono ?_;rintro e w' ⟨rfl,rfl⟩;rw[HR2.out])
   go_ret
   exact⟨yK (by rw[HE.out];rw[HCA.out,HR2.out];rfl),HB1.out⟩
  have HR2:=xL r2;clear r2;go_wp2_with (go_at_call 67;refine(xZ _ _ _ _).mono ?_;rintro e w' ⟨rfl,rfl⟩;rw[HR2.out])
  go_ret
  exact⟨yK (by rw[HE.out];rw[HCA.out,HR2.out];rfl),HB1.out⟩
 have q3:(ek == 3)=false:=yX k3;by_cases k2:ek=2
 ·
  have q2:(ek == 2)=true:=yY k2;have HE:=xL (BR.out k2 R1.out);clear k2 k5;go_wp2_with (go_at_call 67;refine(xZ _ _ _ _).mono ?_;rintro e w' ⟨rfl,rfl⟩)
  go_ret
  exact⟨yK (by rw[HE.out];rw[HCA.out]),HB1.out⟩
 have q2:(ek == 2)=false:=yX k2;have HE:=xL (BF.out k5 k1 k2 k3 R1.out);clear k1 k2 k3 k5;go_wp2_with (go_at_call 67;refine(xZ _ _ _ _).mono ?_;rintro e w' ⟨rfl,rfl⟩)
 go_ret
 exact⟨yK HE.out.symm,HB1.out⟩
end
end Go.Proofs.YtdcofkabaigjpaaGreat
