/- Contract: the reference's ApplyEdit. Regions that draw their order and end in some operations, each behind all others, that store over cells which the region has loaded. No program is named here. -/
import Derived.Test.YteiflbhcehajkaaGreatQBeExactEditCache
import Derived.Test.YteiflbhcehajkaaGreatQBlExactEditCache
import Derived.Test.YteiflbhcehajkaaGreatQBmExactEditCache
import Derived.Test.YteiflbhcehajkaaGreatQBoExactEditCache
import Derived.Test.YteiflbhcehajkaaGreatQAtExactEditCache
import Derived.Test.YteiflbhcehajkaaGreatQAwExactEditCache
import Derived.Deep.RegionHeldLaw
import Derived.Deep.Quiet
import Derived.StillTail
set_option linter.unusedVariables false
set_option linter.unusedSimpArgs false
set_option maxHeartbeats 8000000
set_option maxRecDepth 100000
section
namespace Go.Proofs.YteiflbhcehajkaaGreat
open Go.RowKit
theorem c_l31Apply (x:GSession) (b o:Nat) (ed:GEdit) (b' o':Nat) (w:World) (hs:x.small) (he:T.at w ed.fs b' o') (h:T.at w x.fs b o):Calls Tryz.prog 104 #[.pointer (some ⟨b,o,none⟩),.pointer (some ⟨b',o',none⟩)] w fun e w'=> ∃ v1 v2 v3 v4 v5 F,e= .returned (.tuple #[.agg #[.int .i64 (applyF x ed).1.zA,v1,v2,v3,v4,v5],.int .i64 (applyF x ed).2])∧Nw w w' (applyF x ed).1.fs F [.int .i64 (applyF x ed).1.zA,v1,v2,v3,v4,v5]:=by
 have HAT:=hide h
 obtain⟨hlt0,cs,hr,hc⟩:=h
 obtain⟨v1,v2,v3,v4,v5,rfl,h1,h2,h3,h4,h5⟩:=GSession.yL hr
 clear hr
 have R1:=hide h1;obtain⟨va1,vc1,rfl,vl1,vm1,vx1⟩:=T.yK h1
 have HX1:=hide vx1;clear vx1 h1
 have R2:=hide h2;obtain⟨va2,vc2,rfl,vl2,vm2,vx2⟩:=T.yK h2
 have HX2:=hide vx2;clear vx2 h2
 have h3i:=T.yQ.1 h3;obtain⟨va3,vc3,rfl,vl3,vm3,vx3⟩:=h3i.open_
 have R3:=hide h3i;have HX3:=hide vx3;clear vx3 h3 h3i
 have R4:=hide h4;obtain⟨va4,vc4,rfl,vl4,vm4,vx4⟩:=T.yK h4
 have HX4:=hide vx4;clear vx4 h4
 have R5:=hide h5;obtain⟨va5,vc5,rfl,vl5,vm5,vx5⟩:=T.yK h5
 have HX5:=hide vx5;clear vx5 h5
 have HL:=hide hlt0;have HCC:=hide hc;have HB0:=hide (Below.refl w.heap.size w);clear hlt0 hc
 have HSM:=hide hs;have HEAT:=hide he;clear hs
 obtain⟨ek,et,ec,ev,ns,nf,nl,na,ng⟩:=ed
 obtain⟨hlt',cs',hr',hc'⟩:=he
 obtain rfl:=GEdit.yL hr'
 dsimp only at hc'
 have c0:w.cell? ⟨b',o',none⟩=some (.int .i64 ek):=hc' 0 _ rfl
 have c1:w.cell? ⟨b',o'+1,none⟩=some (.int .i64 et):=hc' 1 _ rfl
 clear hc' hr'
 have p2:w.cell? ⟨b,o+2,none⟩=some (.slice va2 x.zE.length vc2):=HCC.out 2 _ rfl
 have QA0:=hide (@applyF_session x ⟨ek,et,ec,ev,⟨ns,nf,nl,na,ng⟩⟩);have QA1:=hide (@applyF_fields x ⟨ek,et,ec,ev,⟨ns,nf,nl,na,ng⟩⟩);have QA2:=hide (@applyF_range x ⟨ek,et,ec,ev,⟨ns,nf,nl,na,ng⟩⟩);have QA3:=hide (@applyF_full x ⟨ek,et,ec,ev,⟨ns,nf,nl,na,ng⟩⟩);have QA4:=hide (@applyF_bad x ⟨ek,et,ec,ev,⟨ns,nf,nl,na,ng⟩⟩);have QA5:=hide (@applyF_of x ⟨ek,et,ec,ev,⟨ns,nf,nl,na,ng⟩⟩)
 have HBa:=hide (show Below w.heap.size w (w.alloc (.cells #[.int .i64 0,.slice none 0 0,.slice none 0 0,.slice none 0 0,.slice none 0 0,.slice none 0 0] 41)) from(Below.refl _ _).alloc (Nat.le_refl _) _);have HRa:=hide (Bk.born w 41 #[.int .i64 0,.slice none 0 0,.slice none 0 0,.slice none 0 0,.slice none 0 0,.slice none 0 0])
 obtain⟨W,hW⟩: ∃ W',W'=(w.alloc (.cells #[.int .i64 0,.slice none 0 0,.slice none 0 0,.slice none 0 0,.slice none 0 0,.slice none 0 0] 41)):=⟨_,rfl⟩
 rw[←hW] at HBa HRa
 have HW:=hide hW;clear hW
 generalize hAP:applyF x ⟨ek,et,ec,ev,⟨ns,nf,nl,na,ng⟩⟩=AP at *;have HAP:=hide hAP;clear hAP
 go_enter Tryz.func104,Tryz.ntmps104
 go_wp2_with fail
 rw[←HW.out]
 refine(c_l27Ok x b o _ HSM.out (T.at_below HAT.out HBa.out)).mono ?_;rintro e w1 ⟨rfl,hb⟩
 have HB1:=hide (yG HBa.out HBa.out.size hb);have HR1:=hide (HRa.out.below hb HRa.out.lt);clear hb
 have kr:=HR1.out.cell;have fr:=HR1.out.free;have lr:=HR1.out.lt
 by_cases hS:SessionOk x
 rotate_left
 ·
  rw[yV hS];have HA:=hide (QA0.out hS);clear hS
  go_wp2
  refine bodyPost_ret (v:= .tuple #[.agg #[.int .i64 0,.slice none 0 0,.slice none 0 0,.slice none 0 0,.slice none 0 0,.slice none 0 0],.int .i64 1]) (by simp[results,Tryz.results104,go_sem,kr,fr]) rfl ?_
  exact⟨_,_,_,_,_,[],by rw[HA.out];rfl,by rw[HA.out];exact⟨none_ows _,List.nodup_nil,by simp,((((((HB1.out.setCell (by first|(simp;done)|(simp;omega)|omega) _).setCell (by first|(simp;done)|(simp;omega)|omega) _).setCell (by first|(simp;done)|(simp;omega)|omega) _).setCell (by first|(simp;done)|(simp;omega)|omega) _).setCell (by first|(simp;done)|(simp;omega)|omega) _).setCell (by first|(simp;done)|(simp;omega)|omega) _)⟩⟩
 rw[yW hS];have HV:=hide hS;clear hS
 go_wp2_with fail
 refine(c_l31Fields ⟨ek,et,ec,ev,⟨ns,nf,nl,na,ng⟩⟩ b' o' _ (T.at_below HEAT.out HB1.out)).mono ?_;rintro e w2 ⟨rfl,hb⟩
 have HB2:=hide (yG HB1.out HB1.out.size hb);have HR2:=hide (HR1.out.below hb HR1.out.lt);clear hb kr fr lr
 have kr:=HR2.out.cell;have fr:=HR2.out.free;have lr:=HR2.out.lt
 by_cases hF:FieldsOk ⟨ek,et,ec,ev,⟨ns,nf,nl,na,ng⟩⟩
 rotate_left
 ·
  rw[yV hF];have HA:=hide (QA1.out HV.out hF);clear hF
  go_wp2
  refine bodyPost_ret (v:= .tuple #[.agg #[.int .i64 0,.slice none 0 0,.slice none 0 0,.slice none 0 0,.slice none 0 0,.slice none 0 0],.int .i64 1]) (by simp[results,Tryz.results104,go_sem,kr,fr]) rfl ?_
  exact⟨_,_,_,_,_,[],by rw[HA.out];rfl,by rw[HA.out];exact⟨none_ows _,List.nodup_nil,by simp,((((((HB2.out.setCell (by first|(simp;done)|(simp;omega)|omega) _).setCell (by first|(simp;done)|(simp;omega)|omega) _).setCell (by first|(simp;done)|(simp;omega)|omega) _).setCell (by first|(simp;done)|(simp;omega)|omega) _).setCell (by first|(simp;done)|(simp;omega)|omega) _).setCell (by first|(simp;done)|(simp;omega)|omega) _)⟩⟩
 rw[yW hF];have HF:=hide hF;clear hF
 go_wp2_with fail
 refine(c_l31Range x b o ⟨ek,et,ec,ev,⟨ns,nf,nl,na,ng⟩⟩ b' o' _ HSM.out (T.at_below HEAT.out HB2.out) (T.at_below HAT.out HB2.out)).mono ?_;rintro e w3 ⟨rfl,hb⟩
 have HB3:=hide (yG HB2.out HB2.out.size hb);have HR3:=hide (HR2.out.below hb HR2.out.lt);clear hb kr fr lr
 have kr:=HR3.out.cell;have fr:=HR3.out.free;have lr:=HR3.out.lt
 by_cases hRa:RangeOk x ⟨ek,et,ec,ev,⟨ns,nf,nl,na,ng⟩⟩
 rotate_left
 ·
  rw[yV hRa];have HA:=hide (QA2.out HV.out HF.out hRa);clear hRa
  go_wp2
  refine bodyPost_ret (v:= .tuple #[.agg #[.int .i64 0,.slice none 0 0,.slice none 0 0,.slice none 0 0,.slice none 0 0,.slice none 0 0],.int .i64 2]) (by simp[results,Tryz.results104,go_sem,kr,fr]) rfl ?_
  exact⟨_,_,_,_,_,[],by rw[HA.out];rfl,by rw[HA.out];exact⟨none_ows _,List.nodup_nil,by simp,((((((HB3.out.setCell (by first|(simp;done)|(simp;omega)|omega) _).setCell (by first|(simp;done)|(simp;omega)|omega) _).setCell (by first|(simp;done)|(simp;omega)|omega) _).setCell (by first|(simp;done)|(simp;omega)|omega) _).setCell (by first|(simp;done)|(simp;omega)|omega) _).setCell (by first|(simp;done)|(simp;omega)|omega) _)⟩⟩
 rw[yW hRa];have HRG:=hide hRa;clear hRa
 have HC0:=hide c0;have HC1:=hide c1;have HP2:=hide p2;clear c0 c1 p2
 by_cases k1:ek=1
 ·
  have q1:(ek == 1)=true:=yP k1
  obtain⟨k,t,hk,ht⟩:=range_track HRG.out (show ek≠5 by omega)
  obtain rfl:et=(k:Int):=hk
  have hlt:k<x.zE.length:=(List.getElem?_eq_some_iff.1 ht).1
  have HT:=hide (clipsAt_of ht);have hn12:=(HV.out.tracks k t ht).1.few
  obtain⟨b1,off,cs1,hA,hb1,hcs,hcell⟩:=HX2.out k t ht
  subst hA;clear ht
  have HBr:=hide (Below.refl w.heap.size w)
  obtain⟨u0,rfl,hRY0⟩:=GTrack.yL (show T.rds _ _ _ by simpa only[GTrack.t,T.rd] using hcs)
  have d0:=(HBr.out.cell hb1).trans (hcell 0 (u0) rfl)
  rw[show off+(k * 1+0)=off+k by omega] at d0
  have RY0:=hide (T.yC hRY0 HBr.out);clear hRY0
  clear hcs hcell
  obtain⟨ua0,uc0,rfl,ul0,um0,-⟩:=T.yK RY0.out
  have hi0:(0:Int)≤(k:Int):=by omega
  have hi1:(k:Int)<(x.zE.length:Int):=by omega
  have a0:=(HB3.out.cell hlt').trans HC0.out;have a1:=(HB3.out.cell hlt').trans HC1.out;have a2:=(HB3.out.cell HL.out).trans HP2.out;have a3:=(HB3.out.cell hb1).trans d0
  by_cases c12:12≤t.zL.length
  ·
   have b12:decide ((12:Int)≤(t.zL.length:Int))=true:=decide_eq_true (by omega)
   have HA:=hide (QA3.out HV.out HF.out HRG.out k1 (by(try dsimp only);rw[HT.out];exact c12));clear k1
   go_wp2
   have g0:=yD a0
   have g1:=yD a1
   have g2:=yD a2
   have g3:=yD a3
   refine yZ (by kernel_rfl) (by kernel_rfl) ?_
   repeat(first|go_big_quiet_skip|(go_big_quiet_want;go_big_quiet_op;first|go_big_quiet_on|(apply Exists.intro;refine⟨fun _=>?_,?_⟩;(· (fail));go_big_quiet_on)))
   refine wpQuiet_nil ?_
   rintro w9 ⟨uu,rfl⟩
   have hb:=yE w3 uu
   generalize bel w3 uu=w9 at *
   clear g0 g1 g2 g3
   have HB4:=hide (yG HB3.out HB3.out.size hb);have HR4:=hide (HR3.out.below hb HR3.out.lt);clear hb kr fr lr
   have kr:=HR4.out.cell;have fr:=HR4.out.free;have lr:=HR4.out.lt
   go_wp2
   refine bodyPost_ret (v:= .tuple #[.agg #[.int .i64 0,.slice none 0 0,.slice none 0 0,.slice none 0 0,.slice none 0 0,.slice none 0 0],.int .i64 5]) (by simp[results,Tryz.results104,go_sem,kr,fr]) rfl ?_
   exact⟨_,_,_,_,_,[],by rw[HA.out];rfl,by rw[HA.out];exact⟨none_ows _,List.nodup_nil,by simp,((((((HB4.out.setCell (by first|(simp;done)|(simp;omega)|omega) _).setCell (by first|(simp;done)|(simp;omega)|omega) _).setCell (by first|(simp;done)|(simp;omega)|omega) _).setCell (by first|(simp;done)|(simp;omega)|omega) _).setCell (by first|(simp;done)|(simp;omega)|omega) _).setCell (by first|(simp;done)|(simp;omega)|omega) _)⟩⟩
  have b12:decide ((12:Int)≤(t.zL.length:Int))=false:=decide_eq_false (by omega)
  have HNF:Sec (¬ (ek=1∧12≤(clipsAt x (k:Int)).length)):=hide (fun h=>c12 (by have h2:=h.2;rw[HT.out] at h2;exact h2));clear k1
  go_wp2
  have g0:=yD a0
  have g1:=yD a1
  have g2:=yD a2
  have g3:=yD a3
  refine yZ (by kernel_rfl) (by kernel_rfl) ?_
  repeat(first|go_big_quiet_skip|(go_big_quiet_want;go_big_quiet_op;first|go_big_quiet_on|(apply Exists.intro;refine⟨fun _=>?_,?_⟩;(· (fail));go_big_quiet_on)))
  refine wpQuiet_nil ?_
  rintro w9 ⟨uu,rfl⟩
  have hb:=yE w3 uu
  generalize bel w3 uu=w9 at *
  clear g0 g1 g2 g3
  have HB4:=hide (yG HB3.out HB3.out.size hb);have HR4:=hide (HR3.out.below hb HR3.out.lt);clear hb kr fr lr
  have kr:=HR4.out.cell;have fr:=HR4.out.free;have lr:=HR4.out.lt
  clear a0 a1 a2 a3 d0 q1 b12 c12 hn12 hi0 hi1 RY0 um0 ul0
  go_wp2_with fail
  refine(c_l27Own x b o _ HSM.out (T.at_below HAT.out HB4.out)).mono ?_;rintro e wC ⟨v1,v2,v3,v4,v5,F,rfl,hN⟩
  have hb:=hN.below
  obtain⟨⟨A1,L1,C1,rfl⟩,⟨A2,L2,C2,rfl⟩,⟨A3,L3,C3,rfl⟩,⟨A4,L4,C4,rfl⟩,⟨A5,L5,C5,rfl⟩⟩:=GSession.sl5 (T.ows_rds _ _ _ hN.ows)
  have HN:=hide hN;clear hN
  have h9C:=hb.size
  have HB5:=hide (yG HB4.out HB4.out.size hb);have HR5:=hide (HR4.out.below hb HR4.out.lt);clear hb kr fr lr
  have kr:=HR5.out.cell;have fr:=HR5.out.free;have lr:=HR5.out.lt
  have hFl:=T.ows_lt _ _ _ HN.out.ows
  have hlb':b'<w9.heap.size:=Nat.lt_of_lt_of_le hlt' HB4.out.size
  have hlr:=HR4.out.lt
  have HX:=hide (show Below wC.heap.size wC (wC.alloc (.cells #[.int .i64 x.zA,.slice A1 L1 C1,.slice A2 L2 C2,.slice A3 L3 C3,.slice A4 L4 C4,.slice A5 L5 C5] 41)) from(Below.refl _ _).alloc (Nat.le_refl _) _)
  have HBX:=hide (HB5.out.alloc HB5.out.size (.cells #[.int .i64 x.zA,.slice A1 L1 C1,.slice A2 L2 C2,.slice A3 L3 C3,.slice A4 L4 C4,.slice A5 L5 C5] 41));have HRX:=hide (HR5.out.alloc (.cells #[.int .i64 x.zA,.slice A1 L1 C1,.slice A2 L2 C2,.slice A3 L3 C3,.slice A4 L4 C4,.slice A5 L5 C5] 41));have HOX:=hide (Bk.born wC 41 #[.int .i64 x.zA,.slice A1 L1 C1,.slice A2 L2 C2,.slice A3 L3 C3,.slice A4 L4 C4,.slice A5 L5 C5])
  have hnF:wC.heap.size ∉ F:=fun hm=>by have:=hFl _ hm;omega
  have hbF:b' ∉ F:=fun hm=>by have:=HN.out.lo _ hm;omega
  have hrF:w.heap.size ∉ F:=fun hm=>by have:=HN.out.lo _ hm;omega
  have HNF1:=hide hnF;have HNF2:=hide hbF;have HNF3:=hide hrF;clear hnF hbF hrF hFl hlb' hlr kr fr lr
  go_wp2_with fail
  refine(c_l31Do x wC.heap.size ⟨ek,(k:Int),ec,ev,⟨ns,nf,nl,na,ng⟩⟩ b' o' F _ _ _ _ _ _ HSM.out HV.out HF.out HRG.out HOX.out (T.ows_all HN.out.ows HX.out) HN.out.nodup (T.at_below HEAT.out HBX.out) HNF1.out HNF2.out).mono ?_;rintro e wD ⟨rfl,F',hO,hnd,hmm,htr⟩
  have HO:=hide hO;have HND:=hide hnd;have HMM:=hide hmm
  have HB6:=hide (htr.below HBX.out (fun c hc=>by have h1:=HN.out.lo c hc;have h2:=HB4.out.size;omega) HBX.out.size);have HR6:=hide (HRX.out.trn htr HNF3.out);have HO6:=hide (HOX.out.trn htr HNF1.out)
  have hsz:=htr.size;clear hO hnd hmm htr
  have HAD:=hide (show T.at wD (doE x ⟨ek,(k:Int),ec,ev,⟨ns,nf,nl,na,ng⟩⟩).fs wC.heap.size 0 from⟨HO6.out.lt,_,T.ows_rds _ _ _ HO.out,fun i u hi=>by rw[Nat.zero_add];exact(HO6.out.cell i).trans (by simpa using hi)⟩)
  go_wp2_with fail
  refine(c_l27Ok (doE x ⟨ek,(k:Int),ec,ev,⟨ns,nf,nl,na,ng⟩⟩) wC.heap.size 0 _ (doE_small HSM.out HV.out) HAD.out).mono ?_;rintro e wE ⟨rfl,hb⟩
  have HO7:=hide (HO6.out.below hb HO6.out.lt);have HOW:=hide (T.ows_all HO.out hb);have hDE:=hb.size
  have HB7:=hide (yG HB6.out HB6.out.size hb);have HR7:=hide (HR6.out.below hb HR6.out.lt);clear hb
  have kr:=HR7.out.cell;have fr:=HR7.out.free;have lr:=HR7.out.lt;have ko:=HO7.out.cell;have fo:=HO7.out.free;have lo:=HO7.out.lt
  have nn1: ¬ wC.heap.size=w.heap.size:=by have:=HR5.out.lt;omega
  have nn2: ¬ w.heap.size=wC.heap.size:=fun e=>nn1 e.symm
  by_cases hD:SessionOk (doE x ⟨ek,(k:Int),ec,ev,⟨ns,nf,nl,na,ng⟩⟩)
  rotate_left
  ·
   rw[yV hD];have HA:=hide (QA4.out HV.out HF.out HRG.out HNF.out hD);clear hD
   go_wp2
   refine bodyPost_ret (v:= .tuple #[.agg #[.int .i64 0,.slice none 0 0,.slice none 0 0,.slice none 0 0,.slice none 0 0,.slice none 0 0],.int .i64 6]) (by simp[results,Tryz.results104,go_sem,kr,fr]) rfl ?_
   exact⟨_,_,_,_,_,[],by rw[HA.out];rfl,by rw[HA.out];exact⟨none_ows _,List.nodup_nil,by simp,((((((HB7.out.setCell (by first|(simp;done)|(simp;omega)|omega) _).setCell (by first|(simp;done)|(simp;omega)|omega) _).setCell (by first|(simp;done)|(simp;omega)|omega) _).setCell (by first|(simp;done)|(simp;omega)|omega) _).setCell (by first|(simp;done)|(simp;omega)|omega) _).setCell (by first|(simp;done)|(simp;omega)|omega) _)⟩⟩
  rw[yW hD];have HA:=hide (QA5.out HV.out HF.out HRG.out HNF.out hD);clear hD
  go_wp2
  refine bodyPost_ret (v:= .tuple #[.agg #[.int .i64 x.zA,.slice A1 L1 C1,.slice A2 L2 C2,.slice A3 L3 C3,.slice A4 L4 C4,.slice A5 L5 C5],.int .i64 0]) (by simp[results,Tryz.results104,go_sem,ko,fo,kr,fr,nn1,nn2,lr]) rfl ?_
  have hzR:w.heap.size ∉ F':=fun hm=>by rcases HMM.out _ hm with h|h;(· exact HNF3.out h);(· have h2:=HRX.out.lt;omega)
  have hlen:(doE x ⟨ek,(k:Int),ec,ev,⟨ns,nf,nl,na,ng⟩⟩).zA=x.zA:=by unfold doE;split;rfl;split;rfl;rfl
  exact⟨_,_,_,_,_,F',by rw[HA.out];dsimp only;rw[hlen],by rw[HA.out];dsimp only;rw[hlen];exact⟨(T.yM (T.yM (T.yM (T.yM (T.yM (T.yM HOW.out hzR _ _) hzR _ _) hzR _ _) hzR _ _) hzR _ _) hzR _ _),HND.out,fun c hc=>by rcases HMM.out c hc with h|h;(· have h1:=HN.out.lo c h;have h2:=HB4.out.size;omega);(· have h2:=HBX.out.size;omega),((((((HB7.out.setCell (by first|(simp;done)|(simp;omega)|omega) _).setCell (by first|(simp;done)|(simp;omega)|omega) _).setCell (by first|(simp;done)|(simp;omega)|omega) _).setCell (by first|(simp;done)|(simp;omega)|omega) _).setCell (by first|(simp;done)|(simp;omega)|omega) _).setCell (by first|(simp;done)|(simp;omega)|omega) _)⟩⟩
 have q1:(ek == 1)=false:=yO k1
 have HNF:Sec (¬ (ek=1∧12≤(clipsAt x et).length)):=hide (fun h=>k1 h.1);clear k1
 have a0:=(HB3.out.cell hlt').trans HC0.out
 go_wp2
 have g0:=yD a0
 refine yZ (by kernel_rfl) (by kernel_rfl) ?_
 repeat(first|go_big_quiet_skip|(go_big_quiet_want;go_big_quiet_op;first|go_big_quiet_on|(apply Exists.intro;refine⟨fun _=>?_,?_⟩;(· (fail));go_big_quiet_on)))
 refine wpQuiet_nil ?_
 rintro w9 ⟨uu,rfl⟩
 have hb:=yE w3 uu
 generalize bel w3 uu=w9 at *
 clear g0
 have HB4:=hide (yG HB3.out HB3.out.size hb);have HR4:=hide (HR3.out.below hb HR3.out.lt);clear hb kr fr lr
 have kr:=HR4.out.cell;have fr:=HR4.out.free;have lr:=HR4.out.lt
 clear a0 q1
 go_wp2_with fail
 refine(c_l27Own x b o _ HSM.out (T.at_below HAT.out HB4.out)).mono ?_;rintro e wC ⟨v1,v2,v3,v4,v5,F,rfl,hN⟩
 have hb:=hN.below
 obtain⟨⟨A1,L1,C1,rfl⟩,⟨A2,L2,C2,rfl⟩,⟨A3,L3,C3,rfl⟩,⟨A4,L4,C4,rfl⟩,⟨A5,L5,C5,rfl⟩⟩:=GSession.sl5 (T.ows_rds _ _ _ hN.ows)
 have HN:=hide hN;clear hN
 have h9C:=hb.size
 have HB5:=hide (yG HB4.out HB4.out.size hb);have HR5:=hide (HR4.out.below hb HR4.out.lt);clear hb kr fr lr
 have kr:=HR5.out.cell;have fr:=HR5.out.free;have lr:=HR5.out.lt
 have hFl:=T.ows_lt _ _ _ HN.out.ows
 have hlb':b'<w9.heap.size:=Nat.lt_of_lt_of_le hlt' HB4.out.size
 have hlr:=HR4.out.lt
 have HX:=hide (show Below wC.heap.size wC (wC.alloc (.cells #[.int .i64 x.zA,.slice A1 L1 C1,.slice A2 L2 C2,.slice A3 L3 C3,.slice A4 L4 C4,.slice A5 L5 C5] 41)) from(Below.refl _ _).alloc (Nat.le_refl _) _)
 have HBX:=hide (HB5.out.alloc HB5.out.size (.cells #[.int .i64 x.zA,.slice A1 L1 C1,.slice A2 L2 C2,.slice A3 L3 C3,.slice A4 L4 C4,.slice A5 L5 C5] 41));have HRX:=hide (HR5.out.alloc (.cells #[.int .i64 x.zA,.slice A1 L1 C1,.slice A2 L2 C2,.slice A3 L3 C3,.slice A4 L4 C4,.slice A5 L5 C5] 41));have HOX:=hide (Bk.born wC 41 #[.int .i64 x.zA,.slice A1 L1 C1,.slice A2 L2 C2,.slice A3 L3 C3,.slice A4 L4 C4,.slice A5 L5 C5])
 have hnF:wC.heap.size ∉ F:=fun hm=>by have:=hFl _ hm;omega
 have hbF:b' ∉ F:=fun hm=>by have:=HN.out.lo _ hm;omega
 have hrF:w.heap.size ∉ F:=fun hm=>by have:=HN.out.lo _ hm;omega
 have HNF1:=hide hnF;have HNF2:=hide hbF;have HNF3:=hide hrF;clear hnF hbF hrF hFl hlb' hlr kr fr lr
 go_wp2_with fail
 refine(c_l31Do x wC.heap.size ⟨ek,et,ec,ev,⟨ns,nf,nl,na,ng⟩⟩ b' o' F _ _ _ _ _ _ HSM.out HV.out HF.out HRG.out HOX.out (T.ows_all HN.out.ows HX.out) HN.out.nodup (T.at_below HEAT.out HBX.out) HNF1.out HNF2.out).mono ?_;rintro e wD ⟨rfl,F',hO,hnd,hmm,htr⟩
 have HO:=hide hO;have HND:=hide hnd;have HMM:=hide hmm
 have HB6:=hide (htr.below HBX.out (fun c hc=>by have h1:=HN.out.lo c hc;have h2:=HB4.out.size;omega) HBX.out.size);have HR6:=hide (HRX.out.trn htr HNF3.out);have HO6:=hide (HOX.out.trn htr HNF1.out)
 have hsz:=htr.size;clear hO hnd hmm htr
 have HAD:=hide (show T.at wD (doE x ⟨ek,et,ec,ev,⟨ns,nf,nl,na,ng⟩⟩).fs wC.heap.size 0 from⟨HO6.out.lt,_,T.ows_rds _ _ _ HO.out,fun i u hi=>by rw[Nat.zero_add];exact(HO6.out.cell i).trans (by simpa using hi)⟩)
 go_wp2_with fail
 refine(c_l27Ok (doE x ⟨ek,et,ec,ev,⟨ns,nf,nl,na,ng⟩⟩) wC.heap.size 0 _ (doE_small HSM.out HV.out) HAD.out).mono ?_;rintro e wE ⟨rfl,hb⟩
 have HO7:=hide (HO6.out.below hb HO6.out.lt);have HOW:=hide (T.ows_all HO.out hb);have hDE:=hb.size
 have HB7:=hide (yG HB6.out HB6.out.size hb);have HR7:=hide (HR6.out.below hb HR6.out.lt);clear hb
 have kr:=HR7.out.cell;have fr:=HR7.out.free;have lr:=HR7.out.lt;have ko:=HO7.out.cell;have fo:=HO7.out.free;have lo:=HO7.out.lt
 have nn1: ¬ wC.heap.size=w.heap.size:=by have:=HR5.out.lt;omega
 have nn2: ¬ w.heap.size=wC.heap.size:=fun e=>nn1 e.symm
 by_cases hD:SessionOk (doE x ⟨ek,et,ec,ev,⟨ns,nf,nl,na,ng⟩⟩)
 rotate_left
 ·
  rw[yV hD];have HA:=hide (QA4.out HV.out HF.out HRG.out HNF.out hD);clear hD
  go_wp2
  refine bodyPost_ret (v:= .tuple #[.agg #[.int .i64 0,.slice none 0 0,.slice none 0 0,.slice none 0 0,.slice none 0 0,.slice none 0 0],.int .i64 6]) (by simp[results,Tryz.results104,go_sem,kr,fr]) rfl ?_
  exact⟨_,_,_,_,_,[],by rw[HA.out];rfl,by rw[HA.out];exact⟨none_ows _,List.nodup_nil,by simp,((((((HB7.out.setCell (by first|(simp;done)|(simp;omega)|omega) _).setCell (by first|(simp;done)|(simp;omega)|omega) _).setCell (by first|(simp;done)|(simp;omega)|omega) _).setCell (by first|(simp;done)|(simp;omega)|omega) _).setCell (by first|(simp;done)|(simp;omega)|omega) _).setCell (by first|(simp;done)|(simp;omega)|omega) _)⟩⟩
 rw[yW hD];have HA:=hide (QA5.out HV.out HF.out HRG.out HNF.out hD);clear hD
 go_wp2
 refine bodyPost_ret (v:= .tuple #[.agg #[.int .i64 x.zA,.slice A1 L1 C1,.slice A2 L2 C2,.slice A3 L3 C3,.slice A4 L4 C4,.slice A5 L5 C5],.int .i64 0]) (by simp[results,Tryz.results104,go_sem,ko,fo,kr,fr,nn1,nn2,lr]) rfl ?_
 have hzR:w.heap.size ∉ F':=fun hm=>by rcases HMM.out _ hm with h|h;(· exact HNF3.out h);(· have h2:=HRX.out.lt;omega)
 have hlen:(doE x ⟨ek,et,ec,ev,⟨ns,nf,nl,na,ng⟩⟩).zA=x.zA:=by unfold doE;split;rfl;split;rfl;rfl
 exact⟨_,_,_,_,_,F',by rw[HA.out];dsimp only;rw[hlen],by rw[HA.out];dsimp only;rw[hlen];exact⟨(T.yM (T.yM (T.yM (T.yM (T.yM (T.yM HOW.out hzR _ _) hzR _ _) hzR _ _) hzR _ _) hzR _ _) hzR _ _),HND.out,fun c hc=>by rcases HMM.out c hc with h|h;(· have h1:=HN.out.lo c h;have h2:=HB4.out.size;omega);(· have h2:=HBX.out.size;omega),((((((HB7.out.setCell (by first|(simp;done)|(simp;omega)|omega) _).setCell (by first|(simp;done)|(simp;omega)|omega) _).setCell (by first|(simp;done)|(simp;omega)|omega) _).setCell (by first|(simp;done)|(simp;omega)|omega) _).setCell (by first|(simp;done)|(simp;omega)|omega) _).setCell (by first|(simp;done)|(simp;omega)|omega) _)⟩⟩
end Go.Proofs.YteiflbhcehajkaaGreat
end
section
namespace Go.Proofs.YteiflbhcehajkaaGreat
open Go.RowKit
section
variable {P:Program} {ops:Array Oper} {Q:Exit→Act→World→Prop} {md:Region.Mode} {S:World→Prop} {n:List Nat}
/-- Whatever order is picked from here on; behind every operation but number n, which waits for all others, S holds. -/
def wpAnyN (P:Program) (md:Region.Mode) (ops:Array Oper) (Q:Exit→Act→World→Prop) (S:World→Prop) (n:List Nat):Nat→Array Bool→Act→World→Prop
 |0,listed,a,w=>Region.ready md ops listed= []∧Q .normal a w
 |fuel+1,listed,a,w=>
  (Region.ready md ops listed= []→Q .normal a w)∧
  ∀ i ∈ Region.ready md ops listed,wpOp P ops Q i (fun a' w'=>(i ∈ n∨S w')∧wpAnyN P md ops Q S n fuel (listed.setIfInBounds i true) a' w') a w
theorem wpAny_of_N: ∀ (fuel:Nat) (listed:Array Bool) (a:Act) (w:World),wpAnyN P md ops Q S n fuel listed a w→wpAny P md ops Q fuel listed a w
 |0,_,_,_,h=>h
 |fuel+1,_,_,_,h=>⟨h.1,fun i hi=>wpOp_mono (fun a' w' h'=>wpAny_of_N fuel _ a' w' h'.2) (h.2 i hi)⟩
/-- What is listed has all that it waits for listed. -/
def closedB (md:Region.Mode) (ops:Array Oper) (listed:Array Bool):Bool:=(List.range ops.size).all fun j=> !(listed.getD j true) || ((ops[j]?).map fun o=>o.after.all fun e=> !(Region.binds md e) || listed.getD e.on true).getD true
def Closed (md:Region.Mode) (ops:Array Oper) (listed:Array Bool):Prop:= ∀ (j:Nat) (o:Oper),ops[j]?=some o→listed.getD j true=true→ ∀ e ∈ o.after,Region.binds md e=true→listed.getD e.on true=true
theorem closed_of {listed:Array Bool} (h:closedB md ops listed=true):Closed md ops listed:=by
 intro j o ho hl e he hb
 unfold closedB at h
 have hj:j<ops.size:=(Array.getElem?_eq_some_iff.1 ho).1
 have h1:=List.all_eq_true.1 h j (List.mem_range.2 hj)
 rw[hl,ho] at h1
 simp only[Bool.not_true,Bool.false_or,Option.map_some,Option.getD_some] at h1
 have h2:=(Array.all_eq_true'.1 h1) e he
 rw[hb] at h2
 simpa using h2
/-- Number m waits for number i, perhaps through others. -/
def waitsT (md:Region.Mode) (ops:Array Oper):Nat→Nat→Nat→Bool
 |0,_,_=>false
 |f+1,m,i=>((ops[m]?).map fun o=>o.after.any fun e=>Region.binds md e && (e.on == i || waitsT md ops f e.on i)).getD false
theorem waitsT_spec {f m i:Nat} (h:waitsT md ops (f+1) m i=true): ∃ o,ops[m]?=some o∧ ∃ e ∈ o.after,Region.binds md e=true∧(e.on=i∨waitsT md ops f e.on i=true):=by
 unfold waitsT at h
 cases ho:ops[m]? with
 |none=>rw[ho] at h;simp at h
 |some o=>
  rw[ho] at h
  simp only[Option.map_some,Option.getD_some] at h
  obtain⟨e,he,h2⟩:=Array.any_eq_true'.1 h
  simp only[Bool.and_eq_true,Bool.or_eq_true,beq_iff_eq] at h2
  exact⟨o,rfl,e,he,h2.1,h2.2⟩
theorem waitsT_mono: ∀ (f m i:Nat),waitsT md ops f m i=true→waitsT md ops (f+1) m i=true
 |0,_,_,h=>by simp[waitsT] at h
 |f+1,m,i,h=>by
  obtain⟨o,ho,e,he,hb,h2⟩:=waitsT_spec h
  unfold waitsT
  rw[ho]
  simp only[Option.map_some,Option.getD_some]
  refine Array.any_eq_true'.2 ⟨e,he,?_⟩
  simp only[Bool.and_eq_true,Bool.or_eq_true,beq_iff_eq]
  exact⟨hb,h2.imp id (fun h3=>waitsT_mono f _ _ h3)⟩
/-- Which of the first k operations wait for number i: reckoned one after the other. -/
def reachL (md:Region.Mode) (ops:Array Oper) (i:Nat):Nat→List Bool
 |0=> []
 |k+1=>reachL md ops i k++ [((ops[k]?).map fun o=>o.after.any fun e=>Region.binds md e && (e.on == i || (reachL md ops i k).getD e.on false)).getD false]
theorem length_reachL {i:Nat} : ∀ k,(reachL md ops i k).length=k
 |0=>rfl
 |k+1=>by simp[reachL,length_reachL k]
theorem reachL_spec {i:Nat} : ∀ (k j:Nat),(reachL md ops i k).getD j false=true→waitsT md ops k j i=true
 |0,j,h=>by simp[reachL] at h
 |k+1,j,h=>by
  unfold reachL at h
  rw[List.getD_eq_getElem?_getD] at h
  by_cases hj:j<k
  ·rw[List.getElem?_append_left (by rw[length_reachL];exact hj),←List.getD_eq_getElem?_getD] at h
   exact waitsT_mono _ _ _ (reachL_spec k j h)
  ·by_cases e:j=k
   ·subst e
    rw[List.getElem?_append_right (by rw[length_reachL];exact Nat.le_refl _),length_reachL,Nat.sub_self] at h
    unfold waitsT
    cases ho:ops[j]? with
    |none=>rw[ho] at h;simp at h
    |some o=>
     rw[ho] at h
     simp only[Option.map_some,Option.getD_some,List.getElem?_cons_zero] at h ⊢
     obtain⟨e,he,h2⟩:=Array.any_eq_true'.1 h
     refine Array.any_eq_true'.2 ⟨e,he,?_⟩
     simp only[Bool.and_eq_true,Bool.or_eq_true,beq_iff_eq] at h2 ⊢
     exact⟨h2.1,h2.2.imp id (fun h3=>reachL_spec j _ h3)⟩
   ·rw[List.getElem?_eq_none (by rw[List.length_append,length_reachL];simp;omega)] at h
    cases h
theorem waitsT_listed {listed:Array Bool} (hc:Closed md ops listed): ∀ (f j i:Nat),listed.getD j true=true→waitsT md ops f j i=true→listed.getD i true=true
 |0,_,_,_,h=>by simp[waitsT] at h
 |f+1,j,i,hl,h=>by
  obtain⟨o,ho,e,he,hb,h2⟩:=waitsT_spec h
  have h3:=hc j o ho hl e he hb
  rcases h2 with rfl|h2
  ·exact h3
  ·exact waitsT_listed hc f e.on i h3 h2
theorem waitsT_ready {listed:Array Bool} (hc:Closed md ops listed) {f j i:Nat} (hr:j ∈ Region.ready md ops listed) (h:waitsT md ops f j i=true):listed.getD i true=true:=by
 cases f with
 |zero=>simp[waitsT] at h
 |succ f=>
  obtain⟨o,ho,e,he,hb,h2⟩:=waitsT_spec h
  obtain⟨_,o',ho',hall⟩:=mem_ready.1 hr
  obtain rfl:o=o':=Option.some.inj (ho.symm.trans ho')
  have h1:=hall e he hb
  have h3:listed.getD e.on true=true:=by
   cases hg:listed.getD e.on true with
   |true=>rfl
   |false=>rw[getD_both hg] at h1;cases h1
  rcases h2 with rfl|h2
  ·exact h3
  ·exact waitsT_listed hc f e.on i h3 h2
theorem Closed.set_ {listed:Array Bool} (hc:Closed md ops listed) {j:Nat} (hr:j ∈ Region.ready md ops listed):Closed md ops (listed.setIfInBounds j true):=by
 have up: ∀ k,listed.getD k true=true→(listed.setIfInBounds j true).getD k true=true:=fun k hk=>by
  by_cases e:j=k
  ·subst e
   cases hq:(listed.setIfInBounds j true).getD j true with
   |true=>rfl
   |false=>
    have hlt:j<listed.size:=Nat.lt_of_not_le fun hn=>by
     rw[Array.getD_eq_getD_getElem?,Array.getElem?_eq_none (by simpa using hn)] at hq
     cases hq
    rw[Array.getD_eq_getD_getElem?,Array.getElem?_setIfInBounds_self_of_lt hlt] at hq
    cases hq
  ·rw[getD_set_ne true e];exact hk
 intro k o ho hl e he hb
 by_cases hk:j=k
 ·subst hk
  obtain⟨_,o',ho',hall⟩:=mem_ready.1 hr
  obtain rfl:o=o':=Option.some.inj (ho.symm.trans ho')
  have h1:=hall e he hb
  refine up _ ?_
  cases hg:listed.getD e.on true with
  |true=>rfl
  |false=>rw[getD_both hg] at h1;cases h1
 ·rw[getD_set_ne true hk] at hl
  exact up _ (hc k o ho hl e he hb)
theorem wpAnyN_first {i:Nat} {oi:Oper} {v:Value} (f:Nat) (hn:(n.all fun m=>waitsT md ops f m i)=true) (hi:ops[i]?=some oi) (hsel: ∀ (j:Nat) (o:Oper) cs b,ops[j]?=some o→o.op≠ .select cs b)
  (hQ: ∀ c a w,Q (.panic c) (a.put oi.dst v) w→Q (.panic c) a w):
  ∀ (fuel:Nat) (listed:Array Bool) (a:Act) (w:World),
   (∀ j oj,ops[j]?=some oj→j≠i→listed.getD j true=false→(∀ e ∈ oj.after,Region.binds md e=true→e.on≠i)→oi.apart ops oj=true)→
   Closed md ops listed→i ∈ Region.ready md ops listed→YieldsIf P ops S oi v a→S w→
   wpAnyN P md ops Q S n fuel (listed.setIfInBounds i true) (a.put oi.dst v) w→wpAnyN P md ops Q S n (fuel+1) listed a w:=by
 have late: ∀ {listed:Array Bool} {j:Nat},Closed md ops listed→i ∈ Region.ready md ops listed→j ∈ Region.ready md ops listed→j ∉ n:=by
  intro listed j hc hr hj e
  have h1:=waitsT_ready hc hj (List.all_eq_true.1 hn j e)
  rw[(mem_ready.1 hr).1] at h1
  cases h1
 intro fuel
 induction fuel with
 |zero=>
  intro listed a w _ hc hr hy hS H
  refine⟨fun h=>(by rw[h] at hr;cases hr),fun j hj=>?_⟩
  by_cases hji:j=i
  ·subst hji;exact hy.wpOp hi hS ⟨.inr hS,H⟩
  ·have:=ready_mono hj hji
   rw[H.1] at this
   cases this
 |succ fuel ih=>
  intro listed a w hfree hc hr hy hS H
  refine⟨fun h=>(by rw[h] at hr;cases hr),fun j hj=>?_⟩
  by_cases hji:j=i
  ·subst hji;exact hy.wpOp hi hS ⟨.inr hS,H⟩
  ·have h1:=H.2 j (ready_mono hj hji)
   obtain⟨hjun,oj,hoj,hall⟩:=mem_ready.1 hj
   have hun:=(mem_ready.1 hr).1
   have hnot: ∀ e ∈ oj.after,Region.binds md e=true→e.on≠i:=fun e he hb heq=>by
    have h1:=hall e he hb
    rw[heq,getD_both hun] at h1
    cases h1
   have h2:=wpOp_putIf hoj (hfree j oj hoj hji hjun hnot) (fun cs b=>hsel i oi cs b hi) (fun cs b=>hsel j oj cs b hoj) hQ hy h1
   have hfree': ∀ k ok,ops[k]?=some ok→k≠i→(listed.setIfInBounds j true).getD k true=false→
     (∀ e ∈ ok.after,Region.binds md e=true→e.on≠i)→oi.apart ops ok=true:=fun k ok hk hki hun hno=>by
    refine hfree k ok hk hki ?_ hno
    by_cases hjk:j=k
    ·subst hjk;exact hjun
    ·rw[getD_set_ne true hjk] at hun;exact hun
   have hjn:=late hc hr hj
   refine wpOp_mono (fun a' w' h3=>?_) h2
   have hS':S w':=h3.2.1.resolve_left hjn
   refine⟨.inr hS',ih (listed.setIfInBounds j true) a' w' hfree' (hc.set_ hj) (ready_mono hr (Ne.symm hji)) h3.1 hS' ?_⟩
   rw[Array.setIfInBounds_comm _ _ hji]
   exact h3.2.2
/-- Take number i first. -/
theorem wpAnyN_take {i:Nat} {oi:Oper} {v:Value} {fuel:Nat} {listed:Array Bool} {a:Act} {w:World} (f:Nat) (hn:(n.all fun m=>waitsT md ops f m i)=true) (hcl:closedB md ops listed=true) (hi:ops[i]?=some oi)
  (hs:Region.noSelect ops=true) (hf:Region.free md ops listed i=true) (hr:(Region.ready md ops listed).contains i=true)
  (hQ: ∀ c a w,Q (.panic c) (a.put oi.dst v) w→Q (.panic c) a w) (hS:S w) (hw:Region.wanted oi (yielded ops a.tmps)=true) (hy: ∀ w,S w→(execOp a.eval oi).run P w= .ok (.value v) w)
  (h:wpAnyN P md ops Q S n fuel (listed.setIfInBounds i true) (a.put oi.dst v) w):wpAnyN P md ops Q S n (fuel+1) listed a w:=
 wpAnyN_first f hn hi (Region.noSelect_spec hs) hQ fuel listed a w (Region.free_spec hi hf) (closed_of hcl) (by simpa using hr) (.inl ⟨hw,hy⟩) hS h
/-- Take number i first (the others' waiting is reckoned one after the other). -/
theorem wpAnyN_takeL {i:Nat} {oi:Oper} {v:Value} {fuel:Nat} {listed:Array Bool} {a:Act} {w:World} (hn:(n.all fun m=>(reachL md ops i ops.size).getD m false)=true) (hcl:closedB md ops listed=true) (hi:ops[i]?=some oi)
  (hs:Region.noSelect ops=true) (hf:Region.free md ops listed i=true) (hr:(Region.ready md ops listed).contains i=true)
  (hQ: ∀ c a w,Q (.panic c) (a.put oi.dst v) w→Q (.panic c) a w) (hS:S w) (hw:Region.wanted oi (yielded ops a.tmps)=true) (hy: ∀ w,S w→(execOp a.eval oi).run P w= .ok (.value v) w)
  (h:wpAnyN P md ops Q S n fuel (listed.setIfInBounds i true) (a.put oi.dst v) w):wpAnyN P md ops Q S n (fuel+1) listed a w:=
 wpAnyN_take ops.size (List.all_eq_true.2 fun m hm=>reachL_spec _ _ (List.all_eq_true.1 hn m hm)) hcl hi hs hf hr hQ hS hw hy h
/-- Number i alone may come up. -/
theorem wpAnyN_one {i:Nat} {o:Oper} {fuel:Nat} {listed:Array Bool} {a:Act} {w:World} (hr:Region.ready md ops listed= [i]) (ho:ops[i]?=some o)
  (h: ∀ K':Act→World→Prop,Shut (∀ a w,S w→(S w→wpAnyN P md ops Q S n fuel (listed.setIfInBounds i true) a w)→K' a w)→if Region.wanted o (yielded ops a.tmps)=true then Oper.wp P o a w K' Q else K' (a.put o.dst undef) w):
  wpAnyN P md ops Q S n (fuel+1) listed a w:=
 ⟨fun h0=>(by rw[hr] at h0;cases h0),fun j hj=>by
  rw[hr,List.mem_singleton] at hj
  subst hj
  exact wpOp_step ho (fun K' hK=>h K' (fun a w hS hW=>hK a w ⟨.inr hS,hW hS⟩))⟩
/-- Two operations come up last, one after the other. -/
theorem wpAnyN_tail2 {i j:Nat} {o o2:Oper} {fuel:Nat} {listed:Array Bool} {a:Act} {w:World} (hr:Region.ready md ops listed= [i]) (ho:ops[i]?=some o) (hr2:Region.ready md ops (listed.setIfInBounds i true)= [j]) (ho2:ops[j]?=some o2)
  (hr3:Region.ready md ops ((listed.setIfInBounds i true).setIfInBounds j true)= []) (hi:i ∈ n) (hj:j ∈ n) (h:wpList P ops Q [o,o2] a w):wpAnyN P md ops Q S n (fuel+2) listed a w:=
 ⟨fun h0=>(by rw[hr] at h0;cases h0),fun k hk=>by
  rw[hr,List.mem_singleton] at hk
  subst hk
  have hw:wpOp P ops Q k (wpList P ops Q [o2]) a w:=by unfold wpOp;simp only[ho];exact h
  refine wpOp_mono (fun a' w' h'=>⟨.inl hi,⟨fun h0=>(by rw[hr2] at h0;cases h0),fun k2 hk2=>?_⟩⟩) hw
  rw[hr2,List.mem_singleton] at hk2
  subst hk2
  have hw2:wpOp P ops Q k2 (wpList P ops Q []) a' w':=by unfold wpOp;simp only[ho2];exact h'
  refine wpOp_mono (fun a'' w'' h''=>⟨.inl hj,?_⟩) hw2
  have h'':Q .normal a'' w'':=h''
  cases fuel with
  |zero=>exact⟨hr3,h''⟩
  |succ f=>exact⟨fun _=>h'',by rw[hr3];simp⟩⟩
/-- The beginning: S is shown of the world behind the draw. -/
theorem wp_region_N {id:Nat} {a:Act} {w:World} (S:World→Prop) (n:List Nat) (hm:P.follows .mixedOrders=true) (hS:S w.drew)
  (h:S w.drew→wpAnyN P .any ops Q S n ops.size (Array.replicate ops.size false) a w.drew):(Code.region id ops true).wp P Q a w:=
 wp_region_any hm (wpAny_of_N _ _ _ _ (h hS))
end
end Go.Proofs.YteiflbhcehajkaaGreat
end
