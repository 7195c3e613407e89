/- Contracts: MakeCache, both sides. Contracts on whole structs that own their memory. Contracts that the laws on sessions and edits share. The words of the translation's head, without running through its whole list of roots; and the closed facts of a row out of them. -/
import Derived.Test.YtoibekfhepnedaaGreatQBfExactMakeCache
import Derived.Test.YtoibekfhepnedaaGreatQBgExactMakeCache
import Derived.Test.YtoibekfhepnedaaGreatQBiExactMakeCache
import Derived.Test.YtoibekfhepnedaaGreatQAmExactMakeCache
import Derived.Test.YtoibekfhepnedaaGreatQAnExactMakeCache
import Derived.Test.YtoibekfhepnedaaGreatQAxExactMakeCache
import Derived.Test.YtoibekfhepnedaaGreatQAiExactMakeCache
import Derived.Test.YtoibekfhepnedaaGreatRows
import Derived.ProofKit
set_option linter.unusedVariables false
set_option linter.unusedSimpArgs false
set_option maxHeartbeats 8000000
set_option maxRecDepth 100000
namespace Go.Proofs.YtoibekfhepnedaaGreat
section
open Go.RowKit
theorem cacheM_own {w:World} {s:xK} {m:List Int} {Fs:List Nat} {c1:List Value} {vm vd:Value} {s0 s1 s2:Nat} (h:T.ows w s.fs Fs c1) (nd:Fs.Nodup) (h0: ∀ b ∈ Fs,s0≤b) (hlt: ∀ b ∈ Fs,b<s1) (h01:s0≤s1) (hm:OwI 2 w s1 vm m) (hm2: ∀ b,vm.ownBlock=some b→b<s2) (hs:s1≤s2) (hd:OwI 2 w s2 vd []):
  T.ows w (wS.fs ⟨s,m,[]⟩) (Fs++vm.ownBlock.toList++vd.ownBlock.toList) (c1++ [vm]++ [vd])∧(Fs++vm.ownBlock.toList++vd.ownBlock.toList).Nodup∧ ∀ b ∈ Fs++vm.ownBlock.toList++vd.ownBlock.toList,s0≤b:=by
 have km: ∀ b ∈ vm.ownBlock.toList,s1≤b∧b<s2:=fun b hb=>⟨(OwI.lt hm b (by simpa using hb)).1,hm2 b (by simpa using hb)⟩
 have kd: ∀ b ∈ vd.ownBlock.toList,s2≤b:=fun b hb=>(OwI.lt hd b (by simpa using hb)).1
 have n1: ∀ v:Value,v.ownBlock.toList.Nodup:=fun v=>by cases v.ownBlock<;>simp
 refine⟨T.ows_snoc (T.ows_snoc h (T.ow_ints.2 ⟨hm.more (Nat.zero_le _),rfl⟩)) (T.ow_ints.2 ⟨hd.more (Nat.zero_le _),rfl⟩),?_,?_⟩
 ·rw[List.nodup_append,List.nodup_append]
  refine⟨⟨nd,n1 vm,fun a ha b hb e=>?_⟩,n1 vd,fun a ha b hb e=>?_⟩
  ·subst e;have h1:=hlt a ha;have h2:=km a hb;omega
  ·subst e
   have h2:=kd a hb
   rcases List.mem_append.1 ha with ha|ha
   ·have h1:=hlt a ha;omega
   ·have h1:=km a ha;omega
 ·intro b hb
  rcases List.mem_append.1 hb with hb|hb
  ·rcases List.mem_append.1 hb with hb|hb
   ·exact h0 b hb
   ·have:=km b hb;omega
  ·have:=kd b hb;omega
/-- The cache of a session, with a code. -/
noncomputable def mkC (x:xK):wS × Int:=if tf (vL x)=true then (⟨x,mixF x,[]⟩,0) else (uY,1)
theorem mkC_yes {x:xK} (h:vL x):mkC x=(⟨x,mixF x,[]⟩,0):=if_pos (xA h)
theorem mkC_no {x:xK} (h: ¬ vL x):mkC x=(uY,1):=if_neg (by rw[yZ h];simp)
theorem noneM_ows (w:World):T.ows w uY.fs [] [.int .i64 0,.slice none 0 0,.slice none 0 0,.slice none 0 0,.slice none 0 0,.slice none 0 0,.slice none 0 0,.slice none 0 0]:=by
 have h:=none_ows w
 exact T.ows_snoc (T.ows_snoc h (T.ow_ints.2 ⟨OwI.nil_ _ _ _,rfl⟩)) (T.ow_ints.2 ⟨OwI.nil_ _ _ _,rfl⟩)
theorem c_l31Make (x:xK) (b o:Nat) (w:World) (hs:x.small) (hv:vL x) (hg:x.good) (h:T.at w x.fs b o):Calls Tryz.prog 68 #[.pointer (some ⟨b,o,none⟩)] w fun e w'=> ∃ v1 v2 v3 v4 v5 v6 v7 F,e= .returned (.agg #[.int .i64 x.zF,v1,v2,v3,v4,v5,v6,v7])∧Nw w w' (wS.fs ⟨x,mixF x,[]⟩) F [.int .i64 x.zF,v1,v2,v3,v4,v5,v6,v7]:=by
 have HAT:=hide h
 obtain⟨hlt0,cs,hr,hc⟩:=h
 obtain⟨v1,v2,v3,v4,v5,rfl,h1,h2,h3,h4,h5⟩:=xK.yO hr
 clear hr
 have R1:=hide h1;obtain⟨va1,vc1,rfl,vl1,vm1,vx1⟩:=T.yN h1
 have HX1:=hide vx1;clear vx1 h1
 have R2:=hide h2;obtain⟨va2,vc2,rfl,vl2,vm2,vx2⟩:=T.yN h2
 have HX2:=hide vx2;clear vx2 h2
 have h3i:=T.yT.1 h3;obtain⟨va3,vc3,rfl,vl3,vm3,vx3⟩:=h3i.open_
 have R3:=hide h3i;have HX3:=hide vx3;clear vx3 h3 h3i
 have R4:=hide h4;obtain⟨va4,vc4,rfl,vl4,vm4,vx4⟩:=T.yN h4
 have HX4:=hide vx4;clear vx4 h4
 have R5:=hide h5;obtain⟨va5,vc5,rfl,vl5,vm5,vx5⟩:=T.yN h5
 have HX5:=hide vx5;clear vx5 h5
 have HL:=hide hlt0;have HCC:=hide hc;have HB0:=hide (Below.refl w.heap.size w);clear hlt0 hc
 have HSM:=hide hs;have HV:=hide hv;have HGD:=hide hg;clear hs hv hg
 have HB1:=hide (show Below w.heap.size w (w.alloc (.cells #[.int .i64 0,.slice none 0 0,.slice none 0 0,.slice none 0 0,.slice none 0 0,.slice none 0 0,.slice none 0 0,.slice none 0 0] 65)) from(Below.refl _ _).alloc (Nat.le_refl _) _);have KR1:=hide (Bk.born w 65 #[.int .i64 0,.slice none 0 0,.slice none 0 0,.slice none 0 0,.slice none 0 0,.slice none 0 0,.slice none 0 0,.slice none 0 0])
 generalize hW1:(w.alloc (.cells #[.int .i64 0,.slice none 0 0,.slice none 0 0,.slice none 0 0,.slice none 0 0,.slice none 0 0,.slice none 0 0,.slice none 0 0] 65))=W1 at *;have HW1:=hide hW1;clear hW1
 go_enter Tryz.func68,Tryz.ntmps68
 go_wp2_with fail
 rw[HW1.out]
 refine(c_l27Own x b o _ HSM.out (T.at_below HAT.out HB1.out)).mono ?_;rintro e wA ⟨v1,v2,v3,v4,v5,F,rfl,hN⟩
 obtain⟨⟨A1,L1,C1,rfl⟩,⟨A2,L2,C2,rfl⟩,⟨A3,L3,C3,rfl⟩,⟨A4,L4,C4,rfl⟩,⟨A5,L5,C5,rfl⟩⟩:=xK.sl5 (T.ows_rds _ _ _ hN.ows)
 have hb:=hN.below;have HBA:=hide (yJ HB1.out HB1.out.size hb);have KRA:=hide (KR1.out.below hb KR1.out.lt);have HOS:=hide hN.ows;have HLO:=hide hN.lo;have HND:=hide hN.nodup;have HLT:=hide hN.lt;have hzA:=hb.size;have hr1:=KR1.out.lt;clear hb hN
 go_wp2_with fail
 refine(c_l27Mix x b o _ HV.out HGD.out (T.at_below HAT.out HBA.out)).mono ?_;rintro e wB ⟨vm,rfl,hom,hb⟩
 obtain⟨mA,mL,mC,rfl⟩:=T.yX (T.ow_ints.2 ⟨hom.more (Nat.zero_le _),rfl⟩)
 have HAl:=hide (show Below wB.heap.size wB (wB.alloc (.cells #[] 2)) from(Below.refl _ _).alloc (Nat.le_refl _) _)
 have HOM:=hide (wO hom HAl.out);have HBB:=hide (yJ HBA.out HBA.out.size (yJ hb hb.size HAl.out));have KRB:=hide ((KRA.out.below hb KRA.out.lt).alloc (.cells #[] 2));have HOB:=hide (T.ows_all (T.ows_all HOS.out hb) HAl.out);have hzB:=hb.size;have HMT:=hide (fun q hq=>(hom.lt q hq).2);have HD:=hide (vC wB);clear hb hom
 have cR:=KRB.out.cell;have fR:=KRB.out.free;have lR:=KRB.out.lt
 go_wp2
 refine bodyPost_ret (v:= .agg #[.int .i64 x.zF,.slice A1 L1 C1,.slice A2 L2 C2,.slice A3 L3 C3,.slice A4 L4 C4,.slice A5 L5 C5,.slice mA mL mC,.slice (some ⟨wB.heap.size,0,none⟩) 0 0]) (by simp[results,Tryz.results68,go_sem,cR,fR,lR]) rfl ?_
 obtain⟨k1,k2,k3⟩:=cacheM_own (s0:=W1.heap.size) (s1:=wA.heap.size) (s2:=wB.heap.size) HOB.out HND.out HLO.out HLT.out hzA HOM.out HMT.out hzB HD.out
 generalize hFF:F++(Value.slice mA mL mC).ownBlock.toList++(Value.slice (some ⟨wB.heap.size,0,none⟩) 0 0).ownBlock.toList=FF at *
 have hzR:w.heap.size ∉ FF:=fun hm=>by have:=k3 _ hm;omega
 have hzW:w.heap.size≤W1.heap.size:=HB1.out.size
 exact⟨_,_,_,_,_,_,_,FF,rfl,⟨(T.yP (T.yP (T.yP (T.yP (T.yP (T.yP (T.yP (T.yP k1 hzR _ _) hzR _ _) hzR _ _) hzR _ _) hzR _ _) hzR _ _) hzR _ _) hzR _ _),k2,fun q hq=>by have:=k3 q hq;omega,((((((((HBB.out.setCell so _).setCell so _).setCell so _).setCell so _).setCell so _).setCell so _).setCell so _).setCell so _)⟩⟩
theorem cache_sl7 {w:World} {x:wS} {p1 p2 p3 p4 p5 p6 p7:Value} (h:T.rds w x.fs [.int .i64 x.zT.zF,p1,p2,p3,p4,p5,p6,p7]):(∃ A l c,p1= .slice A l c)∧(∃ A l c,p2= .slice A l c)∧(∃ A l c,p3= .slice A l c)∧(∃ A l c,p4= .slice A l c)∧(∃ A l c,p5= .slice A l c)∧(∃ A l c,p6= .slice A l c)∧(∃ A l c,p7= .slice A l c):=by
 obtain⟨v1,v2,v3,v4,v5,v6,v7,e,h1,h2,h3,h4,h5,h6,h7⟩:=wS.yO h
 injection e with _ e;injection e with e1 e;injection e with e2 e;injection e with e3 e;injection e with e4 e;injection e with e5 e;injection e with e6 e;injection e with e7 e
 subst e1 e2 e3 e4 e5 e6 e7
 exact⟨T.yV h1,T.yV h2,T.yV h3,T.yV h4,T.yV h5,T.yV h6,T.yV h7⟩
theorem c_sMakeCache (x:xK) (cs:List Value) (w:World) (hs:x.small) (hg:x.good) (h:T.rds w x.fs cs):Calls Tryz.prog 25 #[.agg cs.toArray] w fun e w'=> ∃ v1 v2 v3 v4 v5 v6 v7 F,e= .returned (.tuple #[.agg #[.int .i64 (mkC x).1.zT.zF,v1,v2,v3,v4,v5,v6,v7],.int .i64 (mkC x).2])∧Nw w w' (mkC x).1.fs F [.int .i64 (mkC x).1.zT.zF,v1,v2,v3,v4,v5,v6,v7]:=by
 obtain⟨v1,v2,v3,v4,v5,rfl,h1,h2,h3,h4,h5⟩:=xK.yO h
 clear h
 have R1:=hide h1;obtain⟨va1,vc1,rfl,vl1,vm1,vx1⟩:=T.yN h1
 have HX1:=hide vx1;clear vx1 h1
 have R2:=hide h2;obtain⟨va2,vc2,rfl,vl2,vm2,vx2⟩:=T.yN h2
 have HX2:=hide vx2;clear vx2 h2
 have h3i:=T.yT.1 h3;obtain⟨va3,vc3,rfl,vl3,vm3,vx3⟩:=h3i.open_
 have R3:=hide h3i;have HX3:=hide vx3;clear vx3 h3 h3i
 have R4:=hide h4;obtain⟨va4,vc4,rfl,vl4,vm4,vx4⟩:=T.yN h4
 have HX4:=hide vx4;clear vx4 h4
 have R5:=hide h5;obtain⟨va5,vc5,rfl,vl5,vm5,vx5⟩:=T.yN h5
 have HX5:=hide vx5;clear vx5 h5
 have HB0:=hide (show Below w.heap.size w (w.alloc (.cells #[.int .i64 x.zF,(.slice va1 x.zL.length vc1),(.slice va2 x.zO.length vc2),(.slice va3 x.zQ.length vc3),(.slice va4 x.zP.length vc4),(.slice va5 x.zG.zC.length vc5)] 32)) from(Below.refl _ _).alloc (Nat.le_refl _) _)
 have HK0:=hide (Bk.born w 32 #[.int .i64 x.zF,(.slice va1 x.zL.length vc1),(.slice va2 x.zO.length vc2),(.slice va3 x.zQ.length vc3),(.slice va4 x.zP.length vc4),(.slice va5 x.zG.zC.length vc5)])
 have HSM:=hide hs;have HGD:=hide hg;clear hs hg
 have GX:=hide (show ∀ w',Below w.heap.size w w'→T.rds w' x.fs [.int .i64 x.zF,(.slice va1 x.zL.length vc1),(.slice va2 x.zO.length vc2),(.slice va3 x.zQ.length vc3),(.slice va4 x.zP.length vc4),(.slice va5 x.zG.zC.length vc5)] from fun w' hb=>xK.rd_mk (T.yF R1.out hb) (T.yF R2.out hb) (T.yT.2 (Rd.below R3.out hb)) (T.yF R4.out hb) (T.yF R5.out hb))
 have HBa:=hide (HB0.out.alloc (by simp) (.cells #[.int .i64 0,.slice none 0 0,.slice none 0 0,.slice none 0 0,.slice none 0 0,.slice none 0 0,.slice none 0 0,.slice none 0 0] 65));have HP:=hide (HK0.out.alloc (.cells #[.int .i64 0,.slice none 0 0,.slice none 0 0,.slice none 0 0,.slice none 0 0,.slice none 0 0,.slice none 0 0,.slice none 0 0] 65));have HR:Sec (Bk _ (w.heap.size+1) 65 #[.int .i64 0,.slice none 0 0,.slice none 0 0,.slice none 0 0,.slice none 0 0,.slice none 0 0,.slice none 0 0,.slice none 0 0]):=hide (Bk.born1' w (.cells #[.int .i64 x.zF,(.slice va1 x.zL.length vc1),(.slice va2 x.zO.length vc2),(.slice va3 x.zQ.length vc3),(.slice va4 x.zP.length vc4),(.slice va5 x.zG.zC.length vc5)] 32) 65 #[.int .i64 0,.slice none 0 0,.slice none 0 0,.slice none 0 0,.slice none 0 0,.slice none 0 0,.slice none 0 0,.slice none 0 0])
 clear HB0 HK0
 generalize hW:((w.alloc (.cells #[.int .i64 x.zF,(.slice va1 x.zL.length vc1),(.slice va2 x.zO.length vc2),(.slice va3 x.zQ.length vc3),(.slice va4 x.zP.length vc4),(.slice va5 x.zG.zC.length vc5)] 32)).alloc (.cells #[.int .i64 0,.slice none 0 0,.slice none 0 0,.slice none 0 0,.slice none 0 0,.slice none 0 0,.slice none 0 0,.slice none 0 0] 65))=W0 at *;have HW:=hide hW;clear hW
 go_enter Tryz.func25,Tryz.ntmps25
 go_wp2_with fail
 rw[HW.out]
 refine(c_l27Ok x _ _ _ HSM.out (T.at_bk HP.out (GX.out _ HBa.out))).mono ?_;rintro e w1 ⟨rfl,hb⟩
 have HB1:=hide (yJ HBa.out HBa.out.size hb);have HP1:=hide (HP.out.below hb HP.out.lt);have HR1:=hide (HR.out.below hb HR.out.lt);clear hb
 have cR:=HR1.out.cell;have fR:=HR1.out.free;have lR:=HR1.out.lt;have cP:=HP1.out.cell;have lP:=HP1.out.lt
 by_cases hv:vL x
 rotate_left
 ·
  rw[yZ hv];have HMK:=hide (mkC_no hv);clear hv
  go_wp2
  refine bodyPost_ret (v:= .tuple #[.agg #[.int .i64 0,.slice none 0 0,.slice none 0 0,.slice none 0 0,.slice none 0 0,.slice none 0 0,.slice none 0 0,.slice none 0 0],.int .i64 1]) (by simp[results,Tryz.results25,go_sem,cR,fR,lR]) rfl ?_
  rw[HMK.out];have hb:=HB1.out;exact⟨_,_,_,_,_,_,_,[],rfl,noneM_ows _,List.nodup_nil,by simp,ba⟩
 rw[xA hv];have HMK:=hide (mkC_yes hv);have HV:=hide hv;clear hv
 go_wp2_with fail
 refine(c_l31Make x _ _ _ HSM.out HV.out HGD.out (T.at_bk HP1.out (GX.out _ HB1.out))).mono ?_;rintro e w2 ⟨v1,v2,v3,v4,v5,v6,v7,F,rfl,hN⟩
 obtain⟨⟨A1,L1,C1,rfl⟩,⟨A2,L2,C2,rfl⟩,⟨A3,L3,C3,rfl⟩,⟨A4,L4,C4,rfl⟩,⟨A5,L5,C5,rfl⟩,⟨A6,L6,C6,rfl⟩,⟨A7,L7,C7,rfl⟩⟩:=cache_sl7 (T.ows_rds _ _ _ hN.ows)
 have hb:=hN.below;have HB2:=hide (yJ HB1.out HB1.out.size hb);have HR2:=hide (HR1.out.below hb HR1.out.lt);have HNN:=hide hN;clear hb hN cR fR lR cP lP
 have cR:=HR2.out.cell;have fR:=HR2.out.free;have lR:=HR2.out.lt;have lR1:=HR1.out.lt
 go_wp2
 refine bodyPost_ret (v:= .tuple #[.agg #[.int .i64 x.zF,.slice A1 L1 C1,.slice A2 L2 C2,.slice A3 L3 C3,.slice A4 L4 C4,.slice A5 L5 C5,.slice A6 L6 C6,.slice A7 L7 C7],.int .i64 0]) (by simp[results,Tryz.results25,go_sem,cR,fR,lR]) rfl ?_
 have hzR:(w.heap.size+1) ∉ F:=fun hm=>by have:=HNN.out.lo _ hm;omega
 have hz1:=HB1.out.size
 rw[HMK.out]
 exact⟨_,_,_,_,_,_,_,F,rfl,⟨(T.yP (T.yP (T.yP (T.yP (T.yP (T.yP (T.yP (T.yP HNN.out.ows hzR _ _) hzR _ _) hzR _ _) hzR _ _) hzR _ _) hzR _ _) hzR _ _) hzR _ _),HNN.out.nodup,fun q hq=>by have:=HNN.out.lo q hq;omega,((((((((HB2.out.setCell so _).setCell so _).setCell so _).setCell so _).setCell so _).setCell so _).setCell so _).setCell so _)⟩⟩
theorem c_iMakeCache (x:xK) (cs:List Value) (w:World) (hs:x.small) (hg:x.good) (h:T.rds w x.fs cs):Calls Tryz.prog 27 #[.agg cs.toArray] w fun e w'=> ∃ v1 v2 v3 v4 v5 v6 v7 F,e= .returned (.tuple #[.agg #[.int .i64 (mkC x).1.zT.zF,v1,v2,v3,v4,v5,v6,v7],.int .i64 (mkC x).2])∧Nw w w' (mkC x).1.fs F [.int .i64 (mkC x).1.zT.zF,v1,v2,v3,v4,v5,v6,v7]:=by
 obtain⟨v1,v2,v3,v4,v5,rfl,h1,h2,h3,h4,h5⟩:=xK.yO h
 clear h
 have R1:=hide h1;obtain⟨va1,vc1,rfl,vl1,vm1,vx1⟩:=T.yN h1
 have HX1:=hide vx1;clear vx1 h1
 have R2:=hide h2;obtain⟨va2,vc2,rfl,vl2,vm2,vx2⟩:=T.yN h2
 have HX2:=hide vx2;clear vx2 h2
 have h3i:=T.yT.1 h3;obtain⟨va3,vc3,rfl,vl3,vm3,vx3⟩:=h3i.open_
 have R3:=hide h3i;have HX3:=hide vx3;clear vx3 h3 h3i
 have R4:=hide h4;obtain⟨va4,vc4,rfl,vl4,vm4,vx4⟩:=T.yN h4
 have HX4:=hide vx4;clear vx4 h4
 have R5:=hide h5;obtain⟨va5,vc5,rfl,vl5,vm5,vx5⟩:=T.yN h5
 have HX5:=hide vx5;clear vx5 h5
 have HB0:=hide (show Below w.heap.size w (w.alloc (.cells #[.int .i64 x.zF,(.slice va1 x.zL.length vc1),(.slice va2 x.zO.length vc2),(.slice va3 x.zQ.length vc3),(.slice va4 x.zP.length vc4),(.slice va5 x.zG.zC.length vc5)] 32)) from(Below.refl _ _).alloc (Nat.le_refl _) _)
 have HK0:=hide (Bk.born w 32 #[.int .i64 x.zF,(.slice va1 x.zL.length vc1),(.slice va2 x.zO.length vc2),(.slice va3 x.zQ.length vc3),(.slice va4 x.zP.length vc4),(.slice va5 x.zG.zC.length vc5)])
 have HSM:=hide hs;have HGD:=hide hg;clear hs hg
 have GX:=hide (show ∀ w',Below w.heap.size w w'→T.rds w' x.fs [.int .i64 x.zF,(.slice va1 x.zL.length vc1),(.slice va2 x.zO.length vc2),(.slice va3 x.zQ.length vc3),(.slice va4 x.zP.length vc4),(.slice va5 x.zG.zC.length vc5)] from fun w' hb=>xK.rd_mk (T.yF R1.out hb) (T.yF R2.out hb) (T.yT.2 (Rd.below R3.out hb)) (T.yF R4.out hb) (T.yF R5.out hb))
 have HBa:=hide (HB0.out.alloc (by simp) (.cells #[.int .i64 0,.slice none 0 0,.slice none 0 0,.slice none 0 0,.slice none 0 0,.slice none 0 0,.slice none 0 0,.slice none 0 0] 65));have HP:=hide (HK0.out.alloc (.cells #[.int .i64 0,.slice none 0 0,.slice none 0 0,.slice none 0 0,.slice none 0 0,.slice none 0 0,.slice none 0 0,.slice none 0 0] 65));have HR:Sec (Bk _ (w.heap.size+1) 65 #[.int .i64 0,.slice none 0 0,.slice none 0 0,.slice none 0 0,.slice none 0 0,.slice none 0 0,.slice none 0 0,.slice none 0 0]):=hide (Bk.born1' w (.cells #[.int .i64 x.zF,(.slice va1 x.zL.length vc1),(.slice va2 x.zO.length vc2),(.slice va3 x.zQ.length vc3),(.slice va4 x.zP.length vc4),(.slice va5 x.zG.zC.length vc5)] 32) 65 #[.int .i64 0,.slice none 0 0,.slice none 0 0,.slice none 0 0,.slice none 0 0,.slice none 0 0,.slice none 0 0,.slice none 0 0])
 clear HB0 HK0
 generalize hW:((w.alloc (.cells #[.int .i64 x.zF,(.slice va1 x.zL.length vc1),(.slice va2 x.zO.length vc2),(.slice va3 x.zQ.length vc3),(.slice va4 x.zP.length vc4),(.slice va5 x.zG.zC.length vc5)] 32)).alloc (.cells #[.int .i64 0,.slice none 0 0,.slice none 0 0,.slice none 0 0,.slice none 0 0,.slice none 0 0,.slice none 0 0,.slice none 0 0] 65))=W0 at *;have HW:=hide hW;clear hW
 go_enter Tryz.func27,Tryz.ntmps27
 go_wp2_with fail
 rw[HW.out]
 refine(c_isSession x _ _ HSM.out (GX.out _ HBa.out)).mono ?_;rintro e w1 ⟨rfl,hb⟩
 have HB1:=hide (yJ HBa.out HBa.out.size hb);have HP1:=hide (HP.out.below hb HP.out.lt);have HR1:=hide (HR.out.below hb HR.out.lt);clear hb
 have cR:=HR1.out.cell;have fR:=HR1.out.free;have lR:=HR1.out.lt;have cP:=HP1.out.cell;have lP:=HP1.out.lt
 by_cases hv:vL x
 rotate_left
 ·
  rw[yZ hv];have HMK:=hide (mkC_no hv);clear hv
  go_wp2
  refine bodyPost_ret (v:= .tuple #[.agg #[.int .i64 0,.slice none 0 0,.slice none 0 0,.slice none 0 0,.slice none 0 0,.slice none 0 0,.slice none 0 0,.slice none 0 0],.int .i64 1]) (by simp[results,Tryz.results27,go_sem,cR,fR,lR]) rfl ?_
  rw[HMK.out];have hb:=HB1.out;exact⟨_,_,_,_,_,_,_,[],rfl,noneM_ows _,List.nodup_nil,by simp,ba⟩
 rw[xA hv];have HMK:=hide (mkC_yes hv);have HV:=hide hv;clear hv
 go_wp2
 have HDr:=hide ((Below.refl w1.heap.size w1).drew);have HKP:=hide (fun(w':World) (hw:Below w1.heap.size w1 w')=>((HP1.out.below hw HP1.out.lt).cell: ∀ i,w'.cell? ⟨w.heap.size,i,none⟩= #[.int .i64 x.zF,(.slice va1 x.zL.length vc1),(.slice va2 x.zO.length vc2),(.slice va3 x.zQ.length vc3),(.slice va4 x.zP.length vc4),(.slice va5 x.zG.zC.length vc5)][i]?))
 clear cR fR lR cP lP
 refine wE (fun w'=> ∀ i,w'.cell? ⟨w.heap.size,i,none⟩= #[.int .i64 x.zF,(.slice va1 x.zL.length vc1),(.slice va2 x.zO.length vc2),(.slice va3 x.zQ.length vc3),(.slice va4 x.zP.length vc4),(.slice va5 x.zG.zC.length vc5)][i]?) [5,6] (by kernel_rfl) ?_ (fun hS0=>?_)
 ·exact HKP.out _ HDr.out
 generalize hwd:w1.drew=wd at *;clear hwd
 refine tN 0 hS0 ?_
 refine tN 2 hS0 ?_
 refine oN 1 (fun K hK=>?_)
 go_simp
 go_wp2_with (go_at_call 45;refine(c_copySession x _ _ HSM.out (GX.out _ (yJ HB1.out HB1.out.size HDr.out))).mono ?_;rintro e w2 ⟨v1,v2,v3,v4,v5,F,rfl,hN⟩)
 obtain⟨⟨A1,L1,C1,rfl⟩,⟨A2,L2,C2,rfl⟩,⟨A3,L3,C3,rfl⟩,⟨A4,L4,C4,rfl⟩,⟨A5,L5,C5,rfl⟩⟩:=xK.sl5 (T.ows_rds _ _ _ hN.ows)
 have hb:=hN.below;have HD2:=hide (yJ HDr.out HDr.out.size hb);have HOS:=hide hN.ows;have HLO:=hide hN.lo;have HND:=hide hN.nodup;have HLT:=hide hN.lt;have hz2:=hb.size;clear hb hN
 refine uN hK ?_ (fun hS1=>?_)
 ·exact HKP.out _ HD2.out
 clear hK K hS0
 refine oN 3 (fun K hK=>?_)
 go_simp
 go_wp2_with (go_at_call 61;refine(c_mix x _ _ HV.out HGD.out (GX.out _ (yJ HB1.out HB1.out.size HD2.out))).mono ?_;rintro e w3 ⟨vm,rfl,hom,hb⟩)
 obtain⟨mA,mL,mC,rfl⟩:=T.yX (T.ow_ints.2 ⟨hom.more (Nat.zero_le _),rfl⟩)
 have HD3:=hide (yJ HD2.out HD2.out.size hb);have HOM:=hide hom;have HOS3:=hide (T.ows_all HOS.out hb);have hz3:=hb.size;clear hb hom
 refine uN hK ?_ (fun hS2=>?_)
 ·exact HKP.out _ HD3.out
 clear hK K hS1
 refine tN 4 hS2 ?_
 refine wpAnyN_tail2 (i:=5) (j:=6) (o:=_) (o2:=_) (by kernel_rfl) rfl (by kernel_rfl) rfl (by kernel_rfl) (by decide) (by decide) ?_
 have HR3:=hide (HR1.out.below HD3.out HR1.out.lt);have cR:=HR3.out.cell;have fR:=HR3.out.free;have lR:=HR3.out.lt;have HB3:=hide (yJ HB1.out HB1.out.size HD3.out);have lR1:=HR1.out.lt
 go_wp2
 refine bodyPost_ret (v:= .tuple #[.agg #[.int .i64 x.zF,.slice A1 L1 C1,.slice A2 L2 C2,.slice A3 L3 C3,.slice A4 L4 C4,.slice A5 L5 C5,.slice mA mL mC,.slice none 0 0],.int .i64 0]) (by simp[results,Tryz.results27,go_sem,cR,fR,lR]) rfl ?_
 obtain⟨k1,k2,k3⟩:=cacheM_own (s0:=wd.heap.size) (s1:=w2.heap.size) (s2:=w3.heap.size) HOS3.out HND.out HLO.out HLT.out hz2 HOM.out (fun q hq=>(HOM.out.lt q hq).2) hz3 (OwI.nil_ _ _ _)
 generalize hFF:F++(Value.slice mA mL mC).ownBlock.toList++(Value.slice none 0 0).ownBlock.toList=FF at *
 have hzd:=HDr.out.size;have hz1:=HB1.out.size
 have hzR:(w.heap.size+1) ∉ FF:=fun hm=>by have:=k3 _ hm;omega
 rw[HMK.out]
 exact⟨_,_,_,_,_,_,_,FF,rfl,⟨(T.yP (T.yP (T.yP (T.yP (T.yP (T.yP (T.yP (T.yP k1 hzR _ _) hzR _ _) hzR _ _) hzR _ _) hzR _ _) hzR _ _) hzR _ _) hzR _ _),k2,fun q hq=>by have:=k3 q hq;omega,((((((((HB3.out.setCell so _).setCell so _).setCell so _).setCell so _).setCell so _).setCell so _).setCell so _).setCell so _)⟩⟩
end
section
open Go.RowKit
theorem cntL_bd {α:Type} {c:α→Nat} {B:Nat} : ∀ {xs:List α},(∀ x ∈ xs,c x≤B)→wF c xs≤xs.length * B
 | [],_=>by simp[wF]
 |x :: r,h=>by
  have h1:=h x (by simp)
  have h2:=cntL_bd (xs:=r) (fun y hy=>h y (by simp[hy]))
  simp only[wF,List.length_cons,Nat.add_mul]
  omega
theorem uZ {α:Type} {c:α→Nat} {B N:Nat} {xs:List α} (h: ∀ x ∈ xs,c x≤B) (hl:xs.length≤N):wF c xs≤N * B:=
 Nat.le_trans (cntL_bd h) (Nat.mul_le_mul_right B hl)
theorem xI.cnt_le {x:xI} (h:x.small):x.cnt≤5242880:=by
 have b0:=uZ (c:=xL.cnt) (xs:=x.zR) (B:=5) (N:=1048576) (fun y _=>Nat.le_refl _) h
 unfold xI.cnt
 omega
theorem xJ.cnt_le {x:xJ} (h:x.small):x.cnt≤1048579:=by
 have b3:x.zH.length≤1048576:=h
 unfold xJ.cnt
 omega
theorem xG.cnt_le {x:xG} (h:x.small):x.cnt≤2199027449857:=by
 have b1:=uZ (c:=List.length) (B:=1048576) (N:=1048576) h.1.2 h.1.1
 have b2:=uZ (c:=xJ.cnt) (B:=1048579) (N:=1048576) (fun y hy=>xJ.cnt_le (h.2.1.2 y hy)) h.2.1.1
 have b3:x.zK.length≤1048576:=h.2.2
 unfold xG.cnt
 omega
theorem xH.cnt_le {x:xH} (h:x.small):x.cnt≤2097154:=by
 have b2:=uZ (c:=xM.cnt) (xs:=x.zM) (B:=2) (N:=1048576) (fun y _=>Nat.le_refl _) h.2
 unfold xH.cnt
 omega
theorem xK.cntv_le {x:xK} (h:x.small):x.cntv≤4611686018000000000:=by
 have b1:=uZ (c:=List.length) (B:=1048576) (N:=1048576) h.1.2 h.1.1
 have b2:=uZ (c:=xI.cnt) (B:=5242880) (N:=1048576) (fun y hy=>xI.cnt_le (h.2.1.2 y hy)) h.2.1.1
 have b3:x.zQ.length≤1048576:=h.2.2.1
 have b4:=uZ (c:=xG.cnt) (B:=2199027449857) (N:=1048576) (fun y hy=>xG.cnt_le (h.2.2.2.1.2 y hy)) h.2.2.2.1.1
 have b5:=uZ (c:=xH.cnt) (B:=2097154) (N:=1048576) (fun y hy=>xH.cnt_le (h.2.2.2.2.2 y hy)) h.2.2.2.2.1
 simp only[xK.cntv,xU.cntv]
 omega
theorem bo_toSession (x:xK) (cs:List Value) (w:World) (hs:x.small) (h:T.rds w x.fs cs):Calls Tryz.prog 26 #[.agg cs.toArray] w fun e w'=> ∃ ds F,e= .returned (.agg ds.toArray)∧Nw w w' x.fs F ds:=by
 obtain⟨v1,v2,v3,v4,v5,rfl,h1,h2,h3,h4,h5⟩:=xK.yO h
 refine(c_toSession x _ _ _ _ _ w hs h1 h2 h3 h4 h5).mono ?_
 rintro e w' ⟨u1,F1,u2,F2,u3,F3,u4,F4,u5,F5,rfl,o1,o2,o3,o4,o5,sg,hb⟩
 have ha:=sg.all
 simp only[List.flatten_cons,List.flatten_nil] at ha
 exact⟨_,_,rfl,xK.ow_mk o1 o2 o3 o4 o5,ha.1,fun b hb=>(ha.2 b hb).1,hb⟩
theorem bo_markSession (x:xK) (cs:List Value) (F:List Nat) (m:Nat) (w:World) (h0:0<m) (hm:m+x.cntv≤4611686018427387904) (h:T.ows w x.fs F cs) (hn:F.Nodup):Calls Tryz.prog 29 #[.agg cs.toArray,.int .i64 (m:Int)] w fun e w'=>e= .returned (.int .i64 ((m+x.cntv:Nat):Int))∧T.ows w' (x.mkv m).fs F cs∧Trn F w w':=by
 obtain⟨v1,v2,v3,v4,v5,F1,F2,F3,F4,F5,rfl,rfl,h1,h2,h3,h4,h5⟩:=xK.ow_open h
 refine(c_markSession x _ _ _ _ _ _ _ _ _ _ m w h0 hm h1 h2 h3 h4 h5 hn).mono ?_
 rintro e w' ⟨rfl,o1,o2,o3,o4,o5,ht⟩
 exact⟨rfl,xK.ow_mk (x:=x.mkv m) o1 o2 o3 o4 o5,ht⟩
theorem wS.cntv_le {x:wS} (h:x.small):x.cntv≤4611686018000000000:=by
 have b1:=uZ (c:=List.length) (B:=1048576) (N:=1048576) h.1.2 h.1.1
 have b2:=uZ (c:=xI.cnt) (B:=5242880) (N:=1048576) (fun y hy=>xI.cnt_le (h.2.1.2 y hy)) h.2.1.1
 have b3:x.zT.zQ.length≤1048576:=h.2.2.1
 have b4:=uZ (c:=xG.cnt) (B:=2199027449857) (N:=1048576) (fun y hy=>xG.cnt_le (h.2.2.2.1.2 y hy)) h.2.2.2.1.1
 have b5:=uZ (c:=xH.cnt) (B:=2097154) (N:=1048576) (fun y hy=>xH.cnt_le (h.2.2.2.2.1.2 y hy)) h.2.2.2.2.1.1
 have b6:x.zZ.length≤1048576:=h.2.2.2.2.2.1
 have b7:x.zY.length≤1048576:=h.2.2.2.2.2.2
 simp only[wS.cntv,xK.cntv,xU.cntv]
 omega
theorem bo_markCache (x:wS) (cs:List Value) (F:List Nat) (m:Nat) (w:World) (h0:0<m) (hm:m+x.cntv≤4611686018427387904) (h:T.ows w x.fs F cs) (hn:F.Nodup):Calls Tryz.prog 30 #[.agg cs.toArray,.int .i64 (m:Int)] w fun e w'=>e= .returned (.int .i64 ((m+x.cntv:Nat):Int))∧T.ows w' (x.mkv m).fs F cs∧Trn F w w':=by
 obtain⟨v1,v2,v3,v4,v5,v6,v7,F1,F2,F3,F4,F5,F6,F7,rfl,rfl,h1,h2,h3,h4,h5,h6,h7⟩:=wS.ow_open h
 refine(c_markCache x _ _ _ _ _ _ _ _ _ _ _ _ _ _ m w h0 hm h1 h2 h3 h4 h5 h6 h7 hn).mono ?_
 rintro e w' ⟨rfl,o1,o2,o3,o4,o5,o6,o7,ht⟩
 exact⟨rfl,wS.ow_mk (x:=x.mkv m) o1 o2 o3 o4 o5 o6 o7,ht⟩
theorem bo_heldCache (x:wS) (cs:List Value) (m:Nat) (w:World) (h0:0<m) (hm:m+x.cntv≤4611686018427387904) (h:T.rds w (x.mkv m).fs cs):Calls Tryz.prog 31 #[.agg cs.toArray,.int .i64 (m:Int)] w fun e w'=>e= .returned (.int .i64 ((m+x.cntv:Nat):Int))∧Below w.heap.size w w':=by
 obtain⟨v1,v2,v3,v4,v5,v6,v7,rfl,h1,h2,h3,h4,h5,h6,h7⟩:=wS.yO h
 exact c_heldCache x _ _ _ _ _ _ _ _ m w h0 hm h1 h2 h3 h4 h5 h6 h7
end
section
open Go.RowKit
theorem b_szSession (x:xK) (cs:List Value) (n:Int) (w:World) (hn:0≤n) (hm:n≤1048576) (hg:x.good) (h:T.rds w x.fs cs):Calls Tryz.prog 24 #[.agg cs.toArray,.int .i64 n] w fun e w'=> ∃ m:Int,e= .returned (.int .i64 m)∧ -1≤m∧m≤n∧(0≤m→x.small)∧Below w.heap.size w w':=by
 obtain⟨v1,v2,v3,v4,v5,rfl,h1,h2,h3,h4,h5⟩:=xK.yO h
 exact c_szSession x _ _ _ _ _ n w hn hm hg h1 h2 h3 h4 h5
end
section
open Go.ChangeShapes
theorem words_pre: ∀ (a r:List Char),(a.all fun c=>c != Char.ofNat 32)=true→wordsSigns (a++Char.ofNat 32 :: r)=a :: wordsSigns r
 | [],r,_=>rfl
 |c :: a,r,h=>by
  simp only[List.all_cons,Bool.and_eq_true,bne_iff_ne,ne_eq] at h
  have ih:=words_pre a r (by simpa using h.2)
  rw[List.cons_append]
  conv=>lhs;unfold wordsSigns
  split
  ·rename_i e;cases e
  ·rename_i e
   injection e with e1 _
   exact absurd e1 h.1
  ·rename_i e
   injection e with e1 e2
   subst e1 e2
   rw[ih]
theorem head_list: ∃ l,Tryz.prog.initOrder=String.ofList l∧("harness e82b0b89ba27765a464d549177c32b2184cc887a43bee21ac0e0d4633859cc82 cut ".toList).isPrefixOf l=true:=by
 refine⟨_,rfl,?_⟩
 kernel_rfl
theorem head_words: ∃ X,wordsSigns Tryz.prog.initOrder.toList= "harness".toList :: "e82b0b89ba27765a464d549177c32b2184cc887a43bee21ac0e0d4633859cc82".toList :: "cut".toList :: X:=by
 obtain⟨l,hl,hp⟩:=head_list
 obtain⟨r,hr⟩:=List.isPrefixOf_iff_prefix.1 hp
 have e: "harness e82b0b89ba27765a464d549177c32b2184cc887a43bee21ac0e0d4633859cc82 cut ".toList= "harness".toList++Char.ofNat 32 :: ("e82b0b89ba27765a464d549177c32b2184cc887a43bee21ac0e0d4633859cc82".toList++Char.ofNat 32 :: ("cut".toList++ [Char.ofNat 32])):=by kernel_rfl
 refine⟨wordsSigns r,?_⟩
 rw[hl,String.toList_ofList,←hr,e]
 simp only[List.append_assoc,List.cons_append,List.nil_append]
 rw[words_pre _ _ (by kernel_rfl),words_pre _ _ (by kernel_rfl),words_pre _ _ (by kernel_rfl)]
theorem behind: ∃ X,behindMainWord (wordsSigns Tryz.prog.initOrder.toList)= "cut".toList :: X:=by
 obtain⟨X,hX⟩:=head_words
 refine⟨X,?_⟩
 rw[hX]
 have e1:("harness".toList == "harness".toList || "harness".toList == "ownmain".toList)=true:=by kernel_rfl
 have e2:isSumSigns "e82b0b89ba27765a464d549177c32b2184cc887a43bee21ac0e0d4633859cc82".toList=true:=by kernel_rfl
 unfold behindMainWord
 dsimp only
 rw[e1,e2];rfl
section
variable {P:Program} {X:List (List Char)}
theorem make_of (hX:behindMainWord (wordsSigns P.initOrder.toList)= "cut".toList :: X):P.make=some .cut:=by
 unfold Program.make
 rw[hX];rfl
theorem lifts_of (X:List (List Char)):stripLifts liftWords ("cut".toList :: X)=([], "cut".toList :: X):=rfl
theorem headLifts_of (hX:behindMainWord (wordsSigns P.initOrder.toList)= "cut".toList :: X):P.headLifts= []:=by
 unfold Program.headLifts
 rw[hX,lifts_of];rfl
theorem liftsFinal_of (hX:behindMainWord (wordsSigns P.initOrder.toList)= "cut".toList :: X):P.liftsFinal=false:=by
 unfold Program.liftsFinal
 rw[hX,headLifts_of hX];rfl
theorem mayEnter_of (hX:behindMainWord (wordsSigns P.initOrder.toList)= "cut".toList :: X) (h1:P.laysLater=false) (h2:P.bearsReflect=false) (h3:P.doorFits []=true):P.mayEnter=true:=by
 unfold Program.mayEnter
 rw[hX]
 dsimp only
 rw[lifts_of,h1,h2,h3]
 rfl
end
theorem make_is:Tryz.prog.make=some .cut:=by
 obtain⟨X,hX⟩:=behind
 exact make_of hX
theorem liftsFinal_is:Tryz.prog.liftsFinal=false:=by
 obtain⟨X,hX⟩:=behind
 exact liftsFinal_of hX
theorem mayEnter_is:Tryz.prog.mayEnter=true:=by
 obtain⟨X,hX⟩:=behind
 exact mayEnter_of hX (by kernel_rfl) (by kernel_rfl) (by kernel_rfl)
theorem laidOut_is:laidOutB Tryz.prog=true:=by kernel_rfl
theorem own_is:ownKnob Tryz.prog.godebug=none:=by kernel_rfl
end
end Go.Proofs.YtoibekfhepnedaaGreat
