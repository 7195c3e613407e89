/- Contracts: l31Edit, EditCache, reference. -/
import Derived.Test.YteiflbhcehajkaaGreatQAuExactEditCache
import Derived.Test.YteiflbhcehajkaaGreatQBkExactEditCache
import Derived.Test.YteiflbhcehajkaaGreatQBpExactEditCache
import Derived.Test.YteiflbhcehajkaaGreatQAwExactEditCache
set_option linter.unusedVariables false
set_option linter.unusedSimpArgs false
set_option maxHeartbeats 8000000
set_option maxRecDepth 100000
namespace Go.Proofs.YteiflbhcehajkaaGreat
open Go.RowKit
theorem cache_own {w:World} {s:GSession} {m d:List Int} {F:List Nat} {c1:List Value} {vm vd:Value} {s0 s1 s2:Nat} (h:T.ows w s.fs F c1) (nd:F.Nodup) (h0: ∀ b ∈ F,s0≤b) (hlt: ∀ b ∈ F,b<s1) (h01:s0≤s1) (hd:OwI 2 w s1 vd d) (hd2: ∀ b,vd.ownBlock=some b→b<s2) (hm:OwI 2 w s2 vm m) (hs:s1≤s2):
  T.ows w (GCache.fs ⟨s,m,d⟩) (F++vm.ownBlock.toList++vd.ownBlock.toList) (c1++ [vm]++ [vd])∧(F++vm.ownBlock.toList++vd.ownBlock.toList).Nodup∧ ∀ b ∈ F++vm.ownBlock.toList++vd.ownBlock.toList,s0≤b:=by
 have km: ∀ b ∈ vm.ownBlock.toList,s2≤b:=fun b hb=>(OwI.lt hm b (by simpa using hb)).1
 have kd: ∀ b ∈ vd.ownBlock.toList,s1≤b∧b<s2:=fun b hb=>⟨(OwI.lt hd b (by simpa using hb)).1,hd2 b (by simpa using hb)⟩
 have n1: ∀ v:Value,v.ownBlock.toList.Nodup:=fun v=>by cases v.ownBlock<;>simp
 refine⟨T.ows_snoc (T.ows_snoc h (T.ow_ints.2 ⟨hm.more (Nat.zero_le _),rfl⟩)) (T.ow_ints.2 ⟨hd.more (Nat.zero_le _),rfl⟩),?_,?_⟩
 ·rw[List.nodup_append,List.nodup_append]
  refine⟨⟨nd,n1 vm,fun a ha b hb e=>?_⟩,n1 vd,fun a ha b hb e=>?_⟩
  ·subst e;have h1:=hlt a ha;have h2:=km a hb;omega
  ·subst e
   have h2:=kd a hb
   rcases List.mem_append.1 ha with ha|ha
   ·have h1:=hlt a ha;omega
   ·have h1:=km a ha;omega
 ·intro b hb
  rcases List.mem_append.1 hb with hb|hb
  ·rcases List.mem_append.1 hb with hb|hb
   ·exact h0 b hb
   ·have:=km b hb;omega
  ·have:=(kd b hb).1;omega
theorem dirty_len {c:GCache} (h:CacheOk c):c.zU.length≤63:=by
 have hl:=yY.1 h.session.length
 refine nodup_bound (n:=63) ((up_of_dirty h).imp (fun h=>Int.ne_of_lt h)) (fun y hy=>?_)
 have:=dirty_in h y hy
 unfold blocksF at this
 omega
theorem editC_no {c:GCache} {e:GEdit} (hv:CacheOk c) (h: ¬ (applyF c.zB e).2=0):editC c e=(noCache,(applyF c.zB e).2):=by unfold editC;rw[if_pos (yW hv),if_neg h]
theorem editC_yes {c:GCache} {e:GEdit} (hv:CacheOk c) (h:(applyF c.zB e).2=0):editC c e=(cacheE c e,0):=by unfold editC;rw[if_pos (yW hv),if_pos h]
theorem editC_bad {c:GCache} {e:GEdit} (hv: ¬ CacheOk c):editC c e=(noCache,1):=by unfold editC;rw[if_neg (by rw[yV hv];simp)]
theorem noneC_ows (w:World):T.ows w noCache.fs [] [.int .i64 0,.slice none 0 0,.slice none 0 0,.slice none 0 0,.slice none 0 0,.slice none 0 0,.slice none 0 0,.slice none 0 0]:=by
 have h:=none_ows w
 exact T.ows_snoc (T.ows_snoc h (T.ow_ints.2 ⟨OwI.nil_ _ _ _,rfl⟩)) (T.ow_ints.2 ⟨OwI.nil_ _ _ _,rfl⟩)
theorem GCache.sl7 {w:World} {x:GCache} {p1 p2 p3 p4 p5 p6 p7:Value} (h:T.rds w x.fs [.int .i64 x.zB.zA,p1,p2,p3,p4,p5,p6,p7]):(∃ A l c,p1= .slice A l c)∧(∃ A l c,p2= .slice A l c)∧(∃ A l c,p3= .slice A l c)∧(∃ A l c,p4= .slice A l c)∧(∃ A l c,p5= .slice A l c)∧(∃ A l c,p6= .slice A l c)∧ ∃ A l c,p7= .slice A l c:=by
 obtain⟨v1,v2,v3,v4,v5,v6,v7,e,h1,h2,h3,h4,h5,h6,h7⟩:=GCache.yL h
 simp only[List.cons.injEq,and_true,true_and] at e
 obtain⟨rfl,rfl,rfl,rfl,rfl,rfl,rfl⟩:=e
 exact⟨T.yS h1,T.yS h2,T.yS h3,T.yS h4,T.yS h5,T.yS h6,T.yS h7⟩
theorem c_l31Edit (x:GCache) (b o:Nat) (ed:GEdit) (b' o':Nat) (w:World) (hs:x.small) (hv:CacheOk x) (he:T.at w ed.fs b' o') (h:T.at w x.fs b o):Calls Tryz.prog 54 #[.pointer (some ⟨b,o,none⟩),.pointer (some ⟨b',o',none⟩)] w fun e w'=> ∃ v1 v2 v3 v4 v5 v6 v7 F,e= .returned (.tuple #[.agg #[.int .i64 (editC x ed).1.zB.zA,v1,v2,v3,v4,v5,v6,v7],.int .i64 (editC x ed).2])∧Nw w w' (editC x ed).1.fs F [.int .i64 (editC x ed).1.zB.zA,v1,v2,v3,v4,v5,v6,v7]:=by
 have HAT:=hide h
 obtain⟨hlt0,cs,hr,hc⟩:=h
 obtain⟨v1,v2,v3,v4,v5,v6,v7,rfl,h1,h2,h3,h4,h5,h6,h7⟩:=GCache.yL hr
 clear hr
 have R1:=hide h1;obtain⟨va1,vc1,rfl,vl1,vm1,vx1⟩:=T.yK h1
 have HX1:=hide vx1;clear vx1 h1
 have R2:=hide h2;obtain⟨va2,vc2,rfl,vl2,vm2,vx2⟩:=T.yK h2
 have HX2:=hide vx2;clear vx2 h2
 have h3i:=T.yQ.1 h3;obtain⟨va3,vc3,rfl,vl3,vm3,vx3⟩:=h3i.open_
 have R3:=hide h3i;have HX3:=hide vx3;clear vx3 h3 h3i
 have R4:=hide h4;obtain⟨va4,vc4,rfl,vl4,vm4,vx4⟩:=T.yK h4
 have HX4:=hide vx4;clear vx4 h4
 have R5:=hide h5;obtain⟨va5,vc5,rfl,vl5,vm5,vx5⟩:=T.yK h5
 have HX5:=hide vx5;clear vx5 h5
 have h6i:=T.yQ.1 h6;obtain⟨va6,vc6,rfl,vl6,vm6,vx6⟩:=h6i.open_
 have R6:=hide h6i;have HX6:=hide vx6;clear vx6 h6 h6i
 have h7i:=T.yQ.1 h7;obtain⟨va7,vc7,rfl,vl7,vm7,vx7⟩:=h7i.open_
 have R7:=hide h7i;have HX7:=hide vx7;clear vx7 h7 h7i
 have HL:=hide hlt0;have HCC:=hide hc;have HB0:=hide (Below.refl w.heap.size w);clear hlt0 hc
 have HV:=hide hv;have HEAT:=hide he;have HSM:=hide (show x.zB.small from⟨hs.1,hs.2.1,hs.2.2.1,hs.2.2.2.1,hs.2.2.2.2.1⟩);have hml:x.yA.length≤1048576:=hs.2.2.2.2.2.1;have hdl:=dirty_len hv;clear hs hv he
 have HATS:=hide (show T.at w x.zB.fs b o from T.at_sub [] [.int .i64 x.zB.zA,(.slice va1 x.zB.zG.length vc1),(.slice va2 x.zB.zE.length vc2),(.slice va3 x.zB.zK.length vc3),(.slice va4 x.zB.zJ.length vc4),(.slice va5 x.zB.zF.zD.length vc5)] [(.slice va6 x.yA.length vc6),(.slice va7 x.zU.length vc7)] HL.out HCC.out (GSession.rd_mk R1.out R2.out (T.yQ.2 R3.out) R4.out R5.out))
 have EN_:=hide (fun h=>editC_no (e:=ed) HV.out h);have EY:=hide (fun h=>editC_yes (e:=ed) HV.out h)
 have OK:=hide (@applyF_ok x.zB ed)
 have CE:=hide (show cacheE x ed=⟨(applyF x.zB ed).1,x.yA,marksF x.zU (rangeOf x.zB ed).1 (rangeOf x.zB ed).2 (blocksF x.zB.zA).toNat⟩ from rfl)
 have HB1:=hide (show Below w.heap.size w (w.alloc (.cells #[.int .i64 0,.slice none 0 0,.slice none 0 0,.slice none 0 0,.slice none 0 0,.slice none 0 0,.slice none 0 0,.slice none 0 0] 43)) from(Below.refl _ _).alloc (Nat.le_refl _) _);have KR1:=hide (Bk.born w 43 #[.int .i64 0,.slice none 0 0,.slice none 0 0,.slice none 0 0,.slice none 0 0,.slice none 0 0,.slice none 0 0,.slice none 0 0])
 generalize hW1:(w.alloc (.cells #[.int .i64 0,.slice none 0 0,.slice none 0 0,.slice none 0 0,.slice none 0 0,.slice none 0 0,.slice none 0 0,.slice none 0 0] 43))=W1 at *;have HW1:=hide hW1;clear hW1
 generalize hEC:editC x ed=EC at *;clear hEC
 go_enter Tryz.func54,Tryz.ntmps54
 go_wp2_with fail
 rw[HW1.out]
 refine(c_l31Apply x.zB b o ed b' o' _ HSM.out (T.at_below HEAT.out HB1.out) (T.at_below HATS.out HB1.out)).mono ?_;rintro e wA ⟨v1,v2,v3,v4,v5,F,rfl,hN⟩
 obtain⟨⟨A1,L1,C1,rfl⟩,⟨A2,L2,C2,rfl⟩,⟨A3,L3,C3,rfl⟩,⟨A4,L4,C4,rfl⟩,⟨A5,L5,C5,rfl⟩⟩:=GSession.sl5 (T.ows_rds _ _ _ hN.ows)
 generalize applyF x.zB ed=AF at *
 have hb:=hN.below;have hFl:=hN.lt
 have HBA:=hide (yG HB1.out HB1.out.size hb);have KRA:=hide (KR1.out.below hb KR1.out.lt)
 have HLO:=hide hN.lo;have HND:=hide hN.nodup
 have HB2:=hide (HBA.out.alloc HBA.out.size (.cells #[.int .i64 AF.1.zA,.slice A1 L1 C1,.slice A2 L2 C2,.slice A3 L3 C3,.slice A4 L4 C4,.slice A5 L5 C5] 41));have KR2:=hide (KRA.out.alloc (.cells #[.int .i64 AF.1.zA,.slice A1 L1 C1,.slice A2 L2 C2,.slice A3 L3 C3,.slice A4 L4 C4,.slice A5 L5 C5] 41));have KS2:=hide (Bk.born wA 41 #[.int .i64 AF.1.zA,.slice A1 L1 C1,.slice A2 L2 C2,.slice A3 L3 C3,.slice A4 L4 C4,.slice A5 L5 C5])
 have HO2:=hide (T.ows_all hN.ows (show Below _ _ (wA.alloc (.cells #[.int .i64 AF.1.zA,.slice A1 L1 C1,.slice A2 L2 C2,.slice A3 L3 C3,.slice A4 L4 C4,.slice A5 L5 C5] 41)) from(Below.refl _ _).alloc (Nat.le_refl _) _))
 have HFL:=hide (show ∀ q ∈ F,q<(wA.alloc (.cells #[.int .i64 AF.1.zA,.slice A1 L1 C1,.slice A2 L2 C2,.slice A3 L3 C3,.slice A4 L4 C4,.slice A5 L5 C5] 41)).heap.size from fun q hq=>by have:=hFl q hq;simp;omega)
 have HFS:=hide (show wA.heap.size ∉ F from fun hm=>by have:=hFl _ hm;omega)
 have hz1:=HB1.out.size;have hzA:=HBA.out.size;have hr1:=KR1.out.lt;have hrA:=hb.size
 have HFR:=hide (show w.heap.size ∉ F from fun hm=>by have:=HLO.out _ hm;omega)
 have hAW:wA.heap.size≤(wA.alloc (.cells #[.int .i64 AF.1.zA,.slice A1 L1 C1,.slice A2 L2 C2,.slice A3 L3 C3,.slice A4 L4 C4,.slice A5 L5 C5] 41)).heap.size:=by simp
 clear hN hb hFl
 by_cases hc:AF.2=0
 rotate_left
 ·
  have q0:(AF.2 != 0)=true:=bneI_t hc
  have HE:=hide (EN_.out hc);clear hc
  have cR:=KR2.out.cell;have lR:=KR2.out.lt;have fR:=KR2.out.free
  have cS:=KS2.out.cell;have lS:=KS2.out.lt;have fS:=KS2.out.free
  go_wp2
  refine bodyPost_ret (v:= .tuple #[.agg #[.int .i64 0,.slice none 0 0,.slice none 0 0,.slice none 0 0,.slice none 0 0,.slice none 0 0,.slice none 0 0,.slice none 0 0],.int .i64 AF.2]) (by simp[results,Tryz.results54,go_sem,cR,fR,lR]) rfl ?_
  rw[HE.out];have hb:=HB2.out;exact⟨_,_,_,_,_,_,_,[],rfl,noneC_ows _,List.nodup_nil,by simp,(by repeat(first|with_reducible exact Below.refl _ _|with_reducible assumption|with_reducible refine Below.setCell ?_ (by first|omega|(simp;done)|(simp;omega)) _|with_reducible refine Below.alloc ?_ (by first|omega|(simp;done)|(simp;omega)) _|with_reducible refine Below.drew ?_|with_reducible refine below_drewN ?_ _|exact Below.refl _ _|assumption|refine Below.drew ?_|refine below_drewN ?_ _|refine Below.alloc ?_ (by first|omega|(simp;done)|(simp;omega)) _|refine Below.setCell ?_ (by first|omega|(simp;done)|(simp;omega)) _))⟩
 generalize hW2:(wA.alloc (.cells #[.int .i64 AF.1.zA,.slice A1 L1 C1,.slice A2 L2 C2,.slice A3 L3 C3,.slice A4 L4 C4,.slice A5 L5 C5] 41))=W2 at *;have HW2:=hide hW2;clear hW2
 have q0:(AF.2 != 0)=false:=bneI_f hc
 have HE:=hide (EY.out hc)
 obtain⟨hv,hf,hr,-,-,-⟩:=OK.out hc
 have HP:=hide (cacheE_puts HV.out hf hr);have hri:=rangeOf_in hv hf hr;have hlen:=yY.1 hv.length
 go_wp2_with fail
 rw[HW2.out]
 refine(c_l31Dirty x.zB b o ed b' o' _ HSM.out hv hf hr (T.at_below HEAT.out HB2.out) (T.at_below HATS.out HB2.out)).mono ?_;rintro e wB ⟨rfl,hb⟩
 clear hv hf hr hc
 generalize rangeOf x.zB ed=RG at *;obtain⟨rf,rt⟩:=RG;dsimp only at *
 have HB3:=hide (yG HB2.out HB2.out.size hb);have KR3:=hide (KR2.out.below hb KR2.out.lt);have KS3:=hide (KS2.out.below hb KS2.out.lt);have HO3:=hide (T.ows_all HO2.out hb);have hz3:=hb.size;clear hb
 have p7:wB.cell? ⟨b,o+7,none⟩=some (.slice va7 x.zU.length vc7):=(HB3.out.cell HL.out).trans (HCC.out 7 _ rfl)
 have lb:b<wB.heap.size:=Nat.lt_of_lt_of_le HL.out HB3.out.size
 have cR:=KR3.out.cell;have lR:=KR3.out.lt;have fR:=KR3.out.free
 have cS:=KS3.out.cell;have lS:=KS3.out.lt;have fS:=KS3.out.free
 go_wp2_with fail
 refine(c_l00Own _ x.zU _ (Rd.below R7.out HB3.out) (by omega)).mono ?_;rintro e wC ⟨vd,rfl,hod,hb⟩
 clear cR lR fR cS lS fS
 have HB4:=hide (yG HB3.out HB3.out.size hb);have HOD:=hide hod;have HW4:=hide hb;clear hb hod p7 lb
 go_wp2
 go_loopw [10,11] (fun d i wr=> ∃ m:Nat,m≤(rt - rf).toNat∧i= .int .i64 (rf+(m:Int))∧OwI 2 wr wB.heap.size d (putsF x.zU rf m)∧Below wB.heap.size wB wr) (fun _ i _=>(rt - intOf i).toNat)
 case atStart=>exact⟨0,Nat.zero_le _,by simp,HOD.out,HW4.out⟩
 case round=>
  obtain⟨m,hm,rfl,hod,hbw⟩:=hrel
  have HD:=hide hod;have HW:=hide hbw;clear hod hbw HOD HW4 HB4
  have hpl:=putsF_len x.zU rf m
  by_cases hlt:rf+(m:Int)<rt
  ·
   have HQ:=hide (show putsF x.zU rf (m+1)=putF (putsF x.zU rf m) ((rf+(m:Int)) / 16) from rfl)
   have hge:0≤rf+(m:Int):=by omega
   have e1:IntKind.i64.wrap ((rf+(m:Int)) / 16)=(rf+(m:Int)) / 16:=IntWalk.i64_in _ (by omega)
   have e2:(rf+(m:Int)).tdiv 16=(rf+(m:Int)) / 16:=Int.tdiv_eq_ediv_of_nonneg hge
   have e3:IntKind.i64.wrap (rf+(m:Int)+1)=rf+((m+1:Nat):Int):=by rw[IntWalk.i64_in _ (by omega)];omega
   go_wp2_with (go_at_call 107;refine(c_l00Put _ (putsF x.zU rf m) ((rf+(m:Int)) / 16) _ HD.out.rd (by omega)).mono ?_;rintro e w8 ⟨v8,rfl,ho8,hb8⟩;have HD8:=hide (ho8.more HW.out.size);have HW8:=hide (yG HW.out HW.out.size hb8);clear ho8 hb8)
   go_roundw
   case rel=>exact⟨m+1,by omega,by(first|rfl|(congr 1;omega)),by rw[HQ.out];exact HD8.out,HW8.out⟩
   case measure=>simp[intOf];omega
  obtain rfl:m=(rt - rf).toNat:=by omega
  obtain⟨tA,tL,tC,rfl⟩:=T.yT (T.ow_ints.2 ⟨HD.out.more (Nat.zero_le _),rfl⟩)
  have HB5:=hide (yG HB3.out HB3.out.size HW.out);have KR5:=hide (KR3.out.below HW.out KR3.out.lt);have KS5:=hide (KS3.out.below HW.out KS3.out.lt);have HO5:=hide (T.ows_all HO3.out HW.out)
  have hz5:=HW.out.size
  have p6:wr.cell? ⟨b,o+6,none⟩=some (.slice va6 x.yA.length vc6):=(HB5.out.cell HL.out).trans (HCC.out 6 _ rfl)
  have lb:b<wr.heap.size:=Nat.lt_of_lt_of_le HL.out HB5.out.size
  have P6:=hide p6;have LB:=hide lb;clear p6 lb
  have cR:=KR5.out.cell;have lR:=KR5.out.lt;have fR:=KR5.out.free
  have cS:=KS5.out.cell;have lS:=KS5.out.lt;have fS:=KS5.out.free
  go_wp2
  clear cR lR fR cS lS fS
  refine wp_region_N (fun w'=>(∀ i,w'.cell? ⟨wA.heap.size,i,none⟩= #[.int .i64 AF.1.zA,.slice A1 L1 C1,.slice A2 L2 C2,.slice A3 L3 C3,.slice A4 L4 C4,.slice A5 L5 C5][i]?)∧w'.cell? ⟨b,o+6,none⟩=some (.slice va6 x.yA.length vc6)) [8,9] (by kernel_rfl) ?_ (fun hS0=>?_)
  ·exact⟨KS5.out.cell,P6.out⟩
  refine wpAnyN_takeL (i:=0) (oi:=_) (v:=?v23) (by kernel_rfl) (by kernel_rfl) rfl (by kernel_rfl) (by kernel_rfl) (by kernel_rfl) (fun _ _ _ h=>h) hS0 (by rfl) ?hy23 ?rest23
  case hy23=>(intro w hSw;(try dsimp only at hSw);first|(go_simp;done)|(go_simp;with_reducible rfl))
  try simp only[Act.put,List.setIfInBounds_toArray,List.set_cons_zero,List.set_cons_succ]
  refine wpAnyN_takeL (i:=1) (oi:=_) (v:=?v24) (by kernel_rfl) (by kernel_rfl) rfl (by kernel_rfl) (by kernel_rfl) (by kernel_rfl) (fun _ _ _ h=>h) hS0 (by rfl) ?hy24 ?rest24
  case hy24=>(intro w hSw;(try dsimp only at hSw);first|(go_simp;done)|(go_simp;with_reducible rfl))
  try simp only[Act.put,List.setIfInBounds_toArray,List.set_cons_zero,List.set_cons_succ]
  refine wpAnyN_takeL (i:=2) (oi:=_) (v:=?v25) (by kernel_rfl) (by kernel_rfl) rfl (by kernel_rfl) (by kernel_rfl) (by kernel_rfl) (fun _ _ _ h=>h) hS0 (by rfl) ?hy25 ?rest25
  case hy25=>(intro w hSw;(try dsimp only at hSw);first|(go_simp;done)|(go_simp;with_reducible rfl))
  try simp only[Act.put,List.setIfInBounds_toArray,List.set_cons_zero,List.set_cons_succ]
  refine wpAnyN_takeL (i:=3) (oi:=_) (v:=?v26) (by kernel_rfl) (by kernel_rfl) rfl (by kernel_rfl) (by kernel_rfl) (by kernel_rfl) (fun _ _ _ h=>h) hS0 (by rfl) ?hy26 ?rest26
  case hy26=>(intro w hSw;(try dsimp only at hSw);first|(go_simp;done)|(go_simp;with_reducible rfl))
  try simp only[Act.put,List.setIfInBounds_toArray,List.set_cons_zero,List.set_cons_succ]
  refine wpAnyN_takeL (i:=4) (oi:=_) (v:=?v27) (by kernel_rfl) (by kernel_rfl) rfl (by kernel_rfl) (by kernel_rfl) (by kernel_rfl) (fun _ _ _ h=>h) hS0 (by rfl) ?hy27 ?rest27
  case hy27=>(intro w hSw;(try dsimp only at hSw);first|(go_simp;done)|(go_simp;with_reducible rfl))
  try simp only[Act.put,List.setIfInBounds_toArray,List.set_cons_zero,List.set_cons_succ]
  refine wpAnyN_takeL (i:=6) (oi:=_) (v:=?v28) (by kernel_rfl) (by kernel_rfl) rfl (by kernel_rfl) (by kernel_rfl) (by kernel_rfl) (fun _ _ _ h=>h) hS0 (by rfl) ?hy28 ?rest28
  case hy28=>(intro w hSw;(try dsimp only at hSw);first|(go_simp;done)|(go_simp;with_reducible rfl))
  try simp only[Act.put,List.setIfInBounds_toArray,List.set_cons_zero,List.set_cons_succ]
  refine wpAnyN_one (i:=5) (o:=_) (by kernel_rfl) rfl (fun K hK=>?_)
  go_simp
  go_wp2_with (go_at_call 106;refine(c_l00Own _ x.yA _ (Rd.below R6.out HB5.out.drew) hml).mono ?_;rintro e w6 ⟨vm,rfl,hom,hb⟩)
  have hb6:=undrew hb;clear hb;have HOM:=hide hom;clear hom;have HB6:=hide (yG HB5.out HB5.out.size hb6);have KR6:=hide (KR5.out.below hb6 KR5.out.lt);have KS6:=hide (KS5.out.below hb6 KS5.out.lt);have HO6:=hide (T.ows_all HO5.out hb6);have HD6:=hide (OwI.below HD.out hb6 (fun q hq=>(HD.out.lt q hq).2));have hz6:=hb6.size;obtain⟨mA,mL,mC,rfl⟩:=T.yT (T.ow_ints.2 ⟨HOM.out.more (Nat.zero_le _),rfl⟩)
  have HP6:=hide ((hb6.cell LB.out).trans P6.out);clear hb6
  refine hK.out _ _ ?_ (fun hS1=>?_)
  ·exact⟨KS6.out.cell,HP6.out⟩
  clear hK K hS0
  refine wpAnyN_takeL (i:=7) (oi:=_) (v:=?v29) (by kernel_rfl) (by kernel_rfl) rfl (by kernel_rfl) (by kernel_rfl) (by kernel_rfl) (fun _ _ _ h=>h) hS1 (by rfl) ?hy29 ?rest29
  case hy29=>(intro w hSw;(try dsimp only at hSw);first|(go_simp;done)|(go_simp;with_reducible rfl))
  try simp only[Act.put,List.setIfInBounds_toArray,List.set_cons_zero,List.set_cons_succ]
  refine wpAnyN_tail2 (i:=8) (j:=9) (o:=_) (o2:=_) (by kernel_rfl) rfl (by kernel_rfl) rfl (by kernel_rfl) (by decide) (by decide) ?_
  have cR:=KR6.out.cell;have lR:=KR6.out.lt;have fR:=KR6.out.free
  have cS:=KS6.out.cell;have lS:=KS6.out.lt;have fS:=KS6.out.free
  go_wp2
  refine bodyPost_ret (v:= .tuple #[.agg #[.int .i64 AF.1.zA,.slice A1 L1 C1,.slice A2 L2 C2,.slice A3 L3 C3,.slice A4 L4 C4,.slice A5 L5 C5,.slice mA mL mC,.slice tA tL tC],.int .i64 0]) (by simp[results,Tryz.results54,go_sem,cR,fR,lR]) rfl ?_
  have hzB:W1.heap.size≤wB.heap.size:=by omega
  obtain⟨k1,k2,k3⟩:=cache_own (s0:=W1.heap.size) (s1:=wB.heap.size) (s2:=wr.heap.size) HO6.out HND.out HLO.out (fun q hq=>Nat.lt_of_lt_of_le (HFL.out q hq) hz3) hzB HD6.out (fun q hq=>(HD.out.lt q hq).2) HOM.out hz5
  rw[HP.out] at k1
  generalize hFF:F++(Value.slice mA mL mC).ownBlock.toList++(Value.slice tA tL tC).ownBlock.toList=FF at *
  have hzR:w.heap.size ∉ FF:=fun hm=>by have:=k3 _ hm;omega
  rw[HE.out,CE.out]
  exact⟨_,_,_,_,_,_,_,FF,rfl,⟨(T.yM (T.yM (T.yM (T.yM (T.yM (T.yM (T.yM (T.yM k1 hzR _ _) hzR _ _) hzR _ _) hzR _ _) hzR _ _) hzR _ _) hzR _ _) hzR _ _),k2,fun q hq=>by have:=k3 q hq;omega,((((((((HB6.out.setCell (by first|(simp;done)|(simp;omega)|omega) _).setCell (by first|(simp;done)|(simp;omega)|omega) _).setCell (by first|(simp;done)|(simp;omega)|omega) _).setCell (by first|(simp;done)|(simp;omega)|omega) _).setCell (by first|(simp;done)|(simp;omega)|omega) _).setCell (by first|(simp;done)|(simp;omega)|omega) _).setCell (by first|(simp;done)|(simp;omega)|omega) _).setCell (by first|(simp;done)|(simp;omega)|omega) _)⟩⟩
theorem c_sEditCache (x:GCache) (cs:List Value) (ed:GEdit) (w:World) (hs:x.small) (h:T.rds w x.fs cs):Calls Tryz.prog 19 #[.agg cs.toArray,.agg #[.int .i64 ed.zC,.int .i64 ed.zV,.int .i64 ed.zZ,.int .i64 ed.zY,.int .i64 ed.zP.zO,.int .i64 ed.zP.zI,.int .i64 ed.zP.zA,.int .i64 ed.zP.zW,.int .i64 ed.zP.zQ]] w fun e w'=> ∃ v1 v2 v3 v4 v5 v6 v7 F,e= .returned (.tuple #[.agg #[.int .i64 (editC x ed).1.zB.zA,v1,v2,v3,v4,v5,v6,v7],.int .i64 (editC x ed).2])∧Nw w w' (editC x ed).1.fs F [.int .i64 (editC x ed).1.zB.zA,v1,v2,v3,v4,v5,v6,v7]:=by
 obtain⟨v1,v2,v3,v4,v5,v6,v7,rfl,h1,h2,h3,h4,h5,h6,h7⟩:=GCache.yL h
 clear h
 have R1:=hide h1;obtain⟨va1,vc1,rfl,vl1,vm1,vx1⟩:=T.yK h1
 have HX1:=hide vx1;clear vx1 h1
 have R2:=hide h2;obtain⟨va2,vc2,rfl,vl2,vm2,vx2⟩:=T.yK h2
 have HX2:=hide vx2;clear vx2 h2
 have h3i:=T.yQ.1 h3;obtain⟨va3,vc3,rfl,vl3,vm3,vx3⟩:=h3i.open_
 have R3:=hide h3i;have HX3:=hide vx3;clear vx3 h3 h3i
 have R4:=hide h4;obtain⟨va4,vc4,rfl,vl4,vm4,vx4⟩:=T.yK h4
 have HX4:=hide vx4;clear vx4 h4
 have R5:=hide h5;obtain⟨va5,vc5,rfl,vl5,vm5,vx5⟩:=T.yK h5
 have HX5:=hide vx5;clear vx5 h5
 have h6i:=T.yQ.1 h6;obtain⟨va6,vc6,rfl,vl6,vm6,vx6⟩:=h6i.open_
 have R6:=hide h6i;have HX6:=hide vx6;clear vx6 h6 h6i
 have h7i:=T.yQ.1 h7;obtain⟨va7,vc7,rfl,vl7,vm7,vx7⟩:=h7i.open_
 have R7:=hide h7i;have HX7:=hide vx7;clear vx7 h7 h7i
 have HB0:=hide (show Below w.heap.size w (w.alloc (.cells #[.int .i64 x.zB.zA,(.slice va1 x.zB.zG.length vc1),(.slice va2 x.zB.zE.length vc2),(.slice va3 x.zB.zK.length vc3),(.slice va4 x.zB.zJ.length vc4),(.slice va5 x.zB.zF.zD.length vc5),(.slice va6 x.yA.length vc6),(.slice va7 x.zU.length vc7)] 43)) from(Below.refl _ _).alloc (Nat.le_refl _) _)
 have HK0:=hide (Bk.born w 43 #[.int .i64 x.zB.zA,(.slice va1 x.zB.zG.length vc1),(.slice va2 x.zB.zE.length vc2),(.slice va3 x.zB.zK.length vc3),(.slice va4 x.zB.zJ.length vc4),(.slice va5 x.zB.zF.zD.length vc5),(.slice va6 x.yA.length vc6),(.slice va7 x.zU.length vc7)])
 have HSM:=hide hs;clear hs
 have GX:=hide (show ∀ w',Below w.heap.size w w'→T.rds w' x.fs [.int .i64 x.zB.zA,(.slice va1 x.zB.zG.length vc1),(.slice va2 x.zB.zE.length vc2),(.slice va3 x.zB.zK.length vc3),(.slice va4 x.zB.zJ.length vc4),(.slice va5 x.zB.zF.zD.length vc5),(.slice va6 x.yA.length vc6),(.slice va7 x.zU.length vc7)] from fun w' hb=>GCache.rd_mk (T.yC R1.out hb) (T.yC R2.out hb) (T.yQ.2 (Rd.below R3.out hb)) (T.yC R4.out hb) (T.yC R5.out hb) (T.yQ.2 (Rd.below R6.out hb)) (T.yQ.2 (Rd.below R7.out hb)))
 have HBa:=hide ((HB0.out.alloc (by simp) (.cells #[.int .i64 ed.zC,.int .i64 ed.zV,.int .i64 ed.zZ,.int .i64 ed.zY,.int .i64 ed.zP.zO,.int .i64 ed.zP.zI,.int .i64 ed.zP.zA,.int .i64 ed.zP.zW,.int .i64 ed.zP.zQ] 62)).alloc (by simp;omega) (.cells #[.int .i64 0,.slice none 0 0,.slice none 0 0,.slice none 0 0,.slice none 0 0,.slice none 0 0,.slice none 0 0,.slice none 0 0] 43))
 have HP:=hide ((HK0.out.alloc (.cells #[.int .i64 ed.zC,.int .i64 ed.zV,.int .i64 ed.zZ,.int .i64 ed.zY,.int .i64 ed.zP.zO,.int .i64 ed.zP.zI,.int .i64 ed.zP.zA,.int .i64 ed.zP.zW,.int .i64 ed.zP.zQ] 62)).alloc (.cells #[.int .i64 0,.slice none 0 0,.slice none 0 0,.slice none 0 0,.slice none 0 0,.slice none 0 0,.slice none 0 0,.slice none 0 0] 43));have HE:=hide ((Bk.born1' w (.cells #[.int .i64 x.zB.zA,(.slice va1 x.zB.zG.length vc1),(.slice va2 x.zB.zE.length vc2),(.slice va3 x.zB.zK.length vc3),(.slice va4 x.zB.zJ.length vc4),(.slice va5 x.zB.zF.zD.length vc5),(.slice va6 x.yA.length vc6),(.slice va7 x.zU.length vc7)] 43) 62 #[.int .i64 ed.zC,.int .i64 ed.zV,.int .i64 ed.zZ,.int .i64 ed.zY,.int .i64 ed.zP.zO,.int .i64 ed.zP.zI,.int .i64 ed.zP.zA,.int .i64 ed.zP.zW,.int .i64 ed.zP.zQ]).alloc (.cells #[.int .i64 0,.slice none 0 0,.slice none 0 0,.slice none 0 0,.slice none 0 0,.slice none 0 0,.slice none 0 0,.slice none 0 0] 43));have HR:Sec (Bk _ (w.heap.size+2) 43 #[.int .i64 0,.slice none 0 0,.slice none 0 0,.slice none 0 0,.slice none 0 0,.slice none 0 0,.slice none 0 0,.slice none 0 0]):=hide (Bk.born2 w (.cells #[.int .i64 x.zB.zA,(.slice va1 x.zB.zG.length vc1),(.slice va2 x.zB.zE.length vc2),(.slice va3 x.zB.zK.length vc3),(.slice va4 x.zB.zJ.length vc4),(.slice va5 x.zB.zF.zD.length vc5),(.slice va6 x.yA.length vc6),(.slice va7 x.zU.length vc7)] 43) (.cells #[.int .i64 ed.zC,.int .i64 ed.zV,.int .i64 ed.zZ,.int .i64 ed.zY,.int .i64 ed.zP.zO,.int .i64 ed.zP.zI,.int .i64 ed.zP.zA,.int .i64 ed.zP.zW,.int .i64 ed.zP.zQ] 62) 43 #[.int .i64 0,.slice none 0 0,.slice none 0 0,.slice none 0 0,.slice none 0 0,.slice none 0 0,.slice none 0 0,.slice none 0 0])
 clear HB0 HK0
 obtain⟨W,hW⟩: ∃ W',W'=(((w.alloc (.cells #[.int .i64 x.zB.zA,(.slice va1 x.zB.zG.length vc1),(.slice va2 x.zB.zE.length vc2),(.slice va3 x.zB.zK.length vc3),(.slice va4 x.zB.zJ.length vc4),(.slice va5 x.zB.zF.zD.length vc5),(.slice va6 x.yA.length vc6),(.slice va7 x.zU.length vc7)] 43)).alloc (.cells #[.int .i64 ed.zC,.int .i64 ed.zV,.int .i64 ed.zZ,.int .i64 ed.zY,.int .i64 ed.zP.zO,.int .i64 ed.zP.zI,.int .i64 ed.zP.zA,.int .i64 ed.zP.zW,.int .i64 ed.zP.zQ] 62)).alloc (.cells #[.int .i64 0,.slice none 0 0,.slice none 0 0,.slice none 0 0,.slice none 0 0,.slice none 0 0,.slice none 0 0,.slice none 0 0] 43)):=⟨_,rfl⟩
 rw[←hW] at HBa HP HE HR
 have HW:=hide hW;clear hW
 have HAT:=hide (show T.at W x.fs w.heap.size 0 from⟨HP.out.lt,_,GX.out W HBa.out,fun i u hi=>by rw[Nat.zero_add];exact(HP.out.cell i).trans (by simpa using hi)⟩)
 have HEAT:=hide (show T.at W ed.fs (w.heap.size+1) 0 from⟨HE.out.lt,_,GEdit.rd_mk,fun i u hi=>by rw[Nat.zero_add];exact(HE.out.cell i).trans (by simpa using hi)⟩)
 have EB:=hide (@editC_bad x ed)
 have LE:=hide (fun W' (hv:CacheOk x) (hb:Below W.heap.size W W')=>c_l31Edit x w.heap.size 0 ed (w.heap.size+1) 0 W' HSM.out hv (T.at_below HEAT.out hb) (T.at_below HAT.out hb))
 generalize hEC:editC x ed=EC at *;clear hEC
 go_enter Tryz.func19,Tryz.ntmps19
 go_wp2_with fail
 rw[←HW.out]
 refine(c_l31Cache x w.heap.size 0 _ ⟨HSM.out.1,HSM.out.2.1,HSM.out.2.2.1,HSM.out.2.2.2.1,HSM.out.2.2.2.2.1⟩ HAT.out).mono ?_;rintro e w1 ⟨rfl,hb⟩
 have HB1:=hide (yG HBa.out HBa.out.size hb);have HR1:=hide (HR.out.below hb HR.out.lt);have HW1:=hide hb;clear hb
 have cR:=HR1.out.cell;have fR:=HR1.out.free;have lR:=HR1.out.lt
 by_cases hv:CacheOk x
 rotate_left
 ·
  rw[yV hv];have HEB:=hide (EB.out hv);clear hv
  go_wp2
  refine bodyPost_ret (v:= .tuple #[.agg #[.int .i64 0,.slice none 0 0,.slice none 0 0,.slice none 0 0,.slice none 0 0,.slice none 0 0,.slice none 0 0,.slice none 0 0],.int .i64 1]) (by simp[results,Tryz.results19,go_sem,cR,fR,lR]) rfl ?_
  rw[HEB.out];have hb:=HB1.out;exact⟨_,_,_,_,_,_,_,[],rfl,noneC_ows _,List.nodup_nil,by simp,(by repeat(first|with_reducible exact Below.refl _ _|with_reducible assumption|with_reducible refine Below.setCell ?_ (by first|omega|(simp;done)|(simp;omega)) _|with_reducible refine Below.alloc ?_ (by first|omega|(simp;done)|(simp;omega)) _|with_reducible refine Below.drew ?_|with_reducible refine below_drewN ?_ _|exact Below.refl _ _|assumption|refine Below.drew ?_|refine below_drewN ?_ _|refine Below.alloc ?_ (by first|omega|(simp;done)|(simp;omega)) _|refine Below.setCell ?_ (by first|omega|(simp;done)|(simp;omega)) _))⟩
 rw[yW hv]
 go_wp2_with fail
 refine(LE.out _ hv HW1.out).mono ?_;rintro e w2 ⟨v1,v2,v3,v4,v5,v6,v7,F,rfl,hN⟩
 obtain⟨⟨A1,L1,C1,rfl⟩,⟨A2,L2,C2,rfl⟩,⟨A3,L3,C3,rfl⟩,⟨A4,L4,C4,rfl⟩,⟨A5,L5,C5,rfl⟩,⟨A6,L6,C6,rfl⟩,⟨A7,L7,C7,rfl⟩⟩:=GCache.sl7 (T.ows_rds _ _ _ hN.ows)
 have hb:=hN.below;have HO:=hide hN.ows;have HND:=hide hN.nodup;have HLO:=hide hN.lo;clear hN cR fR lR
 have HB2:=hide (yG HB1.out HB1.out.size hb);have HR2:=hide (HR1.out.below hb HR1.out.lt);clear hb
 have cR:=HR2.out.cell;have fR:=HR2.out.free;have lR:=HR2.out.lt
 go_wp2
 refine bodyPost_ret (v:= .tuple #[.agg #[.int .i64 EC.1.zB.zA,.slice A1 L1 C1,.slice A2 L2 C2,.slice A3 L3 C3,.slice A4 L4 C4,.slice A5 L5 C5,.slice A6 L6 C6,.slice A7 L7 C7],.int .i64 EC.2]) (by simp[results,Tryz.results19,go_sem,cR,fR,lR]) rfl ?_
 have hr1:=HR1.out.lt;have hz1:=HB1.out.size
 have hzR:w.heap.size+2 ∉ F:=fun hm=>by have:=HLO.out _ hm;omega
 exact⟨_,_,_,_,_,_,_,F,rfl,⟨(T.yM (T.yM (T.yM (T.yM (T.yM (T.yM (T.yM (T.yM HO.out hzR _ _) hzR _ _) hzR _ _) hzR _ _) hzR _ _) hzR _ _) hzR _ _) hzR _ _),HND.out,fun q hq=>by have:=HLO.out q hq;omega,((((((((HB2.out.setCell (by first|(simp;done)|(simp;omega)|omega) _).setCell (by first|(simp;done)|(simp;omega)|omega) _).setCell (by first|(simp;done)|(simp;omega)|omega) _).setCell (by first|(simp;done)|(simp;omega)|omega) _).setCell (by first|(simp;done)|(simp;omega)|omega) _).setCell (by first|(simp;done)|(simp;omega)|omega) _).setCell (by first|(simp;done)|(simp;omega)|omega) _).setCell (by first|(simp;done)|(simp;omega)|omega) _)⟩⟩
end Go.Proofs.YteiflbhcehajkaaGreat
