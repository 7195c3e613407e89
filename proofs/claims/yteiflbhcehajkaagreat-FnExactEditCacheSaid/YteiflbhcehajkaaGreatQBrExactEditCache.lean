/- Contract: EditCache, impl. The words of the translation's head, without running through its whole list of roots; and the closed facts of a row out of them. -/
import Derived.Test.YteiflbhcehajkaaGreatQBqExactEditCache
import Derived.Test.YteiflbhcehajkaaGreatQBdExactEditCache
import Derived.Test.YteiflbhcehajkaaGreatQBkExactEditCache
import Derived.Deep.RegionHeld3
import Derived.Test.YteiflbhcehajkaaGreatRows
import Derived.ProofKit
set_option linter.unusedVariables false
set_option linter.unusedSimpArgs false
set_option maxHeartbeats 8000000
set_option maxRecDepth 100000
section
namespace Go.Proofs.YteiflbhcehajkaaGreat
open Go.RowKit
theorem Nw.ints {w w':World} {E:TypeId} {xs:List Int} {v:Value} (h:OwI E w' w.heap.size v xs) (hb:Below w.heap.size w w'):Nw w w' [T.ints E xs] v.ownBlock.toList [v]:=
 ⟨T.ows_snoc (xs:= []) (T.ows_nil.2 ⟨rfl,rfl⟩) (T.ow_ints.2 ⟨h.more (Nat.zero_le _),rfl⟩),by cases v.ownBlock<;>simp,fun b hb'=>(OwI.lt h b (by simpa using hb')).1,hb⟩
theorem cache_own2 {w:World} {s:GSession} {m d:List Int} {Fs Fm:List Nat} {c1:List Value} {vm vd:Value} {s0 s1 s2:Nat} (h:T.ows w s.fs Fs c1) (nd:Fs.Nodup) (h0: ∀ b ∈ Fs,s0≤b) (hlt: ∀ b ∈ Fs,b<s1) (h01:s0≤s1) (hm:T.ows w [T.ints 2 m] Fm [vm]) (nm:Fm.Nodup) (m0: ∀ b ∈ Fm,s1≤b) (m1: ∀ b ∈ Fm,b<s2) (hs:s1≤s2) (hd:OwI 2 w s2 vd d):
  T.ows w (GCache.fs ⟨s,m,d⟩) (Fs++Fm++vd.ownBlock.toList) (c1++ [vm]++ [vd])∧(Fs++Fm++vd.ownBlock.toList).Nodup∧ ∀ b ∈ Fs++Fm++vd.ownBlock.toList,s0≤b:=by
 have kd: ∀ b ∈ vd.ownBlock.toList,s2≤b:=fun b hb=>(OwI.lt hd b (by simpa using hb)).1
 refine⟨T.ows_snoc ((T.ows_app _ _ _ _).2 ⟨Fs,Fm,c1,[vm],rfl,rfl,h,hm⟩) (T.ow_ints.2 ⟨hd.more (Nat.zero_le _),rfl⟩),?_,?_⟩
 ·rw[List.nodup_append,List.nodup_append]
  refine⟨⟨nd,nm,fun a ha b hb e=>?_⟩,by cases vd.ownBlock<;>simp,fun a ha b hb e=>?_⟩
  ·subst e;have h1:=hlt a ha;have h2:=m0 a hb;omega
  ·subst e
   have h2:=kd a hb
   rcases List.mem_append.1 ha with ha|ha
   ·have h1:=hlt a ha;omega
   ·have h1:=m1 a ha;omega
 ·intro b hb
  rcases List.mem_append.1 hb with hb|hb
  ·rcases List.mem_append.1 hb with hb|hb
   ·exact h0 b hb
   ·have:=m0 b hb;omega
  ·have:=kd b hb;omega
theorem doE_length (s:GSession) (e:GEdit):(doE s e).zA=s.zA:=by
 unfold doE
 split
 ·rfl
 ·split<;>rfl
theorem marksF_yes {d:List Int} {a b:Int} {k:Nat} (h:markB d a b k=true):marksF d a b (k+1)=marksF d a b k++ [(k:Int)]:=if_pos h
theorem marksF_no {d:List Int} {a b:Int} {k:Nat} (h:markB d a b k=false):marksF d a b (k+1)=marksF d a b k:=if_neg (by rw[h];simp)
theorem c_iEditCache (x:GCache) (cs:List Value) (ed:GEdit) (w:World) (hs:x.small) (h:T.rds w x.fs cs):Calls Tryz.prog 21 #[.agg cs.toArray,.agg #[.int .i64 ed.zC,.int .i64 ed.zV,.int .i64 ed.zZ,.int .i64 ed.zY,.int .i64 ed.zP.zO,.int .i64 ed.zP.zI,.int .i64 ed.zP.zA,.int .i64 ed.zP.zW,.int .i64 ed.zP.zQ]] w fun e w'=> ∃ v1 v2 v3 v4 v5 v6 v7 F,e= .returned (.tuple #[.agg #[.int .i64 (editC x ed).1.zB.zA,v1,v2,v3,v4,v5,v6,v7],.int .i64 (editC x ed).2])∧Nw w w' (editC x ed).1.fs F [.int .i64 (editC x ed).1.zB.zA,v1,v2,v3,v4,v5,v6,v7]:=by
 obtain⟨v1,v2,v3,v4,v5,v6,v7,rfl,h1,h2,h3,h4,h5,h6,h7⟩:=GCache.yL h
 clear h
 have R1:=hide h1;obtain⟨va1,vc1,rfl,vl1,vm1,vx1⟩:=T.yK h1
 have HX1:=hide vx1;clear vx1 h1
 have R2:=hide h2;obtain⟨va2,vc2,rfl,vl2,vm2,vx2⟩:=T.yK h2
 have HX2:=hide vx2;clear vx2 h2
 have h3i:=T.yQ.1 h3;obtain⟨va3,vc3,rfl,vl3,vm3,vx3⟩:=h3i.open_
 have R3:=hide h3i;have HX3:=hide vx3;clear vx3 h3 h3i
 have R4:=hide h4;obtain⟨va4,vc4,rfl,vl4,vm4,vx4⟩:=T.yK h4
 have HX4:=hide vx4;clear vx4 h4
 have R5:=hide h5;obtain⟨va5,vc5,rfl,vl5,vm5,vx5⟩:=T.yK h5
 have HX5:=hide vx5;clear vx5 h5
 have h6i:=T.yQ.1 h6;obtain⟨va6,vc6,rfl,vl6,vm6,vx6⟩:=h6i.open_
 have R6:=hide h6i;have HX6:=hide vx6;clear vx6 h6 h6i
 have h7i:=T.yQ.1 h7;obtain⟨va7,vc7,rfl,vl7,vm7,vx7⟩:=h7i.open_
 have R7:=hide h7i;have HX7:=hide vx7;clear vx7 h7 h7i
 have HB0:=hide (show Below w.heap.size w (w.alloc (.cells #[.int .i64 x.zB.zA,(.slice va1 x.zB.zG.length vc1),(.slice va2 x.zB.zE.length vc2),(.slice va3 x.zB.zK.length vc3),(.slice va4 x.zB.zJ.length vc4),(.slice va5 x.zB.zF.zD.length vc5),(.slice va6 x.yA.length vc6),(.slice va7 x.zU.length vc7)] 43)) from(Below.refl _ _).alloc (Nat.le_refl _) _)
 have HK0:=hide (Bk.born w 43 #[.int .i64 x.zB.zA,(.slice va1 x.zB.zG.length vc1),(.slice va2 x.zB.zE.length vc2),(.slice va3 x.zB.zK.length vc3),(.slice va4 x.zB.zJ.length vc4),(.slice va5 x.zB.zF.zD.length vc5),(.slice va6 x.yA.length vc6),(.slice va7 x.zU.length vc7)])
 have HSM:=hide hs;have HML:=hide (show x.yA.length≤1048576 from hs.2.2.2.2.2.1);clear hs
 have SMS:=hide (show x.zB.small from⟨HSM.out.1,HSM.out.2.1,HSM.out.2.2.1,HSM.out.2.2.2.1,HSM.out.2.2.2.2.1⟩)
 have GX:=hide (show ∀ w',Below w.heap.size w w'→T.rds w' x.fs [.int .i64 x.zB.zA,(.slice va1 x.zB.zG.length vc1),(.slice va2 x.zB.zE.length vc2),(.slice va3 x.zB.zK.length vc3),(.slice va4 x.zB.zJ.length vc4),(.slice va5 x.zB.zF.zD.length vc5),(.slice va6 x.yA.length vc6),(.slice va7 x.zU.length vc7)] from fun w' hb=>GCache.rd_mk (T.yC R1.out hb) (T.yC R2.out hb) (T.yQ.2 (Rd.below R3.out hb)) (T.yC R4.out hb) (T.yC R5.out hb) (T.yQ.2 (Rd.below R6.out hb)) (T.yQ.2 (Rd.below R7.out hb)))
 have GS:=hide (show ∀ w',Below w.heap.size w w'→T.rds w' x.zB.fs [.int .i64 x.zB.zA,(.slice va1 x.zB.zG.length vc1),(.slice va2 x.zB.zE.length vc2),(.slice va3 x.zB.zK.length vc3),(.slice va4 x.zB.zJ.length vc4),(.slice va5 x.zB.zF.zD.length vc5)] from fun w' hb=>GSession.rd_mk (T.yC R1.out hb) (T.yC R2.out hb) (T.yQ.2 (Rd.below R3.out hb)) (T.yC R4.out hb) (T.yC R5.out hb))
 have H0:=hide ((HB0.out.alloc (by simp) (.cells #[.int .i64 ed.zC,.int .i64 ed.zV,.int .i64 ed.zZ,.int .i64 ed.zY,.int .i64 ed.zP.zO,.int .i64 ed.zP.zI,.int .i64 ed.zP.zA,.int .i64 ed.zP.zW,.int .i64 ed.zP.zQ] 62)).alloc (by simp;omega) (.cells #[.int .i64 0,.slice none 0 0,.slice none 0 0,.slice none 0 0,.slice none 0 0,.slice none 0 0,.slice none 0 0,.slice none 0 0] 43))
 have KS:=hide ((HK0.out.alloc (.cells #[.int .i64 ed.zC,.int .i64 ed.zV,.int .i64 ed.zZ,.int .i64 ed.zY,.int .i64 ed.zP.zO,.int .i64 ed.zP.zI,.int .i64 ed.zP.zA,.int .i64 ed.zP.zW,.int .i64 ed.zP.zQ] 62)).alloc (.cells #[.int .i64 0,.slice none 0 0,.slice none 0 0,.slice none 0 0,.slice none 0 0,.slice none 0 0,.slice none 0 0,.slice none 0 0] 43));have KE:=hide ((Bk.born1' w (.cells #[.int .i64 x.zB.zA,(.slice va1 x.zB.zG.length vc1),(.slice va2 x.zB.zE.length vc2),(.slice va3 x.zB.zK.length vc3),(.slice va4 x.zB.zJ.length vc4),(.slice va5 x.zB.zF.zD.length vc5),(.slice va6 x.yA.length vc6),(.slice va7 x.zU.length vc7)] 43) 62 #[.int .i64 ed.zC,.int .i64 ed.zV,.int .i64 ed.zZ,.int .i64 ed.zY,.int .i64 ed.zP.zO,.int .i64 ed.zP.zI,.int .i64 ed.zP.zA,.int .i64 ed.zP.zW,.int .i64 ed.zP.zQ]).alloc (.cells #[.int .i64 0,.slice none 0 0,.slice none 0 0,.slice none 0 0,.slice none 0 0,.slice none 0 0,.slice none 0 0,.slice none 0 0] 43));have KR:Sec (Bk _ (w.heap.size+2) 43 #[.int .i64 0,.slice none 0 0,.slice none 0 0,.slice none 0 0,.slice none 0 0,.slice none 0 0,.slice none 0 0,.slice none 0 0]):=hide (Bk.born2 w (.cells #[.int .i64 x.zB.zA,(.slice va1 x.zB.zG.length vc1),(.slice va2 x.zB.zE.length vc2),(.slice va3 x.zB.zK.length vc3),(.slice va4 x.zB.zJ.length vc4),(.slice va5 x.zB.zF.zD.length vc5),(.slice va6 x.yA.length vc6),(.slice va7 x.zU.length vc7)] 43) (.cells #[.int .i64 ed.zC,.int .i64 ed.zV,.int .i64 ed.zZ,.int .i64 ed.zY,.int .i64 ed.zP.zO,.int .i64 ed.zP.zI,.int .i64 ed.zP.zA,.int .i64 ed.zP.zW,.int .i64 ed.zP.zQ] 62) 43 #[.int .i64 0,.slice none 0 0,.slice none 0 0,.slice none 0 0,.slice none 0 0,.slice none 0 0,.slice none 0 0,.slice none 0 0])
 clear HB0 HK0
 obtain⟨w0,hw0⟩: ∃ W',W'=(((w.alloc (.cells #[.int .i64 x.zB.zA,(.slice va1 x.zB.zG.length vc1),(.slice va2 x.zB.zE.length vc2),(.slice va3 x.zB.zK.length vc3),(.slice va4 x.zB.zJ.length vc4),(.slice va5 x.zB.zF.zD.length vc5),(.slice va6 x.yA.length vc6),(.slice va7 x.zU.length vc7)] 43)).alloc (.cells #[.int .i64 ed.zC,.int .i64 ed.zV,.int .i64 ed.zZ,.int .i64 ed.zY,.int .i64 ed.zP.zO,.int .i64 ed.zP.zI,.int .i64 ed.zP.zA,.int .i64 ed.zP.zW,.int .i64 ed.zP.zQ] 62)).alloc (.cells #[.int .i64 0,.slice none 0 0,.slice none 0 0,.slice none 0 0,.slice none 0 0,.slice none 0 0,.slice none 0 0,.slice none 0 0] 43)):=⟨_,rfl⟩
 rw[←hw0] at H0 KS KE KR
 have HW:=hide hw0;clear hw0
 have EB:=hide (@editC_bad x ed);have EN_:=hide (@editC_no x ed);have EY:=hide (@editC_yes x ed)
 generalize hEC:editC x ed=EC at *;clear hEC
 go_enter Tryz.func21,Tryz.ntmps21
 go_wp2_with fail
 rw[←HW.out]
 refine(c_isCache x _ _ SMS.out (GX.out _ H0.out)).mono ?_;rintro e w1 ⟨rfl,hb⟩
 have H1:=hide (yG H0.out H0.out.size hb);have hs1:=hb.size
 replace KS:=hide (KS.out.below hb KS.out.lt)
 replace KE:=hide (KE.out.below hb KE.out.lt)
 replace KR:=hide (KR.out.below hb KR.out.lt)
 clear hb
 have kcKS:=KS.out.cell;have klKS:=KS.out.lt
 have kcKE:=KE.out.cell;have klKE:=KE.out.lt
 have kcKR:=KR.out.cell;have klKR:=KR.out.lt
 have z02:w.heap.size+2<w1.heap.size:=KR.out.lt
 by_cases hv:CacheOk x
 rotate_left
 ·
  rw[yV hv];have HEB:=hide (EB.out hv);clear hv;have fR:=KR.out.free
  go_wp2
  refine bodyPost_ret (v:= .tuple #[.agg #[.int .i64 0,.slice none 0 0,.slice none 0 0,.slice none 0 0,.slice none 0 0,.slice none 0 0,.slice none 0 0,.slice none 0 0],.int .i64 1]) (by simp[results,Tryz.results21,go_sem,kcKR,fR,klKR]) rfl ?_
  rw[HEB.out];have hb:=H1.out;exact⟨_,_,_,_,_,_,_,[],rfl,noneC_ows _,List.nodup_nil,by simp,(by repeat(first|with_reducible exact Below.refl _ _|with_reducible assumption|with_reducible refine Below.setCell ?_ (by first|omega|(simp;done)|(simp;omega)) _|with_reducible refine Below.alloc ?_ (by first|omega|(simp;done)|(simp;omega)) _|with_reducible refine Below.drew ?_|with_reducible refine below_drewN ?_ _|exact Below.refl _ _|assumption|refine Below.drew ?_|refine below_drewN ?_ _|refine Below.alloc ?_ (by first|omega|(simp;done)|(simp;omega)) _|refine Below.setCell ?_ (by first|omega|(simp;done)|(simp;omega)) _))⟩
 rw[yW hv]
 have HV:=hide hv;clear hv
 have OK:=hide (@applyF_ok x.zB ed)
 have CE:=hide (show cacheE x ed=⟨(applyF x.zB ed).1,x.yA,marksF x.zU (rangeOf x.zB ed).1 (rangeOf x.zB ed).2 (blocksF x.zB.zA).toNat⟩ from rfl)
 go_wp2_with fail
 refine(c_apply x.zB _ ed _ SMS.out HV.out.session (GS.out _ H1.out)).mono ?_;rintro e w2 ⟨v1,v2,v3,v4,v5,F,rfl,hN⟩
 obtain⟨⟨A1,L1,C1,rfl⟩,⟨A2,L2,C2,rfl⟩,⟨A3,L3,C3,rfl⟩,⟨A4,L4,C4,rfl⟩,⟨A5,L5,C5,rfl⟩⟩:=GSession.sl5 (T.ows_rds _ _ _ hN.ows)
 generalize applyF x.zB ed=AF at *
 have hb:=hN.below;have OS:=hide hN.ows;have NS:=hide hN.nodup;have LS:=hide hN.lo;have IS:=hide hN.lt;clear hN
 clear kcKS klKS kcKE klKE kcKR klKR
 have H2:=hide (yG H1.out H1.out.size hb);have hs2:=hb.size
 replace KS:=hide (KS.out.below hb KS.out.lt)
 replace KE:=hide (KE.out.below hb KE.out.lt)
 replace KR:=hide (KR.out.below hb KR.out.lt)
 clear hb
 have kcKS:=KS.out.cell;have klKS:=KS.out.lt
 have kcKE:=KE.out.cell;have klKE:=KE.out.lt
 have kcKR:=KR.out.cell;have klKR:=KR.out.lt
 by_cases hc:AF.2=0
 rotate_left
 ·
  have q0:(AF.2 != 0)=true:=bneI_t hc
  have HEB:=hide (EN_.out HV.out hc);clear hc
  have KR9:=hide (KR.out.alloc (.cells #[.int .i64 AF.1.zA,.slice A1 L1 C1,.slice A2 L2 C2,.slice A3 L3 C3,.slice A4 L4 C4,.slice A5 L5 C5] 41));have cR:=KR9.out.cell;have lR:=KR9.out.lt;have fR:=KR9.out.free;have KN9:=hide (Bk.born w2 41 #[.int .i64 AF.1.zA,.slice A1 L1 C1,.slice A2 L2 C2,.slice A3 L3 C3,.slice A4 L4 C4,.slice A5 L5 C5]);have cN:=KN9.out.cell;have lN:=KN9.out.lt
  clear kcKS klKS kcKE klKE kcKR klKR
  go_wp2
  refine bodyPost_ret (v:= .tuple #[.agg #[.int .i64 0,.slice none 0 0,.slice none 0 0,.slice none 0 0,.slice none 0 0,.slice none 0 0,.slice none 0 0,.slice none 0 0],.int .i64 AF.2]) (by simp[results,Tryz.results21,go_sem,cR,fR,lR]) rfl ?_
  rw[HEB.out];have hb:=H2.out.alloc H2.out.size (.cells #[.int .i64 AF.1.zA,.slice A1 L1 C1,.slice A2 L2 C2,.slice A3 L3 C3,.slice A4 L4 C4,.slice A5 L5 C5] 41);exact⟨_,_,_,_,_,_,_,[],rfl,noneC_ows _,List.nodup_nil,by simp,(by repeat(first|with_reducible exact Below.refl _ _|with_reducible assumption|with_reducible refine Below.setCell ?_ (by first|omega|(simp;done)|(simp;omega)) _|with_reducible refine Below.alloc ?_ (by first|omega|(simp;done)|(simp;omega)) _|with_reducible refine Below.drew ?_|with_reducible refine below_drewN ?_ _|exact Below.refl _ _|assumption|refine Below.drew ?_|refine below_drewN ?_ _|refine Below.alloc ?_ (by first|omega|(simp;done)|(simp;omega)) _|refine Below.setCell ?_ (by first|omega|(simp;done)|(simp;omega)) _))⟩
 have q0:(AF.2 != 0)=false:=bneI_f hc
 have HE:=hide (EY.out HV.out hc)
 obtain⟨hv,hf,hr,-,hv2,hd⟩:=OK.out hc
 have HLEN:=hide (show AF.1.zA=x.zB.zA from by rw[hd];exact doE_length _ _)
 have hlen:=yY.1 hv.length
 obtain⟨⟨rf,rt⟩,hRG⟩: ∃ p,rangeOf x.zB ed=p:=⟨_,rfl⟩
 obtain⟨nb,hnb,hn63⟩: ∃ n:Nat,blocksF x.zB.zA=(n:Int)∧n≤63:=⟨(blocksF x.zB.zA).toNat,by unfold blocksF;omega,by unfold blocksF;omega⟩
 have HNB:=hide (show blocksF AF.1.zA=(nb:Int) from by rw[HLEN.out];exact hnb)
 have h1000:=hide (show 0≤AF.1.zA∧AF.1.zA≤1000 from by rw[HLEN.out];exact⟨by omega,by omega⟩)
 have DR:=hide (show ∀ W',Below w.heap.size w W'→Calls Tryz.prog 58 #[.agg #[.int .i64 x.zB.zA,(.slice va1 x.zB.zG.length vc1),(.slice va2 x.zB.zE.length vc2),(.slice va3 x.zB.zK.length vc3),(.slice va4 x.zB.zJ.length vc4),(.slice va5 x.zB.zF.zD.length vc5)],.agg #[.int .i64 ed.zC,.int .i64 ed.zV,.int .i64 ed.zZ,.int .i64 ed.zY,.int .i64 ed.zP.zO,.int .i64 ed.zP.zI,.int .i64 ed.zP.zA,.int .i64 ed.zP.zW,.int .i64 ed.zP.zQ]] W' fun e w'=>e= .returned (.tuple #[.int .i64 rf,.int .i64 rt])∧Below W'.heap.size W' w' from fun W' hb=>by have h:=c_dirtyRange x.zB _ ed W' hv hf hr (GS.out _ hb);rw[hRG] at h;exact h)
 have hri:=rangeOf_in hv hf hr;rw[hRG] at hri;dsimp only at hri
 have HP:=CE;rw[hRG,hnb] at HP;clear CE
 clear OK hv hf hr hv2 hd hRG hnb hc EB EN_ EY
 go_wp2_with fail
 clear kcKS klKS kcKE klKE kcKR klKR
 have hb:Below w2.heap.size w2 (w2.alloc (.cells #[.int .i64 AF.1.zA,.slice A1 L1 C1,.slice A2 L2 C2,.slice A3 L3 C3,.slice A4 L4 C4,.slice A5 L5 C5] 41)):=(Below.refl _ _).alloc (Nat.le_refl _) _
 have KB:=hide (Bk.born w2 41 #[.int .i64 AF.1.zA,.slice A1 L1 C1,.slice A2 L2 C2,.slice A3 L3 C3,.slice A4 L4 C4,.slice A5 L5 C5])
 generalize (w2.alloc (.cells #[.int .i64 AF.1.zA,.slice A1 L1 C1,.slice A2 L2 C2,.slice A3 L3 C3,.slice A4 L4 C4,.slice A5 L5 C5] 41))=w3 at *
 have ghKB:w2.heap.size<w3.heap.size:=KB.out.lt
 have H3:=hide (yG H2.out H2.out.size hb);have hs3:=hb.size
 replace KS:=hide (KS.out.below hb KS.out.lt)
 replace KE:=hide (KE.out.below hb KE.out.lt)
 replace KR:=hide (KR.out.below hb KR.out.lt)
 replace OS:=hide (T.ows_all OS.out hb)
 clear hb
 have kcKS:=KS.out.cell;have klKS:=KS.out.lt
 have kcKE:=KE.out.cell;have klKE:=KE.out.lt
 have kcKR:=KR.out.cell;have klKR:=KR.out.lt
 have kcKB:=KB.out.cell;have klKB:=KB.out.lt
 have KS3:=KS;have KE3:=KE;have KR3:=KR;have KB3:=KB;have OS3:=OS;have H3_:=H3
 clear kcKS klKS kcKE klKE kcKR klKR kcKB klKB
 go_wp2_with fail
 rename_i Q6 K6 hK6
 have REST6: ∀ (g6:Nat) (u7 u12 u13 u14 u16 u17 u18 u19 u20 u21 u22 u23 u24 u27 u28 u29 u30 u31:Value) (A1r6:Option Addr) (L1r6 C1r6:Nat) (F6:List Nat) (W:World),Bk W g6 43 #[.int .i64 AF.1.zA,.slice A1 L1 C1,.slice A2 L2 C2,.slice A3 L3 C3,.slice A4 L4 C4,.slice A5 L5 C5,.slice A1r6 L1r6 C1r6,.slice none 0 0]→w3.heap.size≤g6→Below w3.heap.size w3 W→T.ows W [T.ints 2 x.yA] F6 [.slice A1r6 L1r6 C1r6]→F6.Nodup→(∀ b ∈ F6,w3.heap.size≤b∧b≠g6)→K6 { tmps:= #[.agg #[.int .i64 x.zB.zA,(.slice va1 x.zB.zG.length vc1),(.slice va2 x.zB.zE.length vc2),(.slice va3 x.zB.zK.length vc3),(.slice va4 x.zB.zJ.length vc4),(.slice va5 x.zB.zF.zD.length vc5),(.slice va6 x.yA.length vc6),(.slice va7 x.zU.length vc7)],.agg #[.int .i64 ed.zC,.int .i64 ed.zV,.int .i64 ed.zZ,.int .i64 ed.zY,.int .i64 ed.zP.zO,.int .i64 ed.zP.zI,.int .i64 ed.zP.zA,.int .i64 ed.zP.zW,.int .i64 ed.zP.zQ],.pointer (some ⟨w.heap.size,0,none⟩),.pointer (some ⟨w.heap.size+1,0,none⟩),.pointer (some ⟨w.heap.size+2,0,none⟩),.int .i64 0,.pointer (some ⟨w2.heap.size,0,none⟩),u7,.pointer (some ⟨g6,0,none⟩),undef,undef,undef,u12,u13,u14,undef,u16,u17,u18,u19,u20,u21,u22,u23,u24,undef,undef,u27,u28,u29,u30,u31,undef,undef,undef,undef,undef,undef,undef,undef,undef,undef,undef,undef,undef,undef,undef,undef,undef,undef,undef,undef,undef,undef,undef,undef,undef,undef,undef,undef,undef,undef,undef,undef,undef,undef,undef,undef,undef],defers:= [] } W:=by
  intro g6 u7 u12 u13 u14 u16 u17 u18 u19 u20 u21 u22 u23 u24 u27 u28 u29 u30 u31 A1r6 L1r6 C1r6 F6 w4 bx gl hb hO hN hL
  have O6:=hide hO;have N6:=hide hN;have L6:=hide hL;have I6:=hide (T.ows_lt _ _ _ hO);clear hO hN hL
  have gl6:w3.heap.size≤g6:=gl;have gh6:g6<w4.heap.size:=bx.lt
  refine hK6 _ _ ?_
  clear hK6 K6
  have KBg6:=hide bx;have HGg6:=hide gl;have HGBg6:=hide hb;clear bx gl
  have H4:=hide (yG H3.out H3.out.size hb);have hs4:=hb.size
  replace KS:=hide (KS.out.below hb KS.out.lt)
  replace KE:=hide (KE.out.below hb KE.out.lt)
  replace KR:=hide (KR.out.below hb KR.out.lt)
  replace KB:=hide (KB.out.below hb KB.out.lt)
  clear hb
  have kcKS:=KS.out.cell;have klKS:=KS.out.lt
  have kcKE:=KE.out.cell;have klKE:=KE.out.lt
  have kcKR:=KR.out.cell;have klKR:=KR.out.lt
  have kcKB:=KB.out.cell;have klKB:=KB.out.lt
  have kcKBg6:=KBg6.out.cell;have klKBg6:=KBg6.out.lt
  have OS4:=hide (T.ows_all OS3.out HGBg6.out)
  go_wp2_with fail
  refine(DR.out _ H4.out).mono ?_;rintro e w5 ⟨rfl,hb⟩;have HX5:=hide hb
  clear kcKS klKS kcKE klKE kcKR klKR kcKB klKB kcKBg6 klKBg6
  have H5:=hide (yG H4.out H4.out.size hb);have hs5:=hb.size
  replace KS:=hide (KS.out.below hb KS.out.lt)
  replace KE:=hide (KE.out.below hb KE.out.lt)
  replace KR:=hide (KR.out.below hb KR.out.lt)
  replace KB:=hide (KB.out.below hb KB.out.lt)
  replace KBg6:=hide (KBg6.out.below hb KBg6.out.lt)
  replace O6:=hide (T.ows_all O6.out hb)
  replace OS4:=hide (T.ows_all OS4.out hb)
  clear hb
  have kcKS:=KS.out.cell;have klKS:=KS.out.lt
  have kcKE:=KE.out.cell;have klKE:=KE.out.lt
  have kcKR:=KR.out.cell;have klKR:=KR.out.lt
  have kcKB:=KB.out.cell;have klKB:=KB.out.lt
  have kcKBg6:=KBg6.out.cell;have klKBg6:=KBg6.out.lt
  go_wp2_with fail
  refine(c_iBlocks AF.1 _ _ h1000.out.1 h1000.out.2 (T.ows_rds _ _ _ OS4.out)).mono ?_;rintro e w6 ⟨rfl,hb⟩;have HX6:=hide hb;rw[HNB.out]
  clear kcKS klKS kcKE klKE kcKR klKR kcKB klKB kcKBg6 klKBg6
  have H6:=hide (yG H5.out H5.out.size hb);have hs6:=hb.size
  replace KS:=hide (KS.out.below hb KS.out.lt)
  replace KE:=hide (KE.out.below hb KE.out.lt)
  replace KR:=hide (KR.out.below hb KR.out.lt)
  replace KB:=hide (KB.out.below hb KB.out.lt)
  replace KBg6:=hide (KBg6.out.below hb KBg6.out.lt)
  replace O6:=hide (T.ows_all O6.out hb)
  replace OS4:=hide (T.ows_all OS4.out hb)
  clear hb
  have kcKS:=KS.out.cell;have klKS:=KS.out.lt
  have kcKE:=KE.out.cell;have klKE:=KE.out.lt
  have kcKR:=KR.out.cell;have klKR:=KR.out.lt
  have kcKB:=KB.out.cell;have klKB:=KB.out.lt
  have kcKBg6:=KBg6.out.cell;have klKBg6:=KBg6.out.lt
  have HB36:=hide (yG (yG HGBg6.out HGBg6.out.size HX5.out) (Nat.le_trans HGBg6.out.size HX5.out.size) HX6.out);have s46:w4.heap.size≤w6.heap.size:=Nat.le_trans HX5.out.size HX6.out.size;have s36:=HB36.out.size;have s12:w1.heap.size≤w2.heap.size:=hs2
  have g6R:g6≠w.heap.size+2:=fun e=>by have h:=KR3.out.lt;have h2:=HGg6.out;omega
  go_wp2
  clear kcKS klKS kcKE klKE kcKR klKR kcKB klKB kcKBg6 klKBg6
  go_loopw [41] (fun i wr=> ∃ (k:Nat) (v:Value),k≤nb∧i= .int .i64 (k:Int)∧OwI 2 wr w6.heap.size v (marksF x.zU rf rt k)∧T.ows wr [T.ints 2 x.yA] F6 [.slice A1r6 L1r6 C1r6]∧Bk wr g6 43 #[.int .i64 AF.1.zA,.slice A1 L1 C1,.slice A2 L2 C2,.slice A3 L3 C3,.slice A4 L4 C4,.slice A5 L5 C5,.slice A1r6 L1r6 C1r6,v]∧Below w3.heap.size w3 wr∧w6.heap.size≤wr.heap.size) (fun i _=>nb - (intOf i).toNat)
  case atStart=>exact⟨0,.slice none 0 0,Nat.zero_le _,rfl,OwI.nil_ _ _ _,O6.out,KBg6.out,HB36.out,Nat.le_refl _⟩
  case round=>
   obtain⟨k,v,hk,rfl,ho,hom,hkb,hbw,hsz⟩:=hrel
   obtain⟨tA,tL,tC,rfl⟩:=T.yT (T.ow_ints.2 ⟨ho.more (Nat.zero_le _),rfl⟩)
   have HO:=hide ho;have HM:=hide hom;have KG:=hide hkb;have HBW:=hide hbw;clear ho hom hkb hbw
   have KSr:=hide (KS3.out.below HBW.out KS3.out.lt);have KEr:=hide (KE3.out.below HBW.out KE3.out.lt);have KRr:=hide (KR3.out.below HBW.out KR3.out.lt);have KBr:=hide (KB3.out.below HBW.out KB3.out.lt);have Hr:=hide (yG H3_.out H3_.out.size HBW.out);have OSr:=hide (T.ows_all OS3.out HBW.out)
   clear KS KE KR KB O6 OS4 KBg6 DR HX5 HX6
   have kcS:=KSr.out.cell;have klS:=KSr.out.lt;have kcR:=KRr.out.cell;have klR:=KRr.out.lt;have kcG:=KG.out.cell;have klG:=KG.out.lt
   have s3r:=HBW.out.size
   by_cases hlt:k<nb
   rotate_left
   ·
    obtain rfl:k=nb:=by omega
    have fR:=KRr.out.free
    go_wp2
    refine bodyPost_ret (v:= .tuple #[.agg #[.int .i64 AF.1.zA,.slice A1 L1 C1,.slice A2 L2 C2,.slice A3 L3 C3,.slice A4 L4 C4,.slice A5 L5 C5,.slice A1r6 L1r6 C1r6,.slice tA tL tC],.int .i64 0]) (by simp[results,Tryz.results21,go_sem,kcR,fR,klR]) rfl ?_
    obtain⟨k1,k2,k3⟩:=cache_own2 (s0:=w1.heap.size) (s1:=w3.heap.size) (s2:=w6.heap.size) OSr.out NS.out LS.out (fun q hq=>Nat.lt_of_lt_of_le (IS.out q hq) hs3) (Nat.le_trans s12 hs3) HM.out N6.out (fun q hq=>(L6.out q hq).1) (fun q hq=>Nat.lt_of_lt_of_le (I6.out q hq) s46) s36 HO.out
    generalize F++F6++(Value.slice tA tL tC).ownBlock.toList=FF at *
    have hz1:=KR3.out.lt;have hz2:=H1.out.size
    have hzR:w.heap.size+2 ∉ FF:=fun hm=>by have:=k3 _ hm;omega
    rw[HE.out,HP.out,Int.toNat_natCast]
    exact⟨_,_,_,_,_,_,_,FF,rfl,⟨(T.yM (T.yM (T.yM (T.yM (T.yM (T.yM (T.yM (T.yM k1 hzR _ _) hzR _ _) hzR _ _) hzR _ _) hzR _ _) hzR _ _) hzR _ _) hzR _ _),k2,fun q hq=>by have:=k3 q hq;omega,((((((((Hr.out.setCell (by first|(simp;done)|(simp;omega)|omega) _).setCell (by first|(simp;done)|(simp;omega)|omega) _).setCell (by first|(simp;done)|(simp;omega)|omega) _).setCell (by first|(simp;done)|(simp;omega)|omega) _).setCell (by first|(simp;done)|(simp;omega)|omega) _).setCell (by first|(simp;done)|(simp;omega)|omega) _).setCell (by first|(simp;done)|(simp;omega)|omega) _).setCell (by first|(simp;done)|(simp;omega)|omega) _)⟩⟩
   have e1:IntKind.i64.wrap ((k:Int) * 16)=(k:Int) * 16:=IntWalk.i64_in _ (by omega)
   have e2:IntKind.i64.wrap ((k:Int)+1)=(k:Int)+1:=IntWalk.i64_in _ (by omega)
   have e3:IntKind.i64.wrap (((k:Int)+1) * 16)=((k:Int)+1) * 16:=IntWalk.i64_in _ (by omega)
   have hll:(marksF x.zU rf rt k).length+1≤17592186044416:=by have:=marksF_len x.zU rf rt k;omega
   by_cases h1:(k:Int) ∈ x.zU
   ·
    have q1:decide ((k:Int) ∈ x.zU)=true:=decide_eq_true h1
    have HQ:=hide (marksF_yes (show markB x.zU rf rt k=true from by unfold markB;rw[decide_eq_true h1];rfl))
    clear h1
    go_wp2_with (first|(go_at_call 29;refine(c_has _ x.zU _ _ (Rd.below R7.out Hr.out)).mono ?_;rintro e _ ⟨rfl,rfl⟩;rw[q1])|(at_builtin;refine app1_i64 (n:=(k:Int)) (v:= .slice tA tL tC) rfl _ _ rfl rfl HO.out rfl hll hsz ?_;intro v8 w8 ho8 hg8 hv8;obtain⟨t8,l8,c8,rfl⟩:=T.yT (T.ow_ints.2 ⟨ho8.more (Nat.zero_le _),rfl⟩);have HO8:=hide ho8;have HM8:=hide (T.ows_keep _ _ _ (fun b hb=>hg8.block b (by have h2:=I6.out b hb;omega) (fun e=>by have h1:=(HO.out.lt b e.symm).1;have h2:=I6.out b hb;omega)) HM.out);have KG8:=hide (KG.out.grown hg8 (fun e=>by have h1:=(HO.out.lt g6 e.symm).1;have h2:=gh6;omega));have HB8:=hide (below_own HBW.out HO.out hg8 s36 s3r);have s8:wr.heap.size≤w8.heap.size:=hg8.size;have kcG8:=KG8.out.cell;have klG8:=KG8.out.lt;have kfG8:=KG8.out.free;clear ho8 hg8 hv8 kcS klS kcR klR kcG klG))
    go_roundw
    case rel=>exact⟨k+1,.slice t8 l8 c8,by omega,by go_num,(by rw[HQ.out];exact OwI.far HO8.out (p:=⟨g6,7,none⟩) (fun b e=>by have h1:=(HO8.out.lt b e).1;have h2:=gh6;show b≠g6;omega) _),T.yM HM8.out (fun hm=>(L6.out g6 hm).2 rfl) 7 _,(by have:=KG8.out.set_ 7 (.slice t8 l8 c8);simpa using this),HB8.out.setCell HGg6.out _,by simp;omega⟩
    case measure=>simp[intOf];omega
   have q1:decide ((k:Int) ∈ x.zU)=false:=decide_eq_false h1
   by_cases h2:(k:Int) * 16<rt
   rotate_left
   ·
    have q2:decide ((k:Int) * 16<rt)=false:=decide_eq_false h2
    have HQ:=hide (marksF_no (show markB x.zU rf rt k=false from by unfold markB;rw[decide_eq_false h1,decide_eq_false h2];rfl))
    clear h1
    go_wp2_with (go_at_call 29;refine(c_has _ x.zU _ _ (Rd.below R7.out Hr.out)).mono ?_;rintro e _ ⟨rfl,rfl⟩;rw[q1])
    go_roundw
    case rel=>exact⟨k+1,.slice tA tL tC,by omega,by go_num,(by rw[HQ.out];exact HO.out),HM.out,KG.out,HBW.out,hsz⟩
    case measure=>simp[intOf];omega
   have q2:decide ((k:Int) * 16<rt)=true:=decide_eq_true h2
   by_cases h3:rf<((k:Int)+1) * 16
   ·
    have q3:decide (rf<((k:Int)+1) * 16)=true:=decide_eq_true h3
    have HQ:=hide (marksF_yes (show markB x.zU rf rt k=true from by unfold markB;rw[decide_eq_false h1,decide_eq_true h2,decide_eq_true h3];rfl))
    clear h1
    go_wp2_with (first|(go_at_call 29;refine(c_has _ x.zU _ _ (Rd.below R7.out Hr.out)).mono ?_;rintro e _ ⟨rfl,rfl⟩;rw[q1])|(at_builtin;refine app1_i64 (n:=(k:Int)) (v:= .slice tA tL tC) rfl _ _ rfl rfl HO.out rfl hll hsz ?_;intro v8 w8 ho8 hg8 hv8;obtain⟨t8,l8,c8,rfl⟩:=T.yT (T.ow_ints.2 ⟨ho8.more (Nat.zero_le _),rfl⟩);have HO8:=hide ho8;have HM8:=hide (T.ows_keep _ _ _ (fun b hb=>hg8.block b (by have h2:=I6.out b hb;omega) (fun e=>by have h1:=(HO.out.lt b e.symm).1;have h2:=I6.out b hb;omega)) HM.out);have KG8:=hide (KG.out.grown hg8 (fun e=>by have h1:=(HO.out.lt g6 e.symm).1;have h2:=gh6;omega));have HB8:=hide (below_own HBW.out HO.out hg8 s36 s3r);have s8:wr.heap.size≤w8.heap.size:=hg8.size;have kcG8:=KG8.out.cell;have klG8:=KG8.out.lt;have kfG8:=KG8.out.free;clear ho8 hg8 hv8 kcS klS kcR klR kcG klG))
    go_roundw
    case rel=>exact⟨k+1,.slice t8 l8 c8,by omega,by go_num,(by rw[HQ.out];exact OwI.far HO8.out (p:=⟨g6,7,none⟩) (fun b e=>by have h1:=(HO8.out.lt b e).1;have h2:=gh6;show b≠g6;omega) _),T.yM HM8.out (fun hm=>(L6.out g6 hm).2 rfl) 7 _,(by have:=KG8.out.set_ 7 (.slice t8 l8 c8);simpa using this),HB8.out.setCell HGg6.out _,by simp;omega⟩
    case measure=>simp[intOf];omega
   have q3:decide (rf<((k:Int)+1) * 16)=false:=decide_eq_false h3
   have HQ:=hide (marksF_no (show markB x.zU rf rt k=false from by unfold markB;rw[decide_eq_false h1,decide_eq_true h2,decide_eq_false h3];rfl))
   clear h1
   go_wp2_with (go_at_call 29;refine(c_has _ x.zU _ _ (Rd.below R7.out Hr.out)).mono ?_;rintro e _ ⟨rfl,rfl⟩;rw[q1])
   go_roundw
   case rel=>exact⟨k+1,.slice tA tL tC,by omega,by go_num,(by rw[HQ.out];exact HO.out),HM.out,KG.out,HBW.out,hsz⟩
   case measure=>simp[intOf];omega
 have ltKS6:=KS.out.lt
 have ltKB6:=KB.out.lt
 go_region_held3 (fun w'=>(∀ i,w'.cell? ⟨w.heap.size,i,none⟩= #[.int .i64 x.zB.zA,(.slice va1 x.zB.zG.length vc1),(.slice va2 x.zB.zE.length vc2),(.slice va3 x.zB.zK.length vc3),(.slice va4 x.zB.zJ.length vc4),(.slice va5 x.zB.zF.zD.length vc5),(.slice va6 x.yA.length vc6),(.slice va7 x.zU.length vc7)][i]?)∧(∀ i,w'.cell? ⟨w2.heap.size,i,none⟩= #[.int .i64 AF.1.zA,.slice A1 L1 C1,.slice A2 L2 C2,.slice A3 L3 C3,.slice A4 L4 C4,.slice A5 L5 C5][i]?)) ((((try simp only[World.cell?_drew]));first|with_reducible exact⟨KS.out.cell,KB.out.cell⟩|with_reducible exact⟨(KS.out.alloc _).cell,(KB.out.alloc _).cell⟩|with_reducible exact⟨KS6_0.out.cell,KB6_0.out.cell⟩|with_reducible exact⟨(KS6_0.out.alloc _).cell,(KB6_0.out.alloc _).cell⟩|with_reducible exact⟨(Bk.far (Bk.far (Bk.far (Bk.far (Bk.far (Bk.far (Bk.far (Bk.far KS6_0.out (p:=⟨w3.heap.size,0,none⟩) (Nat.ne_of_lt (by with_reducible assumption)) (.int .i64 AF.1.zA)) (p:=⟨w3.heap.size,1,none⟩) (Nat.ne_of_lt (by with_reducible assumption)) (.slice A1 L1 C1)) (p:=⟨w3.heap.size,2,none⟩) (Nat.ne_of_lt (by with_reducible assumption)) (.slice A2 L2 C2)) (p:=⟨w3.heap.size,3,none⟩) (Nat.ne_of_lt (by with_reducible assumption)) (.slice A3 L3 C3)) (p:=⟨w3.heap.size,4,none⟩) (Nat.ne_of_lt (by with_reducible assumption)) (.slice A4 L4 C4)) (p:=⟨w3.heap.size,5,none⟩) (Nat.ne_of_lt (by with_reducible assumption)) (.slice A5 L5 C5)) (p:=⟨w3.heap.size,6,none⟩) (Nat.ne_of_lt (by with_reducible assumption)) (.slice A1r6 L1r6 C1r6)) (p:=⟨w3.heap.size,7,none⟩) (Nat.ne_of_lt (by with_reducible assumption)) (.slice none 0 0)).cell,(Bk.far (Bk.far (Bk.far (Bk.far (Bk.far (Bk.far (Bk.far (Bk.far KB6_0.out (p:=⟨w3.heap.size,0,none⟩) (Nat.ne_of_lt (by with_reducible assumption)) (.int .i64 AF.1.zA)) (p:=⟨w3.heap.size,1,none⟩) (Nat.ne_of_lt (by with_reducible assumption)) (.slice A1 L1 C1)) (p:=⟨w3.heap.size,2,none⟩) (Nat.ne_of_lt (by with_reducible assumption)) (.slice A2 L2 C2)) (p:=⟨w3.heap.size,3,none⟩) (Nat.ne_of_lt (by with_reducible assumption)) (.slice A3 L3 C3)) (p:=⟨w3.heap.size,4,none⟩) (Nat.ne_of_lt (by with_reducible assumption)) (.slice A4 L4 C4)) (p:=⟨w3.heap.size,5,none⟩) (Nat.ne_of_lt (by with_reducible assumption)) (.slice A5 L5 C5)) (p:=⟨w3.heap.size,6,none⟩) (Nat.ne_of_lt (by with_reducible assumption)) (.slice A1r6 L1r6 C1r6)) (p:=⟨w3.heap.size,7,none⟩) (Nat.ne_of_lt (by with_reducible assumption)) (.slice none 0 0)).cell⟩|(trace_state;fail))) (first|(go_at_call 57;refine(c_clone _ x.yA _ (Rd.below R6.out (by first|with_reducible exact H3.out|with_reducible exact H3.out.drew|with_reducible exact(below_drewN H3.out _)|with_reducible exact(H3.out.alloc (H3.out.size) _)|with_reducible exact(H3.out.alloc (H3.out.size) _).drew|with_reducible exact((H3.out.drew).alloc (H3.out.size) _)|with_reducible exact(below_drewN (H3.out.alloc (H3.out.size) _) _)|with_reducible exact((below_drewN H3.out _).alloc (H3.out.size) _))) HML.out).mono ?_;rintro e wA6 ⟨vm,rfl,hom,hb⟩;obtain⟨A1r6,L1r6,C1r6,rfl⟩:=T.yT (T.ow_ints.2 ⟨hom.more (Nat.zero_le _),rfl⟩);have hNq:=Nw.ints hom hb;generalize (Value.slice A1r6 L1r6 C1r6).ownBlock.toList=F6 at hNq;have HNW:=hide hNq;clear hNq hom;have E6_0:=hide (show Below w3.heap.size w3 wA6 from(by first|with_reducible exact hb|with_reducible exact undrew hb|with_reducible exact undrewN hb|with_reducible exact yJ hb|with_reducible exact undrew (yJ hb)|with_reducible exact yJ (undrew hb)|with_reducible exact undrewN (yJ hb)|with_reducible exact yJ (undrewN hb)));have D6_0:=hide (show Below w3.heap.size w3 wA6 from E6_0.out);have KS6_0:=hide (KS.out.below D6_0.out KS.out.lt);have KB6_0:=hide (KB.out.below D6_0.out KB.out.lt);(try (have G6_0_0:=hide (show Bk wA6 w3.heap.size 43 #[.int .i64 0,.slice none 0 0,.slice none 0 0,.slice none 0 0,.slice none 0 0,.slice none 0 0,.slice none 0 0,.slice none 0 0] from by first|exact Bk.below (Bk.born _ _ _) hb (by simp)|exact Bk.below (Bk.drew (Bk.born _ _ _)) hb (by simp))));have ltKS6_0:=KS6_0.out.lt;have ltKB6_0:=KB6_0.out.lt;(try (have gc:=G6_0_0.out.cell;have gf:=G6_0_0.out.free;have gll:=G6_0_0.out.lt));clear hb))
 ·
  have hlo: ∀ b ∈ F6,w3.heap.size≤b:=fun b hb=>by have h1:=HNW.out.lo b hb;exact Nat.le_trans (Nat.le_refl _) h1
  have hlt:=HNW.out.lt
  exact REST6 wA6.heap.size _ _ _ _ _ _ _ _ _ _ _ _ _ _ _ _ _ _ _ _ _ _ _ (Bk.born _ _ _) D6_0.out.size (D6_0.out.alloc D6_0.out.size _) (T.ows_all HNW.out.ows ((Below.refl _ _).alloc (Nat.le_refl _) _)) HNW.out.nodup (fun b hb=>by have h1:=hlo b hb;have h2:=hlt b hb;exact⟨by omega,by omega⟩)
 ·
  have hgl:w3.heap.size≤w3.heap.size:=Nat.le_refl _
  have hlo: ∀ b ∈ F6,w3.heap.size<b:=fun b hb=>by have h1:=HNW.out.lo b hb;refine Nat.lt_of_lt_of_le ?_ h1;first|exact(Bk.born _ _ _).lt|exact(Bk.drew (Bk.born _ _ _)).lt
  have hlg:w3.heap.size<(w3.alloc (.cells #[.int .i64 0,.slice none 0 0,.slice none 0 0,.slice none 0 0,.slice none 0 0,.slice none 0 0,.slice none 0 0,.slice none 0 0] 43)).heap.size:=by simp
  have hgn:w3.heap.size ∉ F6:=fun hm=>by have h1:=hlo _ hm;omega
  exact REST6 (w3.heap.size) _ _ _ _ _ _ _ _ _ _ _ _ _ _ _ _ _ _ _ _ _ _ _ (by have:=(Bk.set_ (Bk.set_ (Bk.set_ (Bk.set_ (Bk.set_ (Bk.set_ (Bk.set_ (Bk.set_ G6_0_0.out 0 (.int .i64 AF.1.zA)) 1 (.slice A1 L1 C1)) 2 (.slice A2 L2 C2)) 3 (.slice A3 L3 C3)) 4 (.slice A4 L4 C4)) 5 (.slice A5 L5 C5)) 6 (.slice A1r6 L1r6 C1r6)) 7 (.slice none 0 0));simpa using this) hgl (Below.setCell (p:=⟨w3.heap.size,7,none⟩) (Below.setCell (p:=⟨w3.heap.size,6,none⟩) (Below.setCell (p:=⟨w3.heap.size,5,none⟩) (Below.setCell (p:=⟨w3.heap.size,4,none⟩) (Below.setCell (p:=⟨w3.heap.size,3,none⟩) (Below.setCell (p:=⟨w3.heap.size,2,none⟩) (Below.setCell (p:=⟨w3.heap.size,1,none⟩) (Below.setCell (p:=⟨w3.heap.size,0,none⟩) D6_0.out hgl (.int .i64 AF.1.zA)) hgl (.slice A1 L1 C1)) hgl (.slice A2 L2 C2)) hgl (.slice A3 L3 C3)) hgl (.slice A4 L4 C4)) hgl (.slice A5 L5 C5)) hgl (.slice A1r6 L1r6 C1r6)) hgl (.slice none 0 0)) (T.yM (T.yM (T.yM (T.yM (T.yM (T.yM (T.yM (T.yM HNW.out.ows hgn 0 (.int .i64 AF.1.zA)) hgn 1 (.slice A1 L1 C1)) hgn 2 (.slice A2 L2 C2)) hgn 3 (.slice A3 L3 C3)) hgn 4 (.slice A4 L4 C4)) hgn 5 (.slice A5 L5 C5)) hgn 6 (.slice A1r6 L1r6 C1r6)) hgn 7 (.slice none 0 0)) HNW.out.nodup (fun b hb=>by have h1:=hlo b hb;exact⟨by omega,by omega⟩)
end Go.Proofs.YteiflbhcehajkaaGreat
end
section
namespace Go.Proofs.YteiflbhcehajkaaGreat
open Go.ChangeShapes
theorem words_pre: ∀ (a r:List Char),(a.all fun c=>c != Char.ofNat 32)=true→wordsSigns (a++Char.ofNat 32 :: r)=a :: wordsSigns r
 | [],r,_=>rfl
 |c :: a,r,h=>by
  simp only[List.all_cons,Bool.and_eq_true,bne_iff_ne,ne_eq] at h
  have ih:=words_pre a r (by simpa using h.2)
  rw[List.cons_append]
  conv=>lhs;unfold wordsSigns
  split
  ·rename_i e;cases e
  ·rename_i e
   injection e with e1 _
   exact absurd e1 h.1
  ·rename_i e
   injection e with e1 e2
   subst e1 e2
   rw[ih]
theorem head_list: ∃ l,Tryz.prog.initOrder=String.ofList l∧("harness 90685468c3dd45abda38a953e599dac05c7727aeac59c7499461852a3f18cadc cut ".toList).isPrefixOf l=true:=by
 refine⟨_,rfl,?_⟩
 kernel_rfl
theorem head_words: ∃ X,wordsSigns Tryz.prog.initOrder.toList= "harness".toList :: "90685468c3dd45abda38a953e599dac05c7727aeac59c7499461852a3f18cadc".toList :: "cut".toList :: X:=by
 obtain⟨l,hl,hp⟩:=head_list
 obtain⟨r,hr⟩:=List.isPrefixOf_iff_prefix.1 hp
 have e: "harness 90685468c3dd45abda38a953e599dac05c7727aeac59c7499461852a3f18cadc cut ".toList= "harness".toList++Char.ofNat 32 :: ("90685468c3dd45abda38a953e599dac05c7727aeac59c7499461852a3f18cadc".toList++Char.ofNat 32 :: ("cut".toList++ [Char.ofNat 32])):=by kernel_rfl
 refine⟨wordsSigns r,?_⟩
 rw[hl,String.toList_ofList,←hr,e]
 simp only[List.append_assoc,List.cons_append,List.nil_append]
 rw[words_pre _ _ (by kernel_rfl),words_pre _ _ (by kernel_rfl),words_pre _ _ (by kernel_rfl)]
theorem behind: ∃ X,behindMainWord (wordsSigns Tryz.prog.initOrder.toList)= "cut".toList :: X:=by
 obtain⟨X,hX⟩:=head_words
 refine⟨X,?_⟩
 rw[hX]
 have e1:("harness".toList == "harness".toList || "harness".toList == "ownmain".toList)=true:=by kernel_rfl
 have e2:isSumSigns "90685468c3dd45abda38a953e599dac05c7727aeac59c7499461852a3f18cadc".toList=true:=by kernel_rfl
 unfold behindMainWord
 dsimp only
 rw[e1,e2];rfl
section
variable {P:Program} {X:List (List Char)}
theorem make_of (hX:behindMainWord (wordsSigns P.initOrder.toList)= "cut".toList :: X):P.make=some .cut:=by
 unfold Program.make
 rw[hX];rfl
theorem lifts_of (X:List (List Char)):stripLifts liftWords ("cut".toList :: X)=([], "cut".toList :: X):=rfl
theorem headLifts_of (hX:behindMainWord (wordsSigns P.initOrder.toList)= "cut".toList :: X):P.headLifts= []:=by
 unfold Program.headLifts
 rw[hX,lifts_of];rfl
theorem liftsFinal_of (hX:behindMainWord (wordsSigns P.initOrder.toList)= "cut".toList :: X):P.liftsFinal=false:=by
 unfold Program.liftsFinal
 rw[hX,headLifts_of hX];rfl
theorem mayEnter_of (hX:behindMainWord (wordsSigns P.initOrder.toList)= "cut".toList :: X) (h1:P.laysLater=false) (h2:P.bearsReflect=false) (h3:P.doorFits []=true):P.mayEnter=true:=by
 unfold Program.mayEnter
 rw[hX]
 dsimp only
 rw[lifts_of,h1,h2,h3]
 rfl
end
theorem make_is:Tryz.prog.make=some .cut:=by
 obtain⟨X,hX⟩:=behind
 exact make_of hX
theorem liftsFinal_is:Tryz.prog.liftsFinal=false:=by
 obtain⟨X,hX⟩:=behind
 exact liftsFinal_of hX
theorem mayEnter_is:Tryz.prog.mayEnter=true:=by
 obtain⟨X,hX⟩:=behind
 exact mayEnter_of hX (by kernel_rfl) (by kernel_rfl) (by kernel_rfl)
theorem laidOut_is:laidOutB Tryz.prog=true:=by kernel_rfl
theorem own_is:ownKnob Tryz.prog.godebug=none:=by kernel_rfl
end Go.Proofs.YteiflbhcehajkaaGreat
end
