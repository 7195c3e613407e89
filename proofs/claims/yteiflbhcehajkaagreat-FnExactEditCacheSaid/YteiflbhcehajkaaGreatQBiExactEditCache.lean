/- Contract: l31Clips, reference. Contracts: states, by the reference. -/
import Derived.Test.YteiflbhcehajkaaGreatQBeExactEditCache
import Derived.Test.YteiflbhcehajkaaGreatQBfExactEditCache
import Derived.Test.YteiflbhcehajkaaGreatQBaExactEditCache
import Derived.Test.YteiflbhcehajkaaGreatQBhExactEditCache
import Derived.StillTailTactics
import Derived.Deep.RegionHeldLaw
import Derived.Test.YteiflbhcehajkaaGreatQAvExactEditCache
set_option linter.unusedVariables false
set_option linter.unusedSimpArgs false
set_option maxHeartbeats 2000000
set_option maxRecDepth 100000
section
namespace Go.Proofs.YteiflbhcehajkaaGreat
open Go.RowKit
/-- The clips that an edit removes, adds or leads elsewhere, in the reference's order. -/
def clipsL (s:GSession) (e:GEdit):List GClip:=
 if e.zC=1 then [e.zP] else if e.zC=2 then [clipAt s e] else if e.zC=3 then [e.zP,clipAt s e]
 else if e.zY=s.zK.getD e.zV.toNat 0 then [] else clipsAt s e.zV
theorem clipsL_span {s:GSession} {e:GEdit} :spanF (clipsL s e)=spanF (changedL s e)∧(clipsL s e= []↔changedL s e= [])∧ ∀ c,c ∈ clipsL s e↔c ∈ changedL s e:=by
 unfold clipsL changedL
 by_cases h1:e.zC=1
 ·rw[if_pos h1,if_pos h1];exact⟨rfl,Iff.rfl,fun _=>Iff.rfl⟩
 ·by_cases h2:e.zC=2
  ·rw[if_neg h1,if_neg h1,if_pos h2,if_pos h2];exact⟨rfl,Iff.rfl,fun _=>Iff.rfl⟩
  ·by_cases h3:e.zC=3
   ·rw[if_neg h1,if_neg h1,if_neg h2,if_neg h2,if_pos h3,if_pos h3]
    exact⟨spanF_swap _ _,by simp,fun c=>by simp[or_comm]⟩
   ·rw[if_neg h1,if_neg h1,if_neg h2,if_neg h2,if_neg h3,if_neg h3];exact⟨rfl,Iff.rfl,fun _=>Iff.rfl⟩
theorem clips_own {w:World} {B n:Nat} {E:TypeId} {l:List GClip} {v:Value} {cs:List Value} (ho:w.ownsRow B E 5 v n cs) (hn:n=l.length) (h:T.rds w (l.map GClip.t) cs):T.rd w (T.sl E 5 (l.map GClip.t)) [v]:=by
 subst hn
 simp only[T.rd]
 exact⟨v,cs,rfl,fun x hx=>by obtain⟨y,_,rfl⟩:=List.mem_map.1 hx;exact GClip.wide_t y,by rw[List.length_map];exact Rd.of_own ho,h⟩
theorem clips_rd1 {w:World} {g:Nat} {E:TypeId} {cs:Array Value} (hb:Bk w g E cs) (hl:cs.size=5:=by rfl):Rd w (.slice (some ⟨g,0,none⟩) 1 1) 5 1 cs.toList:=
 ⟨by simpa using hl,_,1,rfl,Nat.le_refl _,by decide,fun _=>⟨g,0,rfl,hb.lt,fun j u hj=>by rw[Nat.zero_add];exact(hb.cell j).trans (by simpa using hj)⟩⟩
theorem clips_rd2 {w:World} {g:Nat} {E:TypeId} {cs:Array Value} (hb:Bk w g E cs) (hl:cs.size=10:=by rfl):Rd w (.slice (some ⟨g,0,none⟩) 2 2) 5 2 cs.toList:=
 ⟨by simpa using hl,_,2,rfl,Nat.le_refl _,by decide,fun _=>⟨g,0,rfl,hb.lt,fun j u hj=>by rw[Nat.zero_add];exact(hb.cell j).trans (by simpa using hj)⟩⟩
theorem c_l31Clips (x:GSession) (b o:Nat) (ed:GEdit) (b' o':Nat) (w:World) (hs:x.small) (hv:SessionOk x) (hr:RangeOk x ed) (hk:ed.zC=1∨ed.zC=2∨ed.zC=3∨ed.zC=4) (he:T.at w ed.fs b' o') (h:T.at w x.fs b o):Calls Tryz.prog 164 #[.pointer (some ⟨b,o,none⟩),.pointer (some ⟨b',o',none⟩)] w fun e w'=> ∃ v,e= .returned v∧T.rd w' (T.sl 60 5 ((clipsL x ed).map GClip.t)) [v]∧Below w.heap.size w w':=by
 have HAT:=hide h
 have HRG:=hide hr;have HV:=hide hv;have HK:=hide hk;have HSM:=hide hs;clear hr hv hk hs
 obtain⟨hlt0,cs,hr,hc⟩:=h
 obtain⟨v1,v2,v3,v4,v5,rfl,h1,h2,h3,h4,h5⟩:=GSession.yL hr
 clear hr
 have R1:=hide h1;obtain⟨va1,vc1,rfl,vl1,vm1,vx1⟩:=T.yK h1
 have HX1:=hide vx1;clear vx1 h1
 have R2:=hide h2;obtain⟨va2,vc2,rfl,vl2,vm2,vx2⟩:=T.yK h2
 have HX2:=hide vx2;clear vx2 h2
 have h3i:=T.yQ.1 h3;obtain⟨va3,vc3,rfl,vl3,vm3,vx3⟩:=h3i.open_
 have R3:=hide h3i;have HX3:=hide vx3;clear vx3 h3 h3i
 have R4:=hide h4;obtain⟨va4,vc4,rfl,vl4,vm4,vx4⟩:=T.yK h4
 have HX4:=hide vx4;clear vx4 h4
 have R5:=hide h5;obtain⟨va5,vc5,rfl,vl5,vm5,vx5⟩:=T.yK h5
 have HX5:=hide vx5;clear vx5 h5
 have HL:=hide hlt0;have HCC:=hide hc;have HB0:=hide (Below.refl w.heap.size w);clear hlt0 hc
 obtain⟨ek,et,ec,ev,ns,nf,nl,na,ng⟩:=ed
 obtain⟨hlt',cs',hr',hc'⟩:=he
 obtain rfl:=GEdit.yL hr'
 dsimp only at hc' HK
 have hk5:(⟨ek,et,ec,ev,⟨ns,nf,nl,na,ng⟩⟩:GEdit).zC≠5:=by have:=HK.out;show ek≠5;omega
 obtain⟨k,t,hk,ht⟩:=range_track HRG.out hk5
 obtain rfl:et=(k:Int):=hk
 have hlt:k<x.zE.length:=(List.getElem?_eq_some_iff.1 ht).1
 have hr:=HRG.out;unfold RangeOk at hr;rw[if_neg hk5] at hr
 have hr:=hr.2;dsimp only at hr;rw[clipsAt_of ht] at hr
 have HCLK:=hide (clipsAt_of ht)
 have hny:t.zL.length≤1048576:=HSM.out.2.1.2 t (List.mem_of_getElem? ht)
 obtain⟨b1,off,cs1,hA,hb1,hcs,hcell⟩:=HX2.out k t ht
 subst hA
 have HBr:=hide (Below.refl w.heap.size w)
 obtain⟨u0,rfl,hRY0⟩:=GTrack.yL (show T.rds _ _ _ by simpa only[GTrack.t,T.rd] using hcs)
 have d0:=(HBr.out.cell hb1).trans (hcell 0 (u0) rfl)
 rw[show off+(k * 1+0)=off+k by omega] at d0
 have RY0:=hide (T.yC hRY0 HBr.out);clear hRY0
 clear hcs hcell
 obtain⟨ua0,uc0,rfl,ul0,um0,ux0⟩:=T.yK RY0.out;have HUX:=hide ux0;clear ux0 ht hk5
 have hi0:(0:Int)≤(k:Int):=by omega
 have hi1:(k:Int)<(x.zE.length:Int):=by omega
 have HB1:=hide (show Below w.heap.size w (w.alloc (.cells #[] 60)) from(Below.refl _ _).alloc (Nat.le_refl _) _)
 have HM1:=hide (World.ownsRow_made w #[] 0 (Nat.le_refl _) (by decide) rfl:(w.alloc (.cells #[] 60)).ownsRow w.heap.size 60 5 (.slice (some ⟨w.heap.size,0,none⟩) 0 0) 0 [])
 by_cases k1:ek=1
 ·
  have q1:(ek == 1)=true:=yP k1
  have HC:=hide (show clipsL x ⟨ek,(k:Int),ec,ev,⟨ns,nf,nl,na,ng⟩⟩= [⟨ns,nf,nl,na,ng⟩] by unfold clipsL;rw[if_pos k1]);clear k1 hr
  have c0:(w.alloc (.cells #[] 60)).cell? ⟨b',o',none⟩=some (.int .i64 ek):=(HB1.out.cell hlt').trans (hc' 0 _ rfl)
  have c1:(w.alloc (.cells #[] 60)).cell? ⟨b',o'+1,none⟩=some (.int .i64 (k:Int)):=(HB1.out.cell hlt').trans (hc' 1 _ rfl)
  have c2:(w.alloc (.cells #[] 60)).cell? ⟨b',o'+2,none⟩=some (.int .i64 ec):=(HB1.out.cell hlt').trans (hc' 2 _ rfl)
  have c3:(w.alloc (.cells #[] 60)).cell? ⟨b',o'+3,none⟩=some (.int .i64 ev):=(HB1.out.cell hlt').trans (hc' 3 _ rfl)
  have c4:(w.alloc (.cells #[] 60)).cell? ⟨b',o'+4,none⟩=some (.int .i64 ns):=(HB1.out.cell hlt').trans (hc' 4 _ rfl)
  have c5:(w.alloc (.cells #[] 60)).cell? ⟨b',o'+5,none⟩=some (.int .i64 nf):=(HB1.out.cell hlt').trans (hc' 5 _ rfl)
  have c6:(w.alloc (.cells #[] 60)).cell? ⟨b',o'+6,none⟩=some (.int .i64 nl):=(HB1.out.cell hlt').trans (hc' 6 _ rfl)
  have c7:(w.alloc (.cells #[] 60)).cell? ⟨b',o'+7,none⟩=some (.int .i64 na):=(HB1.out.cell hlt').trans (hc' 7 _ rfl)
  have c8:(w.alloc (.cells #[] 60)).cell? ⟨b',o'+8,none⟩=some (.int .i64 ng):=(HB1.out.cell hlt').trans (hc' 8 _ rfl)
  have lb':=Nat.lt_of_lt_of_le hlt' HB1.out.size
  have HVS:=hide (GClip.rd_mk (x:=⟨ns,nf,nl,na,ng⟩):T.rds w (GClip.fs ⟨ns,nf,nl,na,ng⟩) [.int .i64 ns,.int .i64 nf,.int .i64 nl,.int .i64 na,.int .i64 ng])
  have hz1:=HB1.out.size
  go_enter Tryz.func164,Tryz.ntmps164
  go_wp2_with (at_builtin;refine app_one (news:= #[.int .i64 ns,.int .i64 nf,.int .i64 nl,.int .i64 na,.int .i64 ng]) rfl _ _ _ rfl w.heap.size _ _ 5 40 Tryz.underlying124 info_ClipS rfl (by omega) (.slice (some ⟨w.heap.size,0,none⟩) 0 0) 0 [] rfl HM1.out (by first|(simp[go_sem];done)|(simp;done)) rfl (T.rds_cell _ _ HVS.out) (by omega) (by omega) hz1 ?_;intro v8 w8 hr8 hg8 hv8;have HB8:=hide (grown_all HB1.out hg8 (fun k hk=>(HM1.out.lt k hk).1));have HM8:=hide hr8;clear hr8 hg8 hv8 c0 c1 c2 c3 c4 c5 c6 c7 c8)
  go_ret
  rw[HC.out]
  exact⟨_,rfl,clips_own HM8.out rfl (T.rds_cons1 GClip.rd_mk),HB8.out⟩
 have q1:(ek == 1)=false:=yO k1
 by_cases k3:ek=3
 ·
  have q3:(ek == 3)=true:=yP k3
  rw[if_neg k1,if_pos k3] at hr;have hec:=yY.1 hr.1;clear hr
  obtain⟨j,rfl⟩: ∃ j:Nat,ec=(j:Int):=⟨ec.toNat,by omega⟩
  have hlj:j<t.zL.length:=by omega
  have hgj:=List.getElem?_eq_getElem hlj
  have HCJ:=hide (show clipAt x ⟨ek,(k:Int),(j:Int),ev,⟨ns,nf,nl,na,ng⟩⟩=t.zL[j] by unfold clipAt;dsimp only;rw[HCLK.out,Int.toNat_natCast,List.getD_eq_getElem?_getD,hgj];rfl)
  obtain⟨b6,o6,cs6,hA6,hb6,hcs6,hcell6⟩:=HUX.out j _ hgj
  subst hA6
  generalize t.zL[j]=c at *;clear hgj
  have hj0:(0:Int)≤(j:Int):=by omega
  have hj1:(j:Int)<(t.zL.length:Int):=by omega
  have HC:=hide (show clipsL x ⟨ek,(k:Int),(j:Int),ev,⟨ns,nf,nl,na,ng⟩⟩= [⟨ns,nf,nl,na,ng⟩,c] by unfold clipsL;rw[if_neg k1,if_neg (by dsimp only;omega),if_pos k3,HCJ.out]);clear k1 k3 hec
  have c0:(w.alloc (.cells #[] 60)).cell? ⟨b',o',none⟩=some (.int .i64 ek):=(HB1.out.cell hlt').trans (hc' 0 _ rfl)
  have c1:(w.alloc (.cells #[] 60)).cell? ⟨b',o'+1,none⟩=some (.int .i64 (k:Int)):=(HB1.out.cell hlt').trans (hc' 1 _ rfl)
  have c2:(w.alloc (.cells #[] 60)).cell? ⟨b',o'+2,none⟩=some (.int .i64 (j:Int)):=(HB1.out.cell hlt').trans (hc' 2 _ rfl)
  have c3:(w.alloc (.cells #[] 60)).cell? ⟨b',o'+3,none⟩=some (.int .i64 ev):=(HB1.out.cell hlt').trans (hc' 3 _ rfl)
  have c4:(w.alloc (.cells #[] 60)).cell? ⟨b',o'+4,none⟩=some (.int .i64 ns):=(HB1.out.cell hlt').trans (hc' 4 _ rfl)
  have c5:(w.alloc (.cells #[] 60)).cell? ⟨b',o'+5,none⟩=some (.int .i64 nf):=(HB1.out.cell hlt').trans (hc' 5 _ rfl)
  have c6:(w.alloc (.cells #[] 60)).cell? ⟨b',o'+6,none⟩=some (.int .i64 nl):=(HB1.out.cell hlt').trans (hc' 6 _ rfl)
  have c7:(w.alloc (.cells #[] 60)).cell? ⟨b',o'+7,none⟩=some (.int .i64 na):=(HB1.out.cell hlt').trans (hc' 7 _ rfl)
  have c8:(w.alloc (.cells #[] 60)).cell? ⟨b',o'+8,none⟩=some (.int .i64 ng):=(HB1.out.cell hlt').trans (hc' 8 _ rfl)
  have lb':=Nat.lt_of_lt_of_le hlt' HB1.out.size
  have p2:(w.alloc (.cells #[] 60)).cell? ⟨b,o+2,none⟩=some (.slice (some ⟨b1,off,none⟩) x.zE.length vc2):=(HB1.out.cell HL.out).trans (HCC.out 2 _ rfl)
  have lb:b<(w.alloc (.cells #[] 60)).heap.size:=Nat.lt_of_lt_of_le HL.out HB1.out.size
  obtain rfl:=GClip.yL (show T.rds _ _ _ by simpa only[GClip.t,T.rd] using hcs6)
  have s0:=(HB1.out.cell hb6).trans (hcell6 0 (.int .i64 c.zO) rfl)
  have s1:=(HB1.out.cell hb6).trans (hcell6 1 (.int .i64 c.zI) rfl)
  have s2:=(HB1.out.cell hb6).trans (hcell6 2 (.int .i64 c.zA) rfl)
  have s3:=(HB1.out.cell hb6).trans (hcell6 3 (.int .i64 c.zW) rfl)
  have s4:=(HB1.out.cell hb6).trans (hcell6 4 (.int .i64 c.zQ) rfl)
  rw[show o6+(j * 5+0)=o6+j * 5 by omega] at s0
  rw[show o6+(j * 5+1)=o6+j * 5+1 by omega] at s1
  rw[show o6+(j * 5+2)=o6+j * 5+2 by omega] at s2
  rw[show o6+(j * 5+3)=o6+j * 5+3 by omega] at s3
  rw[show o6+(j * 5+4)=o6+j * 5+4 by omega] at s4
  clear hcs6 hcell6
  have e0:=(HB1.out.cell hb1).trans d0;have lb1:=Nat.lt_of_lt_of_le hb1 HB1.out.size
  have lb6:=Nat.lt_of_lt_of_le hb6 HB1.out.size
  have hz0:w.heap.size≤(w.alloc (.cells #[] 60)).heap.size:=HB1.out.size
  have HVS:=hide (T.rds_cons2 (GClip.rd_mk (x:=⟨ns,nf,nl,na,ng⟩)) (GClip.rd_mk (x:=c)):T.rds w ([(⟨ns,nf,nl,na,ng⟩:GClip),c].map GClip.t) ([.int .i64 ns,.int .i64 nf,.int .i64 nl,.int .i64 na,.int .i64 ng]++ [.int .i64 c.zO,.int .i64 c.zI,.int .i64 c.zA,.int .i64 c.zW,.int .i64 c.zQ]))
  go_enter Tryz.func164,Tryz.ntmps164
  go_wp2
  generalize (w.alloc (.cells #[] 60))=W1 at *
  generalize hv0:Value.slice (some ⟨w.heap.size,0,none⟩) 0 0=v0 at HM1 ⊢;clear hv0
  have HBd:=hide HB1.out.drew;have HMd:=hide (own_all HM1.out (Below.refl W1.heap.size W1).drew)
  have HB2:=hide (show Below w.heap.size w (W1.alloc (.cells #[.int .i64 ns,.int .i64 nf,.int .i64 nl,.int .i64 na,.int .i64 ng,.int .i64 c.zO,.int .i64 c.zI,.int .i64 c.zA,.int .i64 c.zW,.int .i64 c.zQ] 60)).drew from(HB1.out.alloc HB1.out.size _).drew)
  have HM2:=hide (own_all HM1.out (show Below W1.heap.size W1 (W1.alloc (.cells #[.int .i64 ns,.int .i64 nf,.int .i64 nl,.int .i64 na,.int .i64 ng,.int .i64 c.zO,.int .i64 c.zI,.int .i64 c.zA,.int .i64 c.zW,.int .i64 c.zQ] 60)).drew from((Below.refl _ _).alloc (Nat.le_refl _) _).drew))
  have HL2:=hide (clips_rd2 (show Bk (W1.alloc (.cells #[.int .i64 ns,.int .i64 nf,.int .i64 nl,.int .i64 na,.int .i64 ng,.int .i64 c.zO,.int .i64 c.zI,.int .i64 c.zA,.int .i64 c.zW,.int .i64 c.zQ] 60)).drew W1.heap.size 60 #[.int .i64 ns,.int .i64 nf,.int .i64 nl,.int .i64 na,.int .i64 ng,.int .i64 c.zO,.int .i64 c.zI,.int .i64 c.zA,.int .i64 c.zW,.int .i64 c.zQ] from Bk.drew (Bk.born W1 60 #[.int .i64 ns,.int .i64 nf,.int .i64 nl,.int .i64 na,.int .i64 ng,.int .i64 c.zO,.int .i64 c.zI,.int .i64 c.zA,.int .i64 c.zW,.int .i64 c.zQ])))
  have hz2:=HB2.out.size
  go_region_held_law (fun w'=>w'.cell? ⟨b',o'+1,none⟩=some (.int .i64 (k:Int))∧w'.cell? ⟨b',o'+2,none⟩=some (.int .i64 (j:Int))∧w'.cell? ⟨b,o+2,none⟩=some (.slice (some ⟨b1,off,none⟩) x.zE.length vc2)∧w'.cell? ⟨b1,off+k,none⟩=some (.slice (some ⟨b6,o6,none⟩) t.zL.length uc0)∧w'.cell? ⟨b6,o6+j * 5,none⟩=some (.int .i64 c.zO)∧w'.cell? ⟨b6,o6+j * 5+1,none⟩=some (.int .i64 c.zI)∧w'.cell? ⟨b6,o6+j * 5+2,none⟩=some (.int .i64 c.zA)∧w'.cell? ⟨b6,o6+j * 5+3,none⟩=some (.int .i64 c.zW)∧w'.cell? ⟨b6,o6+j * 5+4,none⟩=some (.int .i64 c.zQ)∧w'.cell? ⟨b',o'+4,none⟩=some (.int .i64 ns)∧w'.cell? ⟨b',o'+5,none⟩=some (.int .i64 nf)∧w'.cell? ⟨b',o'+6,none⟩=some (.int .i64 nl)∧w'.cell? ⟨b',o'+7,none⟩=some (.int .i64 na)∧w'.cell? ⟨b',o'+8,none⟩=some (.int .i64 ng)) (first|go_keep|with_reducible exact⟨kc1,kc2,kp2,ke0,ks0,ks1,ks2,ks3,ks4,kc4,kc5,kc6,kc7,kc8⟩) (first|(refine step_manyT rfl _ _ _ rfl w.heap.size _ _ 5 40 Tryz.underlying124 info_ClipS rfl (by omega) v0 0 [] rfl HM2.out (.slice (some ⟨W1.heap.size,0,none⟩) 2 2) 2 _ rfl HL2.out (T.rds_cell _ _ HVS.out) (by omega) (by unfold maxLen;omega) hz2 ?_;intro v8 w8 hr8 hg8 hv8;have HB8:=hide (grown_all HB2.out hg8 (fun k hk=>(HM2.out.lt k hk).1));have HM8:=hide hr8;clear hr8 hg8 hv8;have kc1:=(HB8.out.cell hlt').trans ((HB1.out.cell hlt').symm.trans c1);have kc2:=(HB8.out.cell hlt').trans ((HB1.out.cell hlt').symm.trans c2);have kp2:=(HB8.out.cell HL.out).trans ((HB1.out.cell HL.out).symm.trans p2);have ke0:=(HB8.out.cell hb1).trans ((HB1.out.cell hb1).symm.trans e0);have ks0:=(HB8.out.cell hb6).trans ((HB1.out.cell hb6).symm.trans s0);have ks1:=(HB8.out.cell hb6).trans ((HB1.out.cell hb6).symm.trans s1);have ks2:=(HB8.out.cell hb6).trans ((HB1.out.cell hb6).symm.trans s2);have ks3:=(HB8.out.cell hb6).trans ((HB1.out.cell hb6).symm.trans s3);have ks4:=(HB8.out.cell hb6).trans ((HB1.out.cell hb6).symm.trans s4);have kc4:=(HB8.out.cell hlt').trans ((HB1.out.cell hlt').symm.trans c4);have kc5:=(HB8.out.cell hlt').trans ((HB1.out.cell hlt').symm.trans c5);have kc6:=(HB8.out.cell hlt').trans ((HB1.out.cell hlt').symm.trans c6);have kc7:=(HB8.out.cell hlt').trans ((HB1.out.cell hlt').symm.trans c7);have kc8:=(HB8.out.cell hlt').trans ((HB1.out.cell hlt').symm.trans c8)))
  go_wp2
  go_ret
  rw[HC.out]
  exact⟨_,rfl,clips_own HM8.out rfl (T.rds_below HVS.out HB8.out),HB8.out⟩
 have q3:(ek == 3)=false:=yO k3
 by_cases k2:ek=2
 ·
  have q2:(ek == 2)=true:=yP k2
  rw[if_neg k1,if_neg k3,if_pos k2] at hr;have hec:=yY.1 hr;clear hr
  obtain⟨j,rfl⟩: ∃ j:Nat,ec=(j:Int):=⟨ec.toNat,by omega⟩
  have hlj:j<t.zL.length:=by omega
  have hgj:=List.getElem?_eq_getElem hlj
  have HCJ:=hide (show clipAt x ⟨ek,(k:Int),(j:Int),ev,⟨ns,nf,nl,na,ng⟩⟩=t.zL[j] by unfold clipAt;dsimp only;rw[HCLK.out,Int.toNat_natCast,List.getD_eq_getElem?_getD,hgj];rfl)
  obtain⟨b6,o6,cs6,hA6,hb6,hcs6,hcell6⟩:=HUX.out j _ hgj
  subst hA6
  generalize t.zL[j]=c at *;clear hgj
  have hj0:(0:Int)≤(j:Int):=by omega
  have hj1:(j:Int)<(t.zL.length:Int):=by omega
  have HC:=hide (show clipsL x ⟨ek,(k:Int),(j:Int),ev,⟨ns,nf,nl,na,ng⟩⟩= [c] by unfold clipsL;rw[if_neg k1,if_pos k2,HCJ.out]);clear k1 k2 k3 hec
  have c0:(w.alloc (.cells #[] 60)).cell? ⟨b',o',none⟩=some (.int .i64 ek):=(HB1.out.cell hlt').trans (hc' 0 _ rfl)
  have c1:(w.alloc (.cells #[] 60)).cell? ⟨b',o'+1,none⟩=some (.int .i64 (k:Int)):=(HB1.out.cell hlt').trans (hc' 1 _ rfl)
  have c2:(w.alloc (.cells #[] 60)).cell? ⟨b',o'+2,none⟩=some (.int .i64 (j:Int)):=(HB1.out.cell hlt').trans (hc' 2 _ rfl)
  have c3:(w.alloc (.cells #[] 60)).cell? ⟨b',o'+3,none⟩=some (.int .i64 ev):=(HB1.out.cell hlt').trans (hc' 3 _ rfl)
  have c4:(w.alloc (.cells #[] 60)).cell? ⟨b',o'+4,none⟩=some (.int .i64 ns):=(HB1.out.cell hlt').trans (hc' 4 _ rfl)
  have c5:(w.alloc (.cells #[] 60)).cell? ⟨b',o'+5,none⟩=some (.int .i64 nf):=(HB1.out.cell hlt').trans (hc' 5 _ rfl)
  have c6:(w.alloc (.cells #[] 60)).cell? ⟨b',o'+6,none⟩=some (.int .i64 nl):=(HB1.out.cell hlt').trans (hc' 6 _ rfl)
  have c7:(w.alloc (.cells #[] 60)).cell? ⟨b',o'+7,none⟩=some (.int .i64 na):=(HB1.out.cell hlt').trans (hc' 7 _ rfl)
  have c8:(w.alloc (.cells #[] 60)).cell? ⟨b',o'+8,none⟩=some (.int .i64 ng):=(HB1.out.cell hlt').trans (hc' 8 _ rfl)
  have lb':=Nat.lt_of_lt_of_le hlt' HB1.out.size
  have p2:(w.alloc (.cells #[] 60)).cell? ⟨b,o+2,none⟩=some (.slice (some ⟨b1,off,none⟩) x.zE.length vc2):=(HB1.out.cell HL.out).trans (HCC.out 2 _ rfl)
  have lb:b<(w.alloc (.cells #[] 60)).heap.size:=Nat.lt_of_lt_of_le HL.out HB1.out.size
  obtain rfl:=GClip.yL (show T.rds _ _ _ by simpa only[GClip.t,T.rd] using hcs6)
  have s0:=(HB1.out.cell hb6).trans (hcell6 0 (.int .i64 c.zO) rfl)
  have s1:=(HB1.out.cell hb6).trans (hcell6 1 (.int .i64 c.zI) rfl)
  have s2:=(HB1.out.cell hb6).trans (hcell6 2 (.int .i64 c.zA) rfl)
  have s3:=(HB1.out.cell hb6).trans (hcell6 3 (.int .i64 c.zW) rfl)
  have s4:=(HB1.out.cell hb6).trans (hcell6 4 (.int .i64 c.zQ) rfl)
  rw[show o6+(j * 5+0)=o6+j * 5 by omega] at s0
  rw[show o6+(j * 5+1)=o6+j * 5+1 by omega] at s1
  rw[show o6+(j * 5+2)=o6+j * 5+2 by omega] at s2
  rw[show o6+(j * 5+3)=o6+j * 5+3 by omega] at s3
  rw[show o6+(j * 5+4)=o6+j * 5+4 by omega] at s4
  clear hcs6 hcell6
  have e0:=(HB1.out.cell hb1).trans d0;have lb1:=Nat.lt_of_lt_of_le hb1 HB1.out.size
  have lb6:=Nat.lt_of_lt_of_le hb6 HB1.out.size
  have hz0:w.heap.size≤(w.alloc (.cells #[] 60)).heap.size:=HB1.out.size
  have HVS:=hide (GClip.rd_mk (x:=c):T.rds w (GClip.fs c) [.int .i64 c.zO,.int .i64 c.zI,.int .i64 c.zA,.int .i64 c.zW,.int .i64 c.zQ])
  go_enter Tryz.func164,Tryz.ntmps164
  go_wp2
  generalize (w.alloc (.cells #[] 60))=W1 at *
  generalize hv0:Value.slice (some ⟨w.heap.size,0,none⟩) 0 0=v0 at HM1 ⊢;clear hv0
  have HBd:=hide HB1.out.drew;have HMd:=hide (own_all HM1.out (Below.refl W1.heap.size W1).drew)
  have HB2:=hide (show Below w.heap.size w (W1.alloc (.cells #[.int .i64 c.zO,.int .i64 c.zI,.int .i64 c.zA,.int .i64 c.zW,.int .i64 c.zQ] 60)).drew from(HB1.out.alloc HB1.out.size _).drew)
  have HM2:=hide (own_all HM1.out (show Below W1.heap.size W1 (W1.alloc (.cells #[.int .i64 c.zO,.int .i64 c.zI,.int .i64 c.zA,.int .i64 c.zW,.int .i64 c.zQ] 60)).drew from((Below.refl _ _).alloc (Nat.le_refl _) _).drew))
  have HL2:=hide (clips_rd1 (show Bk (W1.alloc (.cells #[.int .i64 c.zO,.int .i64 c.zI,.int .i64 c.zA,.int .i64 c.zW,.int .i64 c.zQ] 60)).drew W1.heap.size 60 #[.int .i64 c.zO,.int .i64 c.zI,.int .i64 c.zA,.int .i64 c.zW,.int .i64 c.zQ] from Bk.drew (Bk.born W1 60 #[.int .i64 c.zO,.int .i64 c.zI,.int .i64 c.zA,.int .i64 c.zW,.int .i64 c.zQ])))
  have hz2:=HB2.out.size
  go_region_held_law (fun w'=>w'.cell? ⟨b',o'+1,none⟩=some (.int .i64 (k:Int))∧w'.cell? ⟨b',o'+2,none⟩=some (.int .i64 (j:Int))∧w'.cell? ⟨b,o+2,none⟩=some (.slice (some ⟨b1,off,none⟩) x.zE.length vc2)∧w'.cell? ⟨b1,off+k,none⟩=some (.slice (some ⟨b6,o6,none⟩) t.zL.length uc0)∧w'.cell? ⟨b6,o6+j * 5,none⟩=some (.int .i64 c.zO)∧w'.cell? ⟨b6,o6+j * 5+1,none⟩=some (.int .i64 c.zI)∧w'.cell? ⟨b6,o6+j * 5+2,none⟩=some (.int .i64 c.zA)∧w'.cell? ⟨b6,o6+j * 5+3,none⟩=some (.int .i64 c.zW)∧w'.cell? ⟨b6,o6+j * 5+4,none⟩=some (.int .i64 c.zQ)) (first|go_keep|with_reducible exact⟨kc1,kc2,kp2,ke0,ks0,ks1,ks2,ks3,ks4⟩) (first|(refine step_manyT rfl _ _ _ rfl w.heap.size _ _ 5 40 Tryz.underlying124 info_ClipS rfl (by omega) v0 0 [] rfl HM2.out (.slice (some ⟨W1.heap.size,0,none⟩) 1 1) 1 _ rfl HL2.out (T.rds_cell _ _ HVS.out) (by omega) (by unfold maxLen;omega) hz2 ?_;intro v8 w8 hr8 hg8 hv8;have HB8:=hide (grown_all HB2.out hg8 (fun k hk=>(HM2.out.lt k hk).1));have HM8:=hide hr8;clear hr8 hg8 hv8;have kc1:=(HB8.out.cell hlt').trans ((HB1.out.cell hlt').symm.trans c1);have kc2:=(HB8.out.cell hlt').trans ((HB1.out.cell hlt').symm.trans c2);have kp2:=(HB8.out.cell HL.out).trans ((HB1.out.cell HL.out).symm.trans p2);have ke0:=(HB8.out.cell hb1).trans ((HB1.out.cell hb1).symm.trans e0);have ks0:=(HB8.out.cell hb6).trans ((HB1.out.cell hb6).symm.trans s0);have ks1:=(HB8.out.cell hb6).trans ((HB1.out.cell hb6).symm.trans s1);have ks2:=(HB8.out.cell hb6).trans ((HB1.out.cell hb6).symm.trans s2);have ks3:=(HB8.out.cell hb6).trans ((HB1.out.cell hb6).symm.trans s3);have ks4:=(HB8.out.cell hb6).trans ((HB1.out.cell hb6).symm.trans s4)))
  go_wp2
  go_ret
  rw[HC.out]
  exact⟨_,rfl,clips_own HM8.out rfl (T.rds_cons1 GClip.rd_mk),HB8.out⟩
 have q2:(ek == 2)=false:=yO k2
 have k4:ek=4:=by have:=HK.out;omega
 have q4:(ek == 4)=true:=yP k4
 clear hr
 have hlf:k<x.zK.length:=by have h2:=HV.out.feed;omega
 have hgk:=List.getElem?_eq_getElem hlf
 have hfd:x.zK.getD k 0=x.zK[k]:=by rw[List.getD_eq_getElem?_getD,hgk];rfl
 obtain⟨b3,of3,hA3,hb3,hcell3⟩:=HX3.out k _ hgk
 generalize x.zK[k]=y at *;clear hgk
 subst hA3
 have hf1:(k:Int)<(x.zK.length:Int):=by omega
 obtain⟨es,hes,hrs⟩:=T.rd_row RY0.out
 rw[List.length_map] at hes
 have HES:=hide hes;have HRS:=hide hrs;have H1C:=hide (T.rds_cell _ _ hrs);clear hes hrs
 have HC:=hide (show clipsL x ⟨ek,(k:Int),ec,ev,⟨ns,nf,nl,na,ng⟩⟩=if ev=y then [] else t.zL by unfold clipsL;rw[if_neg k1,if_neg k2,if_neg k3];dsimp only;rw[Int.toNat_natCast,hfd,HCLK.out]);clear k1 k2 k3 k4 hfd
 have c0:(w.alloc (.cells #[] 60)).cell? ⟨b',o',none⟩=some (.int .i64 ek):=(HB1.out.cell hlt').trans (hc' 0 _ rfl)
 have c1:(w.alloc (.cells #[] 60)).cell? ⟨b',o'+1,none⟩=some (.int .i64 (k:Int)):=(HB1.out.cell hlt').trans (hc' 1 _ rfl)
 have c2:(w.alloc (.cells #[] 60)).cell? ⟨b',o'+2,none⟩=some (.int .i64 ec):=(HB1.out.cell hlt').trans (hc' 2 _ rfl)
 have c3:(w.alloc (.cells #[] 60)).cell? ⟨b',o'+3,none⟩=some (.int .i64 ev):=(HB1.out.cell hlt').trans (hc' 3 _ rfl)
 have c4:(w.alloc (.cells #[] 60)).cell? ⟨b',o'+4,none⟩=some (.int .i64 ns):=(HB1.out.cell hlt').trans (hc' 4 _ rfl)
 have c5:(w.alloc (.cells #[] 60)).cell? ⟨b',o'+5,none⟩=some (.int .i64 nf):=(HB1.out.cell hlt').trans (hc' 5 _ rfl)
 have c6:(w.alloc (.cells #[] 60)).cell? ⟨b',o'+6,none⟩=some (.int .i64 nl):=(HB1.out.cell hlt').trans (hc' 6 _ rfl)
 have c7:(w.alloc (.cells #[] 60)).cell? ⟨b',o'+7,none⟩=some (.int .i64 na):=(HB1.out.cell hlt').trans (hc' 7 _ rfl)
 have c8:(w.alloc (.cells #[] 60)).cell? ⟨b',o'+8,none⟩=some (.int .i64 ng):=(HB1.out.cell hlt').trans (hc' 8 _ rfl)
 have lb':=Nat.lt_of_lt_of_le hlt' HB1.out.size
 have p2:(w.alloc (.cells #[] 60)).cell? ⟨b,o+2,none⟩=some (.slice (some ⟨b1,off,none⟩) x.zE.length vc2):=(HB1.out.cell HL.out).trans (HCC.out 2 _ rfl)
 have p3:(w.alloc (.cells #[] 60)).cell? ⟨b,o+3,none⟩=some (.slice (some ⟨b3,of3,none⟩) x.zK.length vc3):=(HB1.out.cell HL.out).trans (HCC.out 3 _ rfl)
 have lb:b<(w.alloc (.cells #[] 60)).heap.size:=Nat.lt_of_lt_of_le HL.out HB1.out.size
 have e0:=(HB1.out.cell hb1).trans d0;have lb1:=Nat.lt_of_lt_of_le hb1 HB1.out.size
 have hz0:w.heap.size≤(w.alloc (.cells #[] 60)).heap.size:=HB1.out.size
 have f0:=(HB1.out.cell hb3).trans hcell3;have lb3:=Nat.lt_of_lt_of_le hb3 HB1.out.size
 go_enter Tryz.func164,Tryz.ntmps164
 go_wp2
 generalize (w.alloc (.cells #[] 60))=W1 at *
 generalize hv0:Value.slice (some ⟨w.heap.size,0,none⟩) 0 0=v0 at HM1 ⊢;clear hv0
 have HBd:=hide HB1.out.drew;have HMd:=hide (own_all HM1.out (Below.refl W1.heap.size W1).drew)
 have g0:=yD c1
 have g1:=yD c3
 have g2:=yD p2
 have g3:=yD p3
 have g4:=yD f0
 have g5:=yD e0
 refine yZ (by kernel_rfl) (by kernel_rfl) ?_
 repeat(first|go_big_quiet_skip|(go_big_quiet_want;go_big_quiet_op;first|go_big_quiet_on|(apply Exists.intro;refine⟨fun _=>?_,?_⟩;(· (fail));go_big_quiet_on)))
 refine wpQuiet_nil ?_
 rintro w9 ⟨uu,rfl⟩
 have hb9:=yE W1 uu
 generalize bel W1 uu=w9 at *
 have HBq:=hide (yG HB1.out HB1.out.size hb9);have HMq:=hide (own_all HM1.out hb9)
 have c1':=(hb9.cell lb').trans c1;have e0':=(hb9.cell lb1).trans e0;have p2':=(hb9.cell lb).trans p2;have lb9:=Nat.lt_of_lt_of_le lb hb9.size;have lb19:=Nat.lt_of_lt_of_le lb1 hb9.size;have lb'9:=Nat.lt_of_lt_of_le lb' hb9.size
 clear hb9 g0 g1 g2 g3 g4 g5 c0 c1 c2 c3 c4 c5 c6 c7 c8 e0 p2 p3 f0 HBd HMd lb lb' lb1 lb3
 by_cases hev:ev=y
 ·
  have qe:(y != ev)=false:=bneI_f hev.symm
  rw[if_pos hev] at HC;clear hev
  go_wp2
  go_ret
  rw[HC.out]
  exact⟨_,rfl,clips_own (l:= []) HMq.out rfl (by simp[T.rds]),HBq.out⟩
 have qe:(y != ev)=true:=bneI_t (fun e=>hev e.symm)
 rw[if_neg hev] at HC;clear hev
 go_wp2
 refine wp_region_still_tail 12 (by kernel_rfl) (by kernel_rfl) ?_
 simp only[List.take_succ_cons,List.take_zero,List.drop_succ_cons,List.drop_zero]
 change wpStill _ _ (World.drew w9) (fun a'=>wpList _ _ _ _ a' (World.drew w9)) _ _
 repeat still_step
 refine wpStill_nil ?_
 have HBd:=hide HBq.out.drew;have HMd:=hide (own_all HMq.out (Below.refl w9.heap.size w9).drew)
 have hz9:w.heap.size≤w9.drew.heap.size:=HBd.out.size
 have HRD:=hide (HES.out.below HBd.out)
 have hyy:(0+t.zL.length) * 40≤140737488355328:=by omega
 have hyz:0+t.zL.length≤9223372036854775807:=by omega
 go_wp2_with (at_builtin;refine app_many (w:=w9.drew) rfl _ _ _ rfl w.heap.size _ _ 5 40 Tryz.underlying124 info_ClipS rfl (by omega) v0 0 [] rfl HMd.out _ t.zL.length es rfl HRD.out H1C.out hyy hyz hz9 ?_;intro v8 w8 hr8 hg8 hv8;have HB8:=hide (grown_all HBd.out hg8 (fun k hk=>(HMd.out.lt k hk).1));have HM8:=hide hr8;clear hr8 hg8 hv8)
 go_ret
 rw[HC.out]
 exact⟨_,rfl,clips_own (HM8.out) (by omega) (T.rds_below HRS.out HB8.out),HB8.out⟩
end Go.Proofs.YteiflbhcehajkaaGreat
end
section
namespace Go.Proofs.YteiflbhcehajkaaGreat
open Go.RowKit
theorem c_l03Zeros0 (n:Nat) (w:World) (hn:n≤1048576):Calls Tryz.prog 117 #[.int .i64 (n:Int)] w fun e w'=> ∃ v',e= .returned v'∧OwI 2 w' w.heap.size v' (List.replicate n 0)∧Below w.heap.size w w':=by
 go_enter Tryz.func117,Tryz.ntmps117
 go_wp2
 go_loopw [0,3] (fun m o wr=> ∃ k:Nat,k≤n∧m= .int .i64 (k:Int)∧OwI 2 wr w.heap.size o (List.replicate (n - k) 0)∧Below w.heap.size w wr) (fun m _ _=>(intOf m).toNat)
 case atStart=>exact⟨n,Nat.le_refl _,rfl,by rw[Nat.sub_self];exact new_i64 w,(Below.refl _ _).alloc (Nat.le_refl _) _⟩
 case round=>
  obtain⟨k,hk,rfl,ho,hb⟩:=hrel
  have HO:=hide ho;have HB:=hide hb;have hsz:=hb.size;clear ho hb
  by_cases h0:0<k
  ·have HR:=hide (show List.replicate (n - k) (0:Int)++ [0]=List.replicate (n - (k - 1)) 0 by
    rw[show n - (k - 1)=(n - k)+1 by omega,←List.replicate_succ'])
   have hl:(List.replicate (n - k) (0:Int)).length+1≤17592186044416:=by rw[List.length_replicate];omega
   go_wp2_with (at_builtin;refine app1_i64 rfl _ _ rfl rfl HO.out rfl hl hsz ?_;intro v5 w5 ho5 hg5 hv5;have hb5:=below_own HB.out HO.out hg5 (Nat.le_refl _) hsz;have HO5:=hide ho5;have HB5:=hide hb5;clear ho5 hb5 hg5 hv5)
   go_roundw
   case rel=>exact⟨k - 1,by omega,by go_num,by rw[←HR.out];exact HO5.out,HB5.out⟩
   case measure=>first|(simp[intOf];done)|(simp[intOf];omega)
  ·obtain rfl:k=0:=by omega
   go_wp2
   go_ret
   exact⟨_,rfl,by have:=HO.out;rw[Nat.sub_zero] at this;exact this,HB.out⟩
theorem c_l06Start (x:GNode) (b o:Nat) (w:World) (h6:x.zC=6→0≤x.fA∧x.fA≤16) (h17:x.zC=17→0≤x.fB∧x.fB≤16) (h:T.at w x.fs b o):Calls Tryz.prog 215 #[.pointer (some ⟨b,o,none⟩)] w fun e w'=> ∃ v,e= .returned v∧OwI 2 w' w.heap.size v (startL x)∧Below w.heap.size w w':=by
 have HAT:=hide h
 obtain⟨hlt0,cs,hr,hc⟩:=h
 obtain⟨v3,rfl,h3⟩:=GNode.yL hr
 clear hr
 have h3i:=T.yQ.1 h3;obtain⟨va3,vc3,rfl,vl3,vm3,vx3⟩:=h3i.open_
 have R3:=hide h3i;have HX3:=hide vx3;clear vx3 h3 h3i
 have HL:=hide hlt0;have HCC:=hide hc;have HB0:=hide (Below.refl w.heap.size w);clear hlt0 hc
 have H6:=hide h6;have H17:=hide h17;clear h6 h17
 have ZE:=hide (fun(a:Int) (n:Nat) (h:a=(n:Int)) (hn:n≤1048576) (W:World)=>(h ▸ c_l03Zeros0 n W hn:Calls Tryz.prog 117 #[.int .i64 a] W fun e w'=> ∃ v',e= .returned v'∧OwI 2 w' W.heap.size v' (List.replicate n 0)∧Below W.heap.size W w'))
 have p0:w.cell? ⟨b,o,none⟩=some (.int .i64 x.zC):=(HB0.out.cell HL.out).trans (HCC.out 0 _ rfl)
 have p1:w.cell? ⟨b,o+1,none⟩=some (.int .i64 x.fA):=(HB0.out.cell HL.out).trans (HCC.out 1 _ rfl)
 have p2:w.cell? ⟨b,o+2,none⟩=some (.int .i64 x.fB):=(HB0.out.cell HL.out).trans (HCC.out 2 _ rfl)
 have p3:w.cell? ⟨b,o+3,none⟩=some (.slice va3 x.zI.length vc3):=(HB0.out.cell HL.out).trans (HCC.out 3 _ rfl)
 have lb:b<w.heap.size:=Nat.lt_of_lt_of_le HL.out HB0.out.size
 go_enter Tryz.func215,Tryz.ntmps215
 by_cases k6:x.zC=6
 ·
  have q6:(x.zC == 6)=true:=yP k6
  obtain⟨m,hm⟩: ∃ m:Nat,x.fA=(m:Int):=⟨x.fA.toNat,by have:=H6.out k6;omega⟩
  have h16:=H6.out k6;have HM:=hide hm;clear hm;have hm16:m≤16:=by have:=HM.out;omega
  have HS:Sec (startL x=List.replicate m 0):=hide (by unfold startL;rw[if_pos k6,HM.out,Int.toNat_natCast]);clear k6 h16
  go_wp2_with fail
  refine(ZE.out _ _ HM.out (by omega) _).mono ?_;rintro e w1 ⟨v,rfl,ho,hb⟩
  have HO:=hide ho;have HB:=hide hb;clear ho hb
  go_wp2
  go_ret
  exact⟨_,rfl,by rw[HS.out];exact HO.out,HB.out⟩
 have q6:(x.zC == 6)=false:=yO k6
 by_cases k17:x.zC=17
 ·
  have q17:(x.zC == 17)=true:=yP k17
  obtain⟨m,hm⟩: ∃ m:Nat,x.fB=(m:Int):=⟨x.fB.toNat,by have:=H17.out k17;omega⟩
  have h16:=H17.out k17;have HM:=hide hm;clear hm;have hm16:m≤16:=by have:=HM.out;omega
  have HS:Sec (startL x=List.replicate m 0):=hide (by unfold startL;rw[if_neg k6,if_pos k17,HM.out,Int.toNat_natCast]);clear k6 k17 h16
  go_wp2_with fail
  refine(ZE.out _ _ HM.out (by omega) _).mono ?_;rintro e w1 ⟨v,rfl,ho,hb⟩
  have HO:=hide ho;have HB:=hide hb;clear ho hb
  go_wp2
  go_ret
  exact⟨_,rfl,by rw[HS.out];exact HO.out,HB.out⟩
 have q17:(x.zC == 17)=false:=yO k17
 by_cases k7:x.zC=7
 ·
  have q7:(x.zC == 7)=true:=yP k7
  have HS:Sec (startL x= [0]):=hide (by unfold startL;rw[if_neg k6,if_neg k17,if_pos (by omega)])
  clear k6 k17 k7
  go_wp2
  go_ret
  exact⟨_,rfl,by rw[HS.out];exact ow_lit1 _ _ _,(Below.refl _ _).alloc (Nat.le_refl _) _⟩
 have q7:(x.zC == 7)=false:=yO k7
 by_cases k8:x.zC=8
 ·
  have q8:(x.zC == 8)=true:=yP k8
  have HS:Sec (startL x= [0]):=hide (by unfold startL;rw[if_neg k6,if_neg k17,if_pos (by omega)])
  clear k6 k17 k8 k7
  go_wp2
  go_ret
  exact⟨_,rfl,by rw[HS.out];exact ow_lit1 _ _ _,(Below.refl _ _).alloc (Nat.le_refl _) _⟩
 have q8:(x.zC == 8)=false:=yO k8
 by_cases k16:x.zC=16
 ·
  have q16:(x.zC == 16)=true:=yP k16
  have HS:Sec (startL x= [0]):=hide (by unfold startL;rw[if_neg k6,if_neg k17,if_pos (by omega)])
  clear k6 k17 k16 k7 k8
  go_wp2
  go_ret
  exact⟨_,rfl,by rw[HS.out];exact ow_lit1 _ _ _,(Below.refl _ _).alloc (Nat.le_refl _) _⟩
 have q16:(x.zC == 16)=false:=yO k16
 by_cases k12:x.zC=12
 ·
  have q12:(x.zC == 12)=true:=yP k12
  have HS:Sec (startL x= [x.fA]):=hide (by unfold startL;rw[if_neg k6,if_neg k17,if_neg (by omega),if_pos (by omega)])
  clear k6 k17 k12 k7 k8 k16
  go_wp2
  go_ret
  exact⟨_,rfl,by rw[HS.out];exact ow_lit1 _ _ _,(Below.refl _ _).alloc (Nat.le_refl _) _⟩
 have q12:(x.zC == 12)=false:=yO k12
 by_cases k14:x.zC=14
 ·
  have q14:(x.zC == 14)=true:=yP k14
  have HS:Sec (startL x= [x.fA]):=hide (by unfold startL;rw[if_neg k6,if_neg k17,if_neg (by omega),if_pos (by omega)])
  clear k6 k17 k14 k7 k8 k16 k12
  go_wp2
  go_ret
  exact⟨_,rfl,by rw[HS.out];exact ow_lit1 _ _ _,(Below.refl _ _).alloc (Nat.le_refl _) _⟩
 have q14:(x.zC == 14)=false:=yO k14
 have HS:Sec (startL x= []):=hide (by unfold startL;rw[if_neg k6,if_neg k17,if_neg (by omega),if_neg (by omega)])
 clear k6 k17 k7 k8 k16 k12 k14
 go_wp2
 go_ret
 exact⟨_,rfl,by rw[HS.out];exact new_i64 _,(Below.refl _ _).alloc (Nat.le_refl _) _⟩
theorem c_l31Stateful (x:GPatch) (b o:Nat) (w:World) (hp: ∀ y ∈ x.zH,∃ t,NodeOk y t) (h:T.at w x.fs b o):Calls Tryz.prog 207 #[.pointer (some ⟨b,o,none⟩)] w fun e w'=>e= .returned (.bool (statefulB x))∧Below w.heap.size w w':=by
 have HAT:=hide h
 obtain⟨hlt0,cs,hr,hc⟩:=h
 obtain⟨v1,v2,v3,rfl,h1,h2,h3⟩:=GPatch.yL hr
 clear hr
 have R1:=hide h1;obtain⟨va1,vc1,rfl,vl1,vm1,vx1⟩:=T.yK h1
 have HX1:=hide vx1;clear vx1 h1
 have R2:=hide h2;obtain⟨va2,vc2,rfl,vl2,vm2,vx2⟩:=T.yK h2
 have HX2:=hide vx2;clear vx2 h2
 have h3i:=T.yQ.1 h3;obtain⟨va3,vc3,rfl,vl3,vm3,vx3⟩:=h3i.open_
 have R3:=hide h3i;have HX3:=hide vx3;clear vx3 h3 h3i
 have HL:=hide hlt0;have HCC:=hide hc;have HB0:=hide (Below.refl w.heap.size w);clear hlt0 hc
 have HP:=hide hp;clear hp
 go_enter Tryz.func207,Tryz.ntmps207
 go_wp2
 go_loopw [3] (fun i wr=> ∃ k:Nat,k≤x.zH.length∧i= .int .i64 k∧Upto x.zH (fun _ y=> ¬ 0<(startL y).length) k∧Below w.heap.size w wr) (fun i _=>x.zH.length - (intOf i).toNat)
 case atStart=>exact⟨0,Nat.zero_le _,rfl,Upto.zero,Below.refl _ _⟩
 case round=>
  obtain⟨k,hk,rfl,hs,hbw⟩:=hrel
  have HS:=hide hs;have HW:=hide hbw;have HB:=hide (yG HB0.out HB0.out.size hbw);clear hs hbw
  by_cases hlt:k<x.zH.length
  rotate_left
  ·
   have hall:=hide (HS.out.all (by omega));clear HS
   have p2:wr.cell? ⟨b,o+2,none⟩=some (.slice va2 x.zH.length vc2):=(HW.out.cell HL.out).trans (HCC.out 2 _ rfl)
   have lb:b<wr.heap.size:=Nat.lt_of_lt_of_le HL.out HW.out.size
   go_wp2
   go_ret
   exact⟨yF (by unfold statefulB;symm;rw[List.any_eq_false];intro y hy;obtain⟨i,hi⟩:=List.mem_iff_getElem?.1 hy;have:=hall.out i y hi;simpa using this),HW.out⟩
  have hgk:=List.getElem?_eq_getElem hlt
  obtain⟨b1,off,csy,hA,hb1,hcs,hcell⟩:=HX2.out k x.zH[k] hgk
  subst hA
  generalize x.zH[k]=y at *
  have HG:=hide hgk;clear hgk
  have HAy:=hide (T.at_elem (o:=off+k * 4) hb1 (show T.rds w y.fs csy by simpa only[GNode.t,T.rd] using hcs) hcell (by omega));clear hcs hcell
  have p2:wr.cell? ⟨b,o+2,none⟩=some (.slice (some ⟨b1,off,none⟩) x.zH.length vc2):=(HW.out.cell HL.out).trans (HCC.out 2 _ rfl)
  have lb:b<wr.heap.size:=Nat.lt_of_lt_of_le HL.out HW.out.size
  obtain⟨t,ht⟩:=HP.out y (List.mem_of_getElem? HG.out)
  have hns:=nodeOk_start ht;have HNS:=hide hns;clear hns ht t
  have hi1:(k:Int)<(x.zH.length:Int):=by omega
  go_wp2_with fail
  refine(c_l06Start y b1 (off+k * 4) _ HNS.out.1 HNS.out.2 (T.at_below HAy.out HW.out)).mono ?_;rintro e w1 ⟨v,rfl,ho,hb⟩
  have HB1:=hide (yG HW.out HW.out.size hb);clear hb
  obtain⟨A,cap,rfl,hl1,hl2,-⟩:=ho.rd.open_;clear ho
  by_cases hq:0<(startL y).length
  ·
   have HQ:=hide hq;have hq':(0:Int)<((startL y).length:Int):=(by omega);clear hq
   go_wp2
   go_ret
   exact⟨yF (by unfold statefulB;symm;rw[List.any_eq_true];exact⟨y,List.mem_of_getElem? HG.out,decide_eq_true HQ.out⟩),HB1.out⟩
  have HQ:=hide hq;have hq': ¬ (0:Int)<((startL y).length:Int):=(by omega);clear hq
  go_wp2
  go_roundw
  case rel=>exact⟨k+1,by omega,by go_num,HS.out.step HG.out HQ.out,HB1.out⟩
  case measure=>simp[intOf];omega
end Go.Proofs.YteiflbhcehajkaaGreat
end
