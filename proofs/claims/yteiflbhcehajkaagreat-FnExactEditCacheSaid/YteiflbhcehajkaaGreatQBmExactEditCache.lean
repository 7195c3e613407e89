/- Contract: l31Do, reference. -/
import Derived.Test.YteiflbhcehajkaaGreatQBlExactEditCache
import Derived.Test.YteiflbhcehajkaaGreatQBdExactEditCache
import Derived.Test.YteiflbhcehajkaaGreatQBaExactEditCache
set_option linter.unusedVariables false
set_option linter.unusedSimpArgs false
set_option maxHeartbeats 8000000
set_option maxRecDepth 100000
namespace Go.Proofs.YteiflbhcehajkaaGreat
open Go.RowKit
theorem Trn.drew {F:List Nat} {w w':World} (h:Trn F w w'):Trn F w w'.drew:=⟨h.os,h.tape,h.output,h.size,h.block⟩
theorem Rd.take {w:World} {sz n j cap:Nat} {A:Option Addr} {es:List Value} (h:Rd w (.slice A n cap) sz n es) (hj:j≤n):Rd w (.slice A j cap) sz j (es.take (j * sz)):=by
 obtain⟨hl,A',c',e,h1,h2,h3⟩:=h
 injection e with e1 e2 e3
 subst e1 e3
 have hm:=Nat.mul_le_mul_right sz hj
 refine⟨by rw[List.length_take,hl];omega,A,cap,rfl,by omega,h2,fun hp=>?_⟩
 obtain⟨b,off,e,hb,hc⟩:=h3 (by omega)
 exact⟨b,off,e,hb,fun i u hi=>hc i u (by rw[List.getElem?_take] at hi;split at hi;exact hi;cases hi)⟩
theorem Rd.drop {w:World} {sz n j cap b o:Nat} {es:List Value} (h:Rd w (.slice (some ⟨b,o,none⟩) n cap) sz n es) (hj:j≤n):Rd w (.slice (some ⟨b,o+j * sz,none⟩) (n - j) (cap - j)) sz (n - j) (es.drop (j * sz)):=by
 obtain⟨hl,A',c',e,h1,h2,h3⟩:=h
 injection e with e1 e2 e3
 subst e1 e3
 refine⟨by rw[List.length_drop,hl,Nat.sub_mul],_,cap - j,rfl,by omega,by omega,fun hp=>?_⟩
 obtain⟨b',off,e,hb,hc⟩:=h3 (by omega)
 injection e with e
 injection e with e1 e2
 subst e1 e2
 exact⟨b,o+j * sz,rfl,hb,fun i u hi=>by rw[Nat.add_assoc];exact hc _ u (by rw[List.getElem?_drop] at hi;exact hi)⟩
theorem Rd.none_ {w:World} {sz n c:Nat} {A:Option Addr} {es:List Value} (hn:n=0) (hc:c=0) (h:es= []):Rd w (.slice A n c) sz n es:=by
 subst h hn hc
 exact⟨by simp,A,0,rfl,Nat.le_refl _,by decide,fun hp=>absurd hp (by omega)⟩
theorem c_l31Do (x:GSession) (b:Nat) (ed:GEdit) (b' o':Nat) (F:List Nat) (v1 v2 v3 v4 v5:Value) (w:World) (hs:x.small) (hv:SessionOk x) (hf:FieldsOk ed) (hr:RangeOk x ed) (hb:Bk w b 41 #[.int .i64 x.zA,v1,v2,v3,v4,v5]) (h:T.ows w x.fs F [.int .i64 x.zA,v1,v2,v3,v4,v5]) (nd:F.Nodup) (he:T.at w ed.fs b' o') (hbF:b ∉ F) (hb'F:b' ∉ F):
  Calls Tryz.prog 163 #[.pointer (some ⟨b,0,none⟩),.pointer (some ⟨b',o',none⟩)] w fun e w'=>e= .returned (.tuple #[])∧ ∃ F',T.ows w' (doE x ed).fs F' [.int .i64 x.zA,v1,v2,v3,v4,v5]∧F'.Nodup∧(∀ c ∈ F',c ∈ F∨w.heap.size≤c)∧Trn F w w':=by
 obtain⟨ek,et,ec,ev,ns,nf,nl,na,ng⟩:=ed
 obtain⟨hlt',cs',hr',hc'⟩:=he
 obtain rfl:=GEdit.yL hr'
 dsimp only at hc'
 have kp:=hb.cell;have lb:=hb.lt
 have c0:w.cell? ⟨b',o',none⟩=some (.int .i64 ek):=hc' 0 _ rfl
 have c1:w.cell? ⟨b',o'+1,none⟩=some (.int .i64 et):=hc' 1 _ rfl
 have c2:w.cell? ⟨b',o'+2,none⟩=some (.int .i64 ec):=hc' 2 _ rfl
 have c3:w.cell? ⟨b',o'+3,none⟩=some (.int .i64 ev):=hc' 3 _ rfl
 have c4:w.cell? ⟨b',o'+4,none⟩=some (.int .i64 ns):=hc' 4 _ rfl
 have c5:w.cell? ⟨b',o'+5,none⟩=some (.int .i64 nf):=hc' 5 _ rfl
 have c6:w.cell? ⟨b',o'+6,none⟩=some (.int .i64 nl):=hc' 6 _ rfl
 have c7:w.cell? ⟨b',o'+7,none⟩=some (.int .i64 na):=hc' 7 _ rfl
 have c8:w.cell? ⟨b',o'+8,none⟩=some (.int .i64 ng):=hc' 8 _ rfl
 clear hc' hr'
 have HBK:=hide hb;have HND:=hide nd;have HFD:=hide hf;have HRG:=hide hr;have HSM:=hide hs;have HV:=hide hv;have HBF:=hide hbF;have HBF':=hide hb'F;clear hb nd hf hr hs hv hbF hb'F
 have HOW:=hide h;clear h
 go_enter Tryz.func163,Tryz.ntmps163
 by_cases k4:ek=4
 ·
  have q4:(ek == 4)=true:=yP k4;have q1:(ek == 1)=false:=yO (by omega)
  obtain⟨k,t,hk,ht⟩:=range_track HRG.out (show ek≠5 by omega)
  obtain rfl:et=(k:Int):=hk
  have hlt:k<x.zK.length:=by have h1:=(List.getElem?_eq_some_iff.1 ht).1;have h2:=HV.out.feed;omega
  have HLT:=hide hlt
  have hd:doE x ⟨ek,(k:Int),ec,ev,⟨ns,nf,nl,na,ng⟩⟩= { x with zK:=x.zK.set k ev } :=by unfold doE;rw[if_pos k4];simp
  rw[hd];clear hd k4 ht t
  have hi0:(0:Int)≤(k:Int):=by omega
  obtain⟨Fx,ho,hn,hm,put⟩:=GSession.part_feeds HOW.out HND.out
  obtain⟨g3,c3',e3,hc1,hc2⟩:=T.ow_form ho (by rw[List.length_map];have:=HLT.out;omega)
  rw[List.length_map] at e3 hc1
  subst e3
  have hO:Own 0 w (T.ints 2 x.zK) Fx (.slice (some ⟨g3,0,none⟩) x.zK.length c3'):=⟨ho,hn,fun _ _=>Nat.zero_le _⟩
  have hg3:g3 ∈ Fx:=hO.mem g3 rfl
  have g3l:=hO.lt g3 hg3
  have HO:=hide hO;have HPUT:=hide put;have HG3:=hide hg3;have HM:=hide hm
  have HROW:=hide (T.ow_ints.1 HO.out.ow).1
  have kce:w.cell? ⟨g3,k,none⟩=some (.int .i64 (x.zK[k]'HLT.out)):=(World.ownsRow.cellAt HROW.out k (by simpa using HLT.out)).trans (by simp[HLT.out])
  have kfr:=yR HROW.out k
  clear ho hn hm put hO hg3
  go_wp2
  refine wp_region_still_tail 13 (by kernel_rfl) (by kernel_rfl) ?_
  simp only[List.take_succ_cons,List.take_zero,List.drop_succ_cons,List.drop_zero]
  change wpStill _ _ (World.drew w) (fun a'=>wpList _ _ _ _ a' (World.drew w)) _ _
  repeat still_step
  refine wpStill_nil ?_
  clear kp c0 c1 c2 c3 c4 c5 c6 c7 c8
  go_wp2
  refine bodyPost_ret (v:= .tuple #[]) (results_none rfl _ _ _) rfl ?_
  obtain⟨F3,hO3,hF3⟩:=Own.puti ev HO.out HLT.out
  obtain⟨F',z1,z2,z3⟩:=HPUT.out _ (x.zK.set k ev) F3 _ (Trn.set_ HG3.out k (.int .i64 ev)) hO3.ow hO3.nodup (fun b hb=> .inl (hF3 b hb))
  exact⟨rfl,F',by first|exact z1|exact T.ows_all z1 (Below.refl _ _).drew,z2,z3,by first|exact Trn.set_ (HM.out _ HG3.out) k (.int .i64 ev)|exact(Trn.set_ (HM.out _ HG3.out) k (.int .i64 ev)).drew⟩
 have q4:(ek == 4)=false:=yO k4
 by_cases k5:ek=5
 ·
  have q5:(ek == 5)=true:=yP k5;have q1:(ek == 1)=false:=yO (by omega)
  have hr:=HRG.out;unfold RangeOk at hr;rw[if_pos k5] at hr
  obtain⟨r1,r2,-⟩:=hr
  have i1:=yY.1 r1
  obtain⟨k,rfl⟩: ∃ k:Nat,et=(k:Int):=⟨et.toNat,by dsimp only at i1;omega⟩
  have hlt:k<x.zF.zD.length:=by dsimp only at i1;omega
  have hgk:=List.getElem?_eq_getElem hlt
  generalize x.zF.zD[k]=y at hgk
  dsimp only at r2
  rw[sendsAt_of hgk] at r2
  have i2:=yY.1 r2
  obtain⟨j,rfl⟩: ∃ j:Nat,ec=(j:Int):=⟨ec.toNat,by omega⟩
  have hjl:j<y.zS.length:=by omega
  have hgj:=List.getElem?_eq_getElem hjl
  generalize y.zS[j]=z at hgj
  have hd:doE x ⟨ek,(k:Int),(j:Int),ev,⟨ns,nf,nl,na,ng⟩⟩= { x with zF:=⟨x.zF.zD.set k { y with zS:=y.zS.set j ⟨z.yB,ev⟩ }⟩ } :=by unfold doE;rw[if_neg k4,if_pos k5,Int.toNat_natCast,turnAt_of hgk,Int.toNat_natCast,turnAt_of hgj]
  rw[hd]
  have HGK:=hide hgk;have HGJ:=hide hgj;clear hd k5 k4 hgk hgj r1 r2 i1 i2
  have hi0:(0:Int)≤(k:Int):=by omega
  have hi1:(k:Int)<(x.zF.zD.length:Int):=by omega
  have hi2:(0:Int)≤(j:Int):=by omega
  have hi3:(j:Int)<(y.zS.length:Int):=by omega
  obtain⟨Fx,ho,hn,hm,put⟩:=GSession.part_strips HOW.out HND.out
  obtain⟨g5,c5',e5,hc1,hc2⟩:=T.ow_form ho (by rw[List.length_map];omega)
  rw[List.length_map] at e5 hc1
  subst e5
  have hO:Own 0 w (T.sl 139 3 (x.zF.zD.map GStrip.t)) Fx (.slice (some ⟨g5,0,none⟩) x.zF.zD.length c5'):=⟨ho,hn,fun _ _=>Nat.zero_le _⟩
  obtain⟨Fy,cx,hoy,hny,hmy,hgy,hcy,hcl⟩:=hO.inner (k:=k) (x:=y.t) (by rw[List.getElem?_map,HGK.out];rfl)
  obtain⟨u2,F2,ecx,eF2,ho2⟩:=GStrip.ow_open (x:=y) (show T.ows w y.fs Fy cx by simpa only[GStrip.t,T.ow] using hoy)
  subst ecx
  obtain⟨gs,cs,e6,hs1,hs2⟩:=T.ow_form ho2 (by rw[List.length_map];omega)
  rw[List.length_map] at e6 hs1
  subst e6
  rw[List.append_nil] at eF2
  subst eF2
  have hgs:gs ∈ Fy:=(T.ow_rowmem ho2 gs rfl)
  have hgy5: ¬ gs=g5:=(fun e=>hgy (e ▸ hgs))
  have hs5:w.cell? ⟨g5,k * 3+2,none⟩=some (.slice (some ⟨gs,0,none⟩) y.zS.length cs):=hcy 2 _ rfl
  have HPUT:=hide put;have HMEM:=hide hm;have HCL:=hide hcl;have HO2:=hide (show Own 0 w (T.sl 159 2 (y.zS.map GSend.t)) Fy (.slice (some ⟨gs,0,none⟩) y.zS.length cs) from⟨ho2,hny,fun _ _=>Nat.zero_le _⟩);have HGS:=hide hgs;have HMY:=hide hmy;have HNX:=hide hn
  have hrw:=T.ow_row2 ho2
  obtain⟨es2,hrw2⟩:=hrw
  rw[List.length_map] at hrw2
  obtain⟨uu,kgc⟩:=own_isc hrw2 (show j * 2+1<y.zS.length * 2 by omega)
  have kfr:=yR hrw2 (j * 2+1)
  have gsl:=T.ow_lt _ _ _ ho2 gs hgs
  have n8: ¬ g5=gs:=(fun e=>hgy5 e.symm)
  clear ho hn hm put hO hoy hny hmy hgy hcy hcl ho2 hgs hrw2
  go_wp2
  refine wp_region_still_tail 22 (by kernel_rfl) (by kernel_rfl) ?_
  simp only[List.take_succ_cons,List.take_zero,List.drop_succ_cons,List.drop_zero]
  change wpStill _ _ (World.drew w) (fun a'=>wpList _ _ _ _ a' (World.drew w)) _ _
  repeat still_step
  refine wpStill_nil ?_
  clear kp c0 c1 c2 c3 c4 c5 c6 c7 c8 hs5
  go_wp2
  refine bodyPost_ret (v:= .tuple #[]) (results_none rfl _ _ _) rfl ?_
  have p2:=Own.put2 ev HO2.out (k:=j) (a:=z.yB) (b:=z.zQ) (by rw[List.getElem?_map,HGJ.out];rfl)
  rw[show (y.zS.map GSend.t).set j (.st [.num z.yB,.num ev])=(y.zS.set j ⟨z.yB,ev⟩).map GSend.t by rw[List.map_set];rfl] at p2
  have tr:=Trn.set_ (w:=w) HGS.out (j * 2+1) (.int .i64 ev)
  have oy:=GStrip.ow_mk (x:= { y with zS:=y.zS.set j ⟨z.yB,ev⟩ }) p2.ow
  rw[List.append_nil] at oy
  have o5:=HCL.out _ (GStrip.t { y with zS:=y.zS.set j ⟨z.yB,ev⟩ }) tr (T.ow_st oy) (GStrip.wide_t _)
  rw[show (x.zF.zD.map GStrip.t).set k (GStrip.t { y with zS:=y.zS.set j ⟨z.yB,ev⟩ })=(x.zF.zD.set k { y with zS:=y.zS.set j ⟨z.yB,ev⟩ }).map GStrip.t by rw[List.map_set]] at o5
  obtain⟨F',z1,z2,z3⟩:=HPUT.out _ (x.zF.zD.set k { y with zS:=y.zS.set j ⟨z.yB,ev⟩ }) Fx _ (tr.mono HMY.out) o5.ow HNX.out (fun b hb=> .inl hb)
  have tr2:=(tr.mono HMY.out).mono HMEM.out
  exact⟨rfl,F',by first|exact z1|exact T.ows_all z1 (Below.refl _ _).drew,z2,z3,by first|exact tr2|exact tr2.drew⟩
 have q5:(ek == 5)=false:=yO k5
 obtain⟨k,t,hk,ht⟩:=range_track HRG.out k5
 obtain rfl:et=(k:Int):=hk
 have hlt:k<x.zE.length:=(List.getElem?_eq_some_iff.1 ht).1
 have hsy:=HSM.out.2.1.2 t (List.mem_of_getElem? ht)
 have hr:=HRG.out;unfold RangeOk at hr;rw[if_neg k5] at hr
 have hr:=hr.2;dsimp only at hr;rw[clipsAt_of ht] at hr
 have hfk:=fields_kind HFD.out
 dsimp only at hfk
 have hny:t.zL.length≤1048576:=hsy;clear hsy
 obtain⟨j,hj,hj1,hj2⟩: ∃ j:Nat,ec=(j:Int)∧(ek=1→j≤t.zL.length)∧(ek≠1→j<t.zL.length):=by
  by_cases h1:ek=1
  ·rw[if_pos h1] at hr;have:=yY.1 hr.1;exact⟨ec.toNat,by omega,fun _=>by omega,fun h=>absurd h1 h⟩
  ·rw[if_neg h1] at hr
   by_cases h3:ek=3
   ·rw[if_pos h3] at hr;have:=yY.1 hr.1;exact⟨ec.toNat,by omega,fun h=>absurd h h1,fun _=>by omega⟩
   ·rw[if_neg h3,if_pos (by omega)] at hr;have:=yY.1 hr;exact⟨ec.toNat,by omega,fun h=>absurd h h1,fun _=>by omega⟩
 obtain rfl:ec=(j:Int):=hj
 have hd:doE x ⟨ek,(k:Int),(j:Int),ev,⟨ns,nf,nl,na,ng⟩⟩= { x with zE:=x.zE.set k (⟨(editL t.zL ⟨ek,(k:Int),(j:Int),ev,⟨ns,nf,nl,na,ng⟩⟩)⟩:GTrack) } :=by rw[doE_kind _ _ k4 k5,Int.toNat_natCast,turnAt_of ht]
 rw[hd];clear hd hr
 have HT:=hide ht;clear ht
 have hi0:(0:Int)≤(k:Int):=by omega
 have hi1:(k:Int)<(x.zE.length:Int):=by omega
 have hi2:(0:Int)≤(j:Int):=by omega
 obtain⟨Fx,ho,hn,hm,put⟩:=GSession.part_tracks HOW.out HND.out
 obtain⟨g2,c2',e3,hc1,hc2⟩:=T.ow_form ho (by rw[List.length_map];omega)
 rw[List.length_map] at e3 hc1
 subst e3
 have hO:Own 0 w (T.sl 126 1 (x.zE.map GTrack.t)) Fx (.slice (some ⟨g2,0,none⟩) x.zE.length c2'):=⟨ho,hn,fun _ _=>Nat.zero_le _⟩
 have hg2:g2 ∈ Fx:=hO.mem g2 rfl
 have g2l:=hO.lt g2 hg2
 obtain⟨Fy,cx,hoy,hny2,hmy,hgy,hcy,-⟩:=hO.inner (k:=k) (x:=t.t) (by rw[List.getElem?_map,HT.out];rfl)
 obtain⟨u2,F2,ecx,eF2,ho2⟩:=GTrack.ow_open (x:=t) (show T.ows w t.fs Fy cx by simpa only[GTrack.t,T.ow] using hoy)
 subst ecx
 rw[List.append_nil] at eF2
 subst eF2
 have dT:w.cell? ⟨g2,k,none⟩=some u2:=by have:=hcy 0 _ rfl;rwa [Nat.mul_one,Nat.add_zero] at this
 obtain⟨es,hrd,hrs⟩:=T.rd_row (T.ow_rd _ _ _ ho2)
 obtain⟨es2,hrw2⟩:=T.ow_row2 ho
 rw[List.length_map] at hrw2
 have kfr:=yR hrw2 k
 obtain⟨es3,hrw3⟩:=T.ow_row2 ho2
 rw[List.length_map] at hrw3 hrd
 have hel:=hrd.1;have h1c:=T.rds_cell _ _ hrs
 have hvs:T.rds w (GClip.fs ⟨ns,nf,nl,na,ng⟩) [.int .i64 ns,.int .i64 nf,.int .i64 nl,.int .i64 na,.int .i64 ng]:=GClip.rd_mk (x:=⟨ns,nf,nl,na,ng⟩)
 have HRD:=hide hrd;have HRS:=hide hrs;have HEL:=hide hel;have H1C:=hide h1c;have HVS:=hide hvs
 have HO:=hide hO;have HPUT:=hide put;have HMEM:=hide hm;have HG2:=hide hg2
 have HJ1:=hide hj1;have HJ2:=hide hj2
 clear ho hn hm put hO hg2 hoy hny2 hmy hgy hcy ho2 hrw2 hrd hrs hel h1c hvs
 by_cases k1:ek=1
 ·
  have HK:=hide k1;clear k1 k4 k5
  have q1:(ek == 1)=true:=yP HK.out
  have q2:(ek == 2)=false:=yO (by have:=HK.out;omega)
  have q3:(ek == 3)=false:=yO (by have:=HK.out;omega)
  have q2n:(ek != 2)=true:=bneI_t (by have:=HK.out;omega)
  have hjn:j≤t.zL.length:=HJ1.out HK.out
  have HJ:Sec (j≤t.zL.length):=hide (by omega);have HLO:=hide hjn
  have hin:(j:Int)≤(t.zL.length:Int):=by omega
  rcases hrw3.2 with ⟨eV,h0⟩|⟨g,cap,cur,eV,hbg,hg,hnc,hcm,hcs,htk⟩
  ·
   subst eV
   obtain rfl:j=0:=by omega
   have NIL:=hide (show es.drop (0 * 5)= [] by rw[List.drop_eq_nil_iff,HEL.out,h0];omega)
   have h0i:(t.zL.length:Int)=0:=by omega
   clear hrw3
   go_wp2
   have g0:=xA HBK.out;have g1:=yD c1;have g2:=yD dT
   refine yZ (by kernel_rfl) (by kernel_rfl) ?_
   repeat(first|go_big_quiet_skip|(go_big_quiet_want;go_big_quiet_op;first|go_big_quiet_on|(apply Exists.intro;refine⟨fun _=>?_,?_⟩;(· (fail));go_big_quiet_on)))
   refine wpQuiet_nil ?_
   rintro w9 ⟨uu,rfl⟩
   have hb9:=yE w uu
   generalize bel w uu=w9 at *
   have HB9:=hide hb9;clear hb9 g0 g1 g2
   have hs9:=HB9.out.size
   have HBa:=hide (show Below w.heap.size w (w9.alloc (.cells #[] 60)) from HB9.out.alloc hs9 _)
   have HMa:=hide (own_more (World.ownsRow_made w9 #[] 0 (Nat.le_refl _) (by decide) rfl:(w9.alloc (.cells #[] 60)).ownsRow w9.heap.size 60 5 (.slice (some ⟨w9.heap.size,0,none⟩) 0 0) 0 []) hs9)
   have a0:=(HB9.out.cell hlt').trans c0
   have a2:=(HB9.out.cell hlt').trans c2
   have a4:=(HB9.out.cell hlt').trans c4
   have a5:=(HB9.out.cell hlt').trans c5
   have a6:=(HB9.out.cell hlt').trans c6
   have a7:=(HB9.out.cell hlt').trans c7
   have a8:=(HB9.out.cell hlt').trans c8
   have lb9:=Nat.lt_of_lt_of_le hlt' hs9
   go_wp2_with (first|(at_builtin;refine app_many rfl _ _ _ rfl w.heap.size _ _ 5 40 Tryz.underlying124 info_ClipS rfl (by omega) v8 (0+1) (es.take (0 * 5)++ [.int .i64 ns,.int .i64 nf,.int .i64 nl,.int .i64 na,.int .i64 ng]) rfl HM8.out _ _ (es.drop (0 * 5)) rfl (Rd.none_ rfl rfl NIL.out) (fun u hu=>H1C.out u (List.mem_of_mem_drop hu)) (by omega) (by omega) HB8.out.size ?_;intro vX wX hrX hgX hvX;have HBX:=hide (grown_all HB8.out hgX (fun k hk=>(HM8.out.lt k hk).1));have HMX:=hide hrX;clear hrX hgX hvX d0 d2)|(at_builtin;refine app_one (news:= #[.int .i64 ns,.int .i64 nf,.int .i64 nl,.int .i64 na,.int .i64 ng]) rfl _ _ _ rfl w.heap.size _ _ 5 40 Tryz.underlying124 info_ClipS rfl (by omega) v7 0 (es.take (0 * 5)) rfl HM7.out rfl rfl (T.rds_cell _ _ HVS.out) (by omega) (by omega) HB7.out.size ?_;intro v8 w8 hr8 hg8 hv8;have HB8:=hide (grown_all HB7.out hg8 (fun k hk=>(HM7.out.lt k hk).1));have HM8:=hide (show w8.ownsRow w.heap.size 60 5 v8 (0+1) (es.take (0 * 5)++ [.int .i64 ns,.int .i64 nf,.int .i64 nl,.int .i64 na,.int .i64 ng]) from hr8);clear hr8 hg8 hv8 d0 d2 d4 d5 d6 d7 d8;have d0:=(HB8.out.cell hlt').trans c0;have d2:=(HB8.out.cell hlt').trans c2)|(at_builtin;refine app_many rfl _ _ _ rfl w.heap.size _ _ 5 40 Tryz.underlying124 info_ClipS rfl (by omega) (.slice (some ⟨w9.heap.size,0,none⟩) 0 0) 0 [] rfl HMa.out _ 0 (es.take (0 * 5)) rfl (Rd.none_ rfl rfl (by simp)) (fun u hu=>H1C.out u (List.mem_of_mem_take hu)) (by omega) (by omega) (Nat.le_trans hs9 (by simp)) ?_;intro v7 w7 hr7 hg7 hv7;have HB7:=hide (grown_all HBa.out hg7 (fun k hk=>(HMa.out.lt k hk).1));have HM7:=hide (show w7.ownsRow w.heap.size 60 5 v7 0 (es.take (0 * 5)) by simpa using hr7);clear hr7 hg7 hv7;have d0:=(HB7.out.cell hlt').trans c0;have d2:=(HB7.out.cell hlt').trans c2;have d4:=(HB7.out.cell hlt').trans c4;have d5:=(HB7.out.cell hlt').trans c5;have d6:=(HB7.out.cell hlt').trans c6;have d7:=(HB7.out.cell hlt').trans c7;have d8:=(HB7.out.cell hlt').trans c8))
   have hL:T.rds w ((editL t.zL ⟨ek,(k:Int),((0:Nat):Int),ev,⟨ns,nf,nl,na,ng⟩⟩).map GClip.t) (es.take (0 * 5)++ [.int .i64 ns,.int .i64 nf,.int .i64 nl,.int .i64 na,.int .i64 ng]++es.drop (0 * 5)):=by have:=rds_ins (k:=0) (j:=0) HRS.out HJ.out HLO.out HVS.out;unfold editL;rw[if_pos HK.out];rw[List.append_assoc];exact this
   have oD:=Own.of_flat (w':=w) (GClip.flat _) GClip.wide_t HMX.out hL (by have h1:=HJ.out;have h2:=HLO.out;unfold editL;rw[if_pos HK.out];dsimp only;simp only[Int.toNat_natCast,List.length_append,List.length_take,List.length_cons,List.length_drop];omega)
   obtain⟨tD,lD,cD,rfl⟩:=T.yT oD.ow
   have HOD:=hide oD;clear oD hL
   have hkp:=(HBK.out.below HBX.out HBK.out.lt).cell
   have e1:=(HBX.out.cell hlt').trans c1;have eT:=(HBX.out.cell g2l).trans dT;have eF:=(World.frozen?_of_block (a:=⟨g2,k,none⟩) (HBX.out.block g2 g2l)).trans kfr
   have g2X:=Nat.lt_of_lt_of_le g2l HBX.out.size
   refine wp_region_still_tail 11 (by kernel_rfl) (by kernel_rfl) ?_
   simp only[List.take_succ_cons,List.take_zero,List.drop_succ_cons,List.drop_zero]
   change wpStill _ _ (World.drew wX) (fun a'=>wpList _ _ _ _ a' (World.drew wX)) _ _
   repeat still_step
   refine wpStill_nil ?_
   clear hkp e1
   go_wp2
   refine bodyPost_end (v:= .tuple #[]) (results_none rfl _ _ _) rfl ?_
   have oy:=GTrack.ow_mk (x:=(⟨(editL t.zL ⟨ek,(k:Int),((0:Nat):Int),ev,⟨ns,nf,nl,na,ng⟩⟩)⟩:GTrack)) HOD.out.ow
   rw[List.append_nil] at oy
   obtain⟨F6,hO6,hF6⟩:=Own.put1 (HO.out.all HBX.out) (k:=k) (x:=t.t) (y:=GTrack.t (⟨(editL t.zL ⟨ek,(k:Int),((0:Nat):Int),ev,⟨ns,nf,nl,na,ng⟩⟩)⟩:GTrack)) (by rw[List.getElem?_map,HT.out];rfl) (T.ow_st oy) HOD.out.nodup (fun b hb=>Nat.zero_le _) (fun b hb hm=>by have h1:=HO.out.lt b hb;have h2:=HOD.out.lo b hm;omega) rfl
   rw[show (x.zE.map GTrack.t).set k (GTrack.t (⟨(editL t.zL ⟨ek,(k:Int),((0:Nat):Int),ev,⟨ns,nf,nl,na,ng⟩⟩)⟩:GTrack))=(x.zE.set k (⟨(editL t.zL ⟨ek,(k:Int),((0:Nat):Int),ev,⟨ns,nf,nl,na,ng⟩⟩)⟩:GTrack)).map GTrack.t by rw[List.map_set]] at hO6
   obtain⟨F',z1,z2,z3⟩:=HPUT.out _ (x.zE.set k (⟨(editL t.zL ⟨ek,(k:Int),((0:Nat):Int),ev,⟨ns,nf,nl,na,ng⟩⟩)⟩:GTrack)) F6 _ ((Trn.of_below HBX.out).trans (Trn.set_ HG2.out k (.slice tD lD cD))) hO6.ow hO6.nodup (fun b hb=>by rcases hF6 b hb with h|h;(· exact .inl h);(· exact .inr (HOD.out.lo b h)))
   have tr:=(Trn.of_below HBX.out).trans (Trn.set_ (HMEM.out _ HG2.out) k (.slice tD lD cD))
   exact⟨rfl,F',by first|exact z1|exact T.ows_all z1 (Below.refl _ _).drew,z2,z3,by first|exact tr|exact tr.drew⟩
  subst eV;clear hrw3
  have hic:(j:Int)≤(cap:Int):=by omega
  have hjc:(j:Int)≤(cap:Int):=by omega
  have hnc2:(t.zL.length:Int)≤(cap:Int):=by omega
  by_cases hq:cap=j
  ·
   have hq:=hq.symm;subst hq
   have hnl:t.zL.length=j:=by omega
   have NIL:=hide (show es.drop (j * 5)= [] by rw[List.drop_eq_nil_iff,HEL.out];omega)
   go_wp2
   have g0:=xA HBK.out;have g1:=yD c1;have g2:=yD dT
   refine yZ (by kernel_rfl) (by kernel_rfl) ?_
   repeat(first|go_big_quiet_skip|(go_big_quiet_want;go_big_quiet_op;first|go_big_quiet_on|(apply Exists.intro;refine⟨fun _=>?_,?_⟩;(· (fail));go_big_quiet_on)))
   refine wpQuiet_nil ?_
   rintro w9 ⟨uu,rfl⟩
   have hb9:=yE w uu
   generalize bel w uu=w9 at *
   have HB9:=hide hb9;clear hb9 g0 g1 g2
   have hs9:=HB9.out.size
   have HBa:=hide (show Below w.heap.size w (w9.alloc (.cells #[] 60)) from HB9.out.alloc hs9 _)
   have HMa:=hide (own_more (World.ownsRow_made w9 #[] 0 (Nat.le_refl _) (by decide) rfl:(w9.alloc (.cells #[] 60)).ownsRow w9.heap.size 60 5 (.slice (some ⟨w9.heap.size,0,none⟩) 0 0) 0 []) hs9)
   have a0:=(HB9.out.cell hlt').trans c0
   have a2:=(HB9.out.cell hlt').trans c2
   have a4:=(HB9.out.cell hlt').trans c4
   have a5:=(HB9.out.cell hlt').trans c5
   have a6:=(HB9.out.cell hlt').trans c6
   have a7:=(HB9.out.cell hlt').trans c7
   have a8:=(HB9.out.cell hlt').trans c8
   have lb9:=Nat.lt_of_lt_of_le hlt' hs9
   go_wp2_with (first|(at_builtin;refine app_many rfl _ _ _ rfl w.heap.size _ _ 5 40 Tryz.underlying124 info_ClipS rfl (by omega) v8 (j+1) (es.take (j * 5)++ [.int .i64 ns,.int .i64 nf,.int .i64 nl,.int .i64 na,.int .i64 ng]) rfl HM8.out _ _ (es.drop (j * 5)) rfl (Rd.none_ (by omega) (by omega) NIL.out) (fun u hu=>H1C.out u (List.mem_of_mem_drop hu)) (by omega) (by omega) HB8.out.size ?_;intro vX wX hrX hgX hvX;have HBX:=hide (grown_all HB8.out hgX (fun k hk=>(HM8.out.lt k hk).1));have HMX:=hide hrX;clear hrX hgX hvX d0 d2)|(at_builtin;refine app_one (news:= #[.int .i64 ns,.int .i64 nf,.int .i64 nl,.int .i64 na,.int .i64 ng]) rfl _ _ _ rfl w.heap.size _ _ 5 40 Tryz.underlying124 info_ClipS rfl (by omega) v7 j (es.take (j * 5)) rfl HM7.out rfl rfl (T.rds_cell _ _ HVS.out) (by omega) (by omega) HB7.out.size ?_;intro v8 w8 hr8 hg8 hv8;have HB8:=hide (grown_all HB7.out hg8 (fun k hk=>(HM7.out.lt k hk).1));have HM8:=hide (show w8.ownsRow w.heap.size 60 5 v8 (j+1) (es.take (j * 5)++ [.int .i64 ns,.int .i64 nf,.int .i64 nl,.int .i64 na,.int .i64 ng]) from hr8);clear hr8 hg8 hv8 d0 d2 d4 d5 d6 d7 d8;have d0:=(HB8.out.cell hlt').trans c0;have d2:=(HB8.out.cell hlt').trans c2)|(at_builtin;refine app_many rfl _ _ _ rfl w.heap.size _ _ 5 40 Tryz.underlying124 info_ClipS rfl (by omega) (.slice (some ⟨w9.heap.size,0,none⟩) 0 0) 0 [] rfl HMa.out _ j (es.take (j * 5)) rfl ((HRD.out.take HJ.out).below HBa.out) (fun u hu=>H1C.out u (List.mem_of_mem_take hu)) (by omega) (by omega) (Nat.le_trans hs9 (by simp)) ?_;intro v7 w7 hr7 hg7 hv7;have HB7:=hide (grown_all HBa.out hg7 (fun k hk=>(HMa.out.lt k hk).1));have HM7:=hide (show w7.ownsRow w.heap.size 60 5 v7 j (es.take (j * 5)) by simpa using hr7);clear hr7 hg7 hv7;have d0:=(HB7.out.cell hlt').trans c0;have d2:=(HB7.out.cell hlt').trans c2;have d4:=(HB7.out.cell hlt').trans c4;have d5:=(HB7.out.cell hlt').trans c5;have d6:=(HB7.out.cell hlt').trans c6;have d7:=(HB7.out.cell hlt').trans c7;have d8:=(HB7.out.cell hlt').trans c8))
   have hL:T.rds w ((editL t.zL ⟨ek,(k:Int),(j:Int),ev,⟨ns,nf,nl,na,ng⟩⟩).map GClip.t) (es.take (j * 5)++ [.int .i64 ns,.int .i64 nf,.int .i64 nl,.int .i64 na,.int .i64 ng]++es.drop (j * 5)):=by have:=rds_ins (k:=j) (j:=j) HRS.out HJ.out HLO.out HVS.out;unfold editL;rw[if_pos HK.out];rw[List.append_assoc];exact this
   have oD:=Own.of_flat (w':=w) (GClip.flat _) GClip.wide_t HMX.out hL (by have h1:=HJ.out;have h2:=HLO.out;unfold editL;rw[if_pos HK.out];dsimp only;simp only[Int.toNat_natCast,List.length_append,List.length_take,List.length_cons,List.length_drop];omega)
   obtain⟨tD,lD,cD,rfl⟩:=T.yT oD.ow
   have HOD:=hide oD;clear oD hL
   have hkp:=(HBK.out.below HBX.out HBK.out.lt).cell
   have e1:=(HBX.out.cell hlt').trans c1;have eT:=(HBX.out.cell g2l).trans dT;have eF:=(World.frozen?_of_block (a:=⟨g2,k,none⟩) (HBX.out.block g2 g2l)).trans kfr
   have g2X:=Nat.lt_of_lt_of_le g2l HBX.out.size
   refine wp_region_still_tail 11 (by kernel_rfl) (by kernel_rfl) ?_
   simp only[List.take_succ_cons,List.take_zero,List.drop_succ_cons,List.drop_zero]
   change wpStill _ _ (World.drew wX) (fun a'=>wpList _ _ _ _ a' (World.drew wX)) _ _
   repeat still_step
   refine wpStill_nil ?_
   clear hkp e1
   go_wp2
   refine bodyPost_end (v:= .tuple #[]) (results_none rfl _ _ _) rfl ?_
   have oy:=GTrack.ow_mk (x:=(⟨(editL t.zL ⟨ek,(k:Int),(j:Int),ev,⟨ns,nf,nl,na,ng⟩⟩)⟩:GTrack)) HOD.out.ow
   rw[List.append_nil] at oy
   obtain⟨F6,hO6,hF6⟩:=Own.put1 (HO.out.all HBX.out) (k:=k) (x:=t.t) (y:=GTrack.t (⟨(editL t.zL ⟨ek,(k:Int),(j:Int),ev,⟨ns,nf,nl,na,ng⟩⟩)⟩:GTrack)) (by rw[List.getElem?_map,HT.out];rfl) (T.ow_st oy) HOD.out.nodup (fun b hb=>Nat.zero_le _) (fun b hb hm=>by have h1:=HO.out.lt b hb;have h2:=HOD.out.lo b hm;omega) rfl
   rw[show (x.zE.map GTrack.t).set k (GTrack.t (⟨(editL t.zL ⟨ek,(k:Int),(j:Int),ev,⟨ns,nf,nl,na,ng⟩⟩)⟩:GTrack))=(x.zE.set k (⟨(editL t.zL ⟨ek,(k:Int),(j:Int),ev,⟨ns,nf,nl,na,ng⟩⟩)⟩:GTrack)).map GTrack.t by rw[List.map_set]] at hO6
   obtain⟨F',z1,z2,z3⟩:=HPUT.out _ (x.zE.set k (⟨(editL t.zL ⟨ek,(k:Int),(j:Int),ev,⟨ns,nf,nl,na,ng⟩⟩)⟩:GTrack)) F6 _ ((Trn.of_below HBX.out).trans (Trn.set_ HG2.out k (.slice tD lD cD))) hO6.ow hO6.nodup (fun b hb=>by rcases hF6 b hb with h|h;(· exact .inl h);(· exact .inr (HOD.out.lo b h)))
   have tr:=(Trn.of_below HBX.out).trans (Trn.set_ (HMEM.out _ HG2.out) k (.slice tD lD cD))
   exact⟨rfl,F',by first|exact z1|exact T.ows_all z1 (Below.refl _ _).drew,z2,z3,by first|exact tr|exact tr.drew⟩
  have hlc:(j:Int)<(cap:Int):=by omega
  have HRDD:=hide (show Rd w (.slice (some ⟨g,j * 5,none⟩) (t.zL.length - j) (cap - j)) 5 (t.zL.length - j) (es.drop (j * 5)) by have:=HRD.out.drop HLO.out;rwa [Nat.zero_add] at this)
  go_wp2
  have g0:=xA HBK.out;have g1:=yD c1;have g2:=yD dT
  refine yZ (by kernel_rfl) (by kernel_rfl) ?_
  repeat(first|go_big_quiet_skip|(go_big_quiet_want;go_big_quiet_op;first|go_big_quiet_on|(apply Exists.intro;refine⟨fun _=>?_,?_⟩;(· (fail));go_big_quiet_on)))
  refine wpQuiet_nil ?_
  rintro w9 ⟨uu,rfl⟩
  have hb9:=yE w uu
  generalize bel w uu=w9 at *
  have HB9:=hide hb9;clear hb9 g0 g1 g2
  have hs9:=HB9.out.size
  have HBa:=hide (show Below w.heap.size w (w9.alloc (.cells #[] 60)) from HB9.out.alloc hs9 _)
  have HMa:=hide (own_more (World.ownsRow_made w9 #[] 0 (Nat.le_refl _) (by decide) rfl:(w9.alloc (.cells #[] 60)).ownsRow w9.heap.size 60 5 (.slice (some ⟨w9.heap.size,0,none⟩) 0 0) 0 []) hs9)
  have a0:=(HB9.out.cell hlt').trans c0
  have a2:=(HB9.out.cell hlt').trans c2
  have a4:=(HB9.out.cell hlt').trans c4
  have a5:=(HB9.out.cell hlt').trans c5
  have a6:=(HB9.out.cell hlt').trans c6
  have a7:=(HB9.out.cell hlt').trans c7
  have a8:=(HB9.out.cell hlt').trans c8
  have lb9:=Nat.lt_of_lt_of_le hlt' hs9
  go_wp2_with (first|(at_builtin;refine app_many rfl _ _ _ rfl w.heap.size _ _ 5 40 Tryz.underlying124 info_ClipS rfl (by omega) v8 (j+1) (es.take (j * 5)++ [.int .i64 ns,.int .i64 nf,.int .i64 nl,.int .i64 na,.int .i64 ng]) rfl HM8.out _ _ (es.drop (j * 5)) rfl (HRDD.out.below HB8.out) (fun u hu=>H1C.out u (List.mem_of_mem_drop hu)) (by omega) (by omega) HB8.out.size ?_;intro vX wX hrX hgX hvX;have HBX:=hide (grown_all HB8.out hgX (fun k hk=>(HM8.out.lt k hk).1));have HMX:=hide hrX;clear hrX hgX hvX d0 d2)|(at_builtin;refine app_one (news:= #[.int .i64 ns,.int .i64 nf,.int .i64 nl,.int .i64 na,.int .i64 ng]) rfl _ _ _ rfl w.heap.size _ _ 5 40 Tryz.underlying124 info_ClipS rfl (by omega) v7 j (es.take (j * 5)) rfl HM7.out rfl rfl (T.rds_cell _ _ HVS.out) (by omega) (by omega) HB7.out.size ?_;intro v8 w8 hr8 hg8 hv8;have HB8:=hide (grown_all HB7.out hg8 (fun k hk=>(HM7.out.lt k hk).1));have HM8:=hide (show w8.ownsRow w.heap.size 60 5 v8 (j+1) (es.take (j * 5)++ [.int .i64 ns,.int .i64 nf,.int .i64 nl,.int .i64 na,.int .i64 ng]) from hr8);clear hr8 hg8 hv8 d0 d2 d4 d5 d6 d7 d8;have d0:=(HB8.out.cell hlt').trans c0;have d2:=(HB8.out.cell hlt').trans c2)|(at_builtin;refine app_many rfl _ _ _ rfl w.heap.size _ _ 5 40 Tryz.underlying124 info_ClipS rfl (by omega) (.slice (some ⟨w9.heap.size,0,none⟩) 0 0) 0 [] rfl HMa.out _ j (es.take (j * 5)) rfl ((HRD.out.take HJ.out).below HBa.out) (fun u hu=>H1C.out u (List.mem_of_mem_take hu)) (by omega) (by omega) (Nat.le_trans hs9 (by simp)) ?_;intro v7 w7 hr7 hg7 hv7;have HB7:=hide (grown_all HBa.out hg7 (fun k hk=>(HMa.out.lt k hk).1));have HM7:=hide (show w7.ownsRow w.heap.size 60 5 v7 j (es.take (j * 5)) by simpa using hr7);clear hr7 hg7 hv7;have d0:=(HB7.out.cell hlt').trans c0;have d2:=(HB7.out.cell hlt').trans c2;have d4:=(HB7.out.cell hlt').trans c4;have d5:=(HB7.out.cell hlt').trans c5;have d6:=(HB7.out.cell hlt').trans c6;have d7:=(HB7.out.cell hlt').trans c7;have d8:=(HB7.out.cell hlt').trans c8))
  have hL:T.rds w ((editL t.zL ⟨ek,(k:Int),(j:Int),ev,⟨ns,nf,nl,na,ng⟩⟩).map GClip.t) (es.take (j * 5)++ [.int .i64 ns,.int .i64 nf,.int .i64 nl,.int .i64 na,.int .i64 ng]++es.drop (j * 5)):=by have:=rds_ins (k:=j) (j:=j) HRS.out HJ.out HLO.out HVS.out;unfold editL;rw[if_pos HK.out];rw[List.append_assoc];exact this
  have oD:=Own.of_flat (w':=w) (GClip.flat _) GClip.wide_t HMX.out hL (by have h1:=HJ.out;have h2:=HLO.out;unfold editL;rw[if_pos HK.out];dsimp only;simp only[Int.toNat_natCast,List.length_append,List.length_take,List.length_cons,List.length_drop];omega)
  obtain⟨tD,lD,cD,rfl⟩:=T.yT oD.ow
  have HOD:=hide oD;clear oD hL
  have hkp:=(HBK.out.below HBX.out HBK.out.lt).cell
  have e1:=(HBX.out.cell hlt').trans c1;have eT:=(HBX.out.cell g2l).trans dT;have eF:=(World.frozen?_of_block (a:=⟨g2,k,none⟩) (HBX.out.block g2 g2l)).trans kfr
  have g2X:=Nat.lt_of_lt_of_le g2l HBX.out.size
  refine wp_region_still_tail 11 (by kernel_rfl) (by kernel_rfl) ?_
  simp only[List.take_succ_cons,List.take_zero,List.drop_succ_cons,List.drop_zero]
  change wpStill _ _ (World.drew wX) (fun a'=>wpList _ _ _ _ a' (World.drew wX)) _ _
  repeat still_step
  refine wpStill_nil ?_
  clear hkp e1
  go_wp2
  refine bodyPost_end (v:= .tuple #[]) (results_none rfl _ _ _) rfl ?_
  have oy:=GTrack.ow_mk (x:=(⟨(editL t.zL ⟨ek,(k:Int),(j:Int),ev,⟨ns,nf,nl,na,ng⟩⟩)⟩:GTrack)) HOD.out.ow
  rw[List.append_nil] at oy
  obtain⟨F6,hO6,hF6⟩:=Own.put1 (HO.out.all HBX.out) (k:=k) (x:=t.t) (y:=GTrack.t (⟨(editL t.zL ⟨ek,(k:Int),(j:Int),ev,⟨ns,nf,nl,na,ng⟩⟩)⟩:GTrack)) (by rw[List.getElem?_map,HT.out];rfl) (T.ow_st oy) HOD.out.nodup (fun b hb=>Nat.zero_le _) (fun b hb hm=>by have h1:=HO.out.lt b hb;have h2:=HOD.out.lo b hm;omega) rfl
  rw[show (x.zE.map GTrack.t).set k (GTrack.t (⟨(editL t.zL ⟨ek,(k:Int),(j:Int),ev,⟨ns,nf,nl,na,ng⟩⟩)⟩:GTrack))=(x.zE.set k (⟨(editL t.zL ⟨ek,(k:Int),(j:Int),ev,⟨ns,nf,nl,na,ng⟩⟩)⟩:GTrack)).map GTrack.t by rw[List.map_set]] at hO6
  obtain⟨F',z1,z2,z3⟩:=HPUT.out _ (x.zE.set k (⟨(editL t.zL ⟨ek,(k:Int),(j:Int),ev,⟨ns,nf,nl,na,ng⟩⟩)⟩:GTrack)) F6 _ ((Trn.of_below HBX.out).trans (Trn.set_ HG2.out k (.slice tD lD cD))) hO6.ow hO6.nodup (fun b hb=>by rcases hF6 b hb with h|h;(· exact .inl h);(· exact .inr (HOD.out.lo b h)))
  have tr:=(Trn.of_below HBX.out).trans (Trn.set_ (HMEM.out _ HG2.out) k (.slice tD lD cD))
  exact⟨rfl,F',by first|exact z1|exact T.ows_all z1 (Below.refl _ _).drew,z2,z3,by first|exact tr|exact tr.drew⟩
 by_cases k2:ek=2
 ·
  have HK:=hide k2;clear k2 k4 k5
  have q1:(ek == 1)=false:=yO (by have:=HK.out;omega)
  have q2:(ek == 2)=true:=yP HK.out
  have q3:(ek == 3)=false:=yO (by have:=HK.out;omega)
  have q2n:(ek != 2)=false:=bneI_f HK.out
  have HK1:Sec (¬ ek=1):=hide (by have:=HK.out;omega)
  have hjn:(j+1)≤t.zL.length:=HJ2.out HK1.out
  have HJ:Sec (j≤t.zL.length):=hide (by omega);have HLO:=hide hjn
  have hin:((j:Int)+1)≤(t.zL.length:Int):=by omega
  have hwj:IntKind.i64.wrap ((j:Int)+1)=(j:Int)+1:=IntWalk.i64_in _ (by omega)
  have htn:((j:Int)+1).toNat=j+1:=by omega
  have hp0:(0:Int)≤(j:Int)+1:=by omega
  rcases hrw3.2 with ⟨eV,h0⟩|⟨g,cap,cur,eV,hbg,hg,hnc,hcm,hcs,htk⟩
  ·
   subst eV
   omega
  subst eV;clear hrw3
  have hic:((j:Int)+1)≤(cap:Int):=by omega
  have hjc:(j:Int)≤(cap:Int):=by omega
  have hnc2:(t.zL.length:Int)≤(cap:Int):=by omega
  by_cases hq:cap=(j+1)
  ·
   have hq:=hq.symm;subst hq
   have hnl:t.zL.length=(j+1):=by omega
   have NIL:=hide (show es.drop ((j+1) * 5)= [] by rw[List.drop_eq_nil_iff,HEL.out];omega)
   go_wp2
   have g0:=xA HBK.out;have g1:=yD c1;have g2:=yD dT
   refine yZ (by kernel_rfl) (by kernel_rfl) ?_
   repeat(first|go_big_quiet_skip|(go_big_quiet_want;go_big_quiet_op;first|go_big_quiet_on|(apply Exists.intro;refine⟨fun _=>?_,?_⟩;(· (fail));go_big_quiet_on)))
   refine wpQuiet_nil ?_
   rintro w9 ⟨uu,rfl⟩
   have hb9:=yE w uu
   generalize bel w uu=w9 at *
   have HB9:=hide hb9;clear hb9 g0 g1 g2
   have hs9:=HB9.out.size
   have HBa:=hide (show Below w.heap.size w (w9.alloc (.cells #[] 60)) from HB9.out.alloc hs9 _)
   have HMa:=hide (own_more (World.ownsRow_made w9 #[] 0 (Nat.le_refl _) (by decide) rfl:(w9.alloc (.cells #[] 60)).ownsRow w9.heap.size 60 5 (.slice (some ⟨w9.heap.size,0,none⟩) 0 0) 0 []) hs9)
   have a0:=(HB9.out.cell hlt').trans c0
   have a2:=(HB9.out.cell hlt').trans c2
   have a4:=(HB9.out.cell hlt').trans c4
   have a5:=(HB9.out.cell hlt').trans c5
   have a6:=(HB9.out.cell hlt').trans c6
   have a7:=(HB9.out.cell hlt').trans c7
   have a8:=(HB9.out.cell hlt').trans c8
   have lb9:=Nat.lt_of_lt_of_le hlt' hs9
   go_wp2_with (first|(at_builtin;refine app_many rfl _ _ _ rfl w.heap.size _ _ 5 40 Tryz.underlying124 info_ClipS rfl (by omega) v7 j (es.take (j * 5)) rfl HM7.out _ _ (es.drop ((j+1) * 5)) rfl (Rd.none_ (by omega) (by omega) NIL.out) (fun u hu=>H1C.out u (List.mem_of_mem_drop hu)) (by omega) (by omega) HB7.out.size ?_;intro vX wX hrX hgX hvX;have HBX:=hide (grown_all HB7.out hgX (fun k hk=>(HM7.out.lt k hk).1));have HMX:=hide hrX;clear hrX hgX hvX d0 d2 d4 d5 d6 d7 d8)|(at_builtin;refine app_many rfl _ _ _ rfl w.heap.size _ _ 5 40 Tryz.underlying124 info_ClipS rfl (by omega) (.slice (some ⟨w9.heap.size,0,none⟩) 0 0) 0 [] rfl HMa.out _ j (es.take (j * 5)) rfl ((HRD.out.take HJ.out).below HBa.out) (fun u hu=>H1C.out u (List.mem_of_mem_take hu)) (by omega) (by omega) (Nat.le_trans hs9 (by simp)) ?_;intro v7 w7 hr7 hg7 hv7;have HB7:=hide (grown_all HBa.out hg7 (fun k hk=>(HMa.out.lt k hk).1));have HM7:=hide (show w7.ownsRow w.heap.size 60 5 v7 j (es.take (j * 5)) by simpa using hr7);clear hr7 hg7 hv7;have d0:=(HB7.out.cell hlt').trans c0;have d2:=(HB7.out.cell hlt').trans c2;have d4:=(HB7.out.cell hlt').trans c4;have d5:=(HB7.out.cell hlt').trans c5;have d6:=(HB7.out.cell hlt').trans c6;have d7:=(HB7.out.cell hlt').trans c7;have d8:=(HB7.out.cell hlt').trans c8))
   have hL:T.rds w ((editL t.zL ⟨ek,(k:Int),(j:Int),ev,⟨ns,nf,nl,na,ng⟩⟩).map GClip.t) (es.take (j * 5)++es.drop ((j+1) * 5)):=by have:=rds_del (k:=j) (j:=j+1) HRS.out HJ.out HLO.out;unfold editL;rw[if_neg HK1.out,if_pos HK.out];exact this
   have oD:=Own.of_flat (w':=w) (GClip.flat _) GClip.wide_t HMX.out hL (by have h1:=HJ.out;have h2:=HLO.out;unfold editL;rw[if_neg HK1.out,if_pos HK.out];dsimp only;simp only[Int.toNat_natCast,List.length_append,List.length_take,List.length_cons,List.length_drop];omega)
   obtain⟨tD,lD,cD,rfl⟩:=T.yT oD.ow
   have HOD:=hide oD;clear oD hL
   have hkp:=(HBK.out.below HBX.out HBK.out.lt).cell
   have e1:=(HBX.out.cell hlt').trans c1;have eT:=(HBX.out.cell g2l).trans dT;have eF:=(World.frozen?_of_block (a:=⟨g2,k,none⟩) (HBX.out.block g2 g2l)).trans kfr
   have g2X:=Nat.lt_of_lt_of_le g2l HBX.out.size
   refine wp_region_still_tail 11 (by kernel_rfl) (by kernel_rfl) ?_
   simp only[List.take_succ_cons,List.take_zero,List.drop_succ_cons,List.drop_zero]
   change wpStill _ _ (World.drew wX) (fun a'=>wpList _ _ _ _ a' (World.drew wX)) _ _
   repeat still_step
   refine wpStill_nil ?_
   clear hkp e1
   go_wp2
   refine bodyPost_end (v:= .tuple #[]) (results_none rfl _ _ _) rfl ?_
   have oy:=GTrack.ow_mk (x:=(⟨(editL t.zL ⟨ek,(k:Int),(j:Int),ev,⟨ns,nf,nl,na,ng⟩⟩)⟩:GTrack)) HOD.out.ow
   rw[List.append_nil] at oy
   obtain⟨F6,hO6,hF6⟩:=Own.put1 (HO.out.all HBX.out) (k:=k) (x:=t.t) (y:=GTrack.t (⟨(editL t.zL ⟨ek,(k:Int),(j:Int),ev,⟨ns,nf,nl,na,ng⟩⟩)⟩:GTrack)) (by rw[List.getElem?_map,HT.out];rfl) (T.ow_st oy) HOD.out.nodup (fun b hb=>Nat.zero_le _) (fun b hb hm=>by have h1:=HO.out.lt b hb;have h2:=HOD.out.lo b hm;omega) rfl
   rw[show (x.zE.map GTrack.t).set k (GTrack.t (⟨(editL t.zL ⟨ek,(k:Int),(j:Int),ev,⟨ns,nf,nl,na,ng⟩⟩)⟩:GTrack))=(x.zE.set k (⟨(editL t.zL ⟨ek,(k:Int),(j:Int),ev,⟨ns,nf,nl,na,ng⟩⟩)⟩:GTrack)).map GTrack.t by rw[List.map_set]] at hO6
   obtain⟨F',z1,z2,z3⟩:=HPUT.out _ (x.zE.set k (⟨(editL t.zL ⟨ek,(k:Int),(j:Int),ev,⟨ns,nf,nl,na,ng⟩⟩)⟩:GTrack)) F6 _ ((Trn.of_below HBX.out).trans (Trn.set_ HG2.out k (.slice tD lD cD))) hO6.ow hO6.nodup (fun b hb=>by rcases hF6 b hb with h|h;(· exact .inl h);(· exact .inr (HOD.out.lo b h)))
   have tr:=(Trn.of_below HBX.out).trans (Trn.set_ (HMEM.out _ HG2.out) k (.slice tD lD cD))
   exact⟨rfl,F',by first|exact z1|exact T.ows_all z1 (Below.refl _ _).drew,z2,z3,by first|exact tr|exact tr.drew⟩
  have hlc:((j:Int)+1)<(cap:Int):=by omega
  have HRDD:=hide (show Rd w (.slice (some ⟨g,(j+1) * 5,none⟩) (t.zL.length - (j+1)) (cap - (j+1))) 5 (t.zL.length - (j+1)) (es.drop ((j+1) * 5)) by have:=HRD.out.drop HLO.out;rwa [Nat.zero_add] at this)
  go_wp2
  have g0:=xA HBK.out;have g1:=yD c1;have g2:=yD dT
  refine yZ (by kernel_rfl) (by kernel_rfl) ?_
  repeat(first|go_big_quiet_skip|(go_big_quiet_want;go_big_quiet_op;first|go_big_quiet_on|(apply Exists.intro;refine⟨fun _=>?_,?_⟩;(· (fail));go_big_quiet_on)))
  refine wpQuiet_nil ?_
  rintro w9 ⟨uu,rfl⟩
  have hb9:=yE w uu
  generalize bel w uu=w9 at *
  have HB9:=hide hb9;clear hb9 g0 g1 g2
  have hs9:=HB9.out.size
  have HBa:=hide (show Below w.heap.size w (w9.alloc (.cells #[] 60)) from HB9.out.alloc hs9 _)
  have HMa:=hide (own_more (World.ownsRow_made w9 #[] 0 (Nat.le_refl _) (by decide) rfl:(w9.alloc (.cells #[] 60)).ownsRow w9.heap.size 60 5 (.slice (some ⟨w9.heap.size,0,none⟩) 0 0) 0 []) hs9)
  have a0:=(HB9.out.cell hlt').trans c0
  have a2:=(HB9.out.cell hlt').trans c2
  have a4:=(HB9.out.cell hlt').trans c4
  have a5:=(HB9.out.cell hlt').trans c5
  have a6:=(HB9.out.cell hlt').trans c6
  have a7:=(HB9.out.cell hlt').trans c7
  have a8:=(HB9.out.cell hlt').trans c8
  have lb9:=Nat.lt_of_lt_of_le hlt' hs9
  go_wp2_with (first|(at_builtin;refine app_many rfl _ _ _ rfl w.heap.size _ _ 5 40 Tryz.underlying124 info_ClipS rfl (by omega) v7 j (es.take (j * 5)) rfl HM7.out _ _ (es.drop ((j+1) * 5)) rfl (HRDD.out.below HB7.out) (fun u hu=>H1C.out u (List.mem_of_mem_drop hu)) (by omega) (by omega) HB7.out.size ?_;intro vX wX hrX hgX hvX;have HBX:=hide (grown_all HB7.out hgX (fun k hk=>(HM7.out.lt k hk).1));have HMX:=hide hrX;clear hrX hgX hvX d0 d2 d4 d5 d6 d7 d8)|(at_builtin;refine app_many rfl _ _ _ rfl w.heap.size _ _ 5 40 Tryz.underlying124 info_ClipS rfl (by omega) (.slice (some ⟨w9.heap.size,0,none⟩) 0 0) 0 [] rfl HMa.out _ j (es.take (j * 5)) rfl ((HRD.out.take HJ.out).below HBa.out) (fun u hu=>H1C.out u (List.mem_of_mem_take hu)) (by omega) (by omega) (Nat.le_trans hs9 (by simp)) ?_;intro v7 w7 hr7 hg7 hv7;have HB7:=hide (grown_all HBa.out hg7 (fun k hk=>(HMa.out.lt k hk).1));have HM7:=hide (show w7.ownsRow w.heap.size 60 5 v7 j (es.take (j * 5)) by simpa using hr7);clear hr7 hg7 hv7;have d0:=(HB7.out.cell hlt').trans c0;have d2:=(HB7.out.cell hlt').trans c2;have d4:=(HB7.out.cell hlt').trans c4;have d5:=(HB7.out.cell hlt').trans c5;have d6:=(HB7.out.cell hlt').trans c6;have d7:=(HB7.out.cell hlt').trans c7;have d8:=(HB7.out.cell hlt').trans c8))
  have hL:T.rds w ((editL t.zL ⟨ek,(k:Int),(j:Int),ev,⟨ns,nf,nl,na,ng⟩⟩).map GClip.t) (es.take (j * 5)++es.drop ((j+1) * 5)):=by have:=rds_del (k:=j) (j:=j+1) HRS.out HJ.out HLO.out;unfold editL;rw[if_neg HK1.out,if_pos HK.out];exact this
  have oD:=Own.of_flat (w':=w) (GClip.flat _) GClip.wide_t HMX.out hL (by have h1:=HJ.out;have h2:=HLO.out;unfold editL;rw[if_neg HK1.out,if_pos HK.out];dsimp only;simp only[Int.toNat_natCast,List.length_append,List.length_take,List.length_cons,List.length_drop];omega)
  obtain⟨tD,lD,cD,rfl⟩:=T.yT oD.ow
  have HOD:=hide oD;clear oD hL
  have hkp:=(HBK.out.below HBX.out HBK.out.lt).cell
  have e1:=(HBX.out.cell hlt').trans c1;have eT:=(HBX.out.cell g2l).trans dT;have eF:=(World.frozen?_of_block (a:=⟨g2,k,none⟩) (HBX.out.block g2 g2l)).trans kfr
  have g2X:=Nat.lt_of_lt_of_le g2l HBX.out.size
  refine wp_region_still_tail 11 (by kernel_rfl) (by kernel_rfl) ?_
  simp only[List.take_succ_cons,List.take_zero,List.drop_succ_cons,List.drop_zero]
  change wpStill _ _ (World.drew wX) (fun a'=>wpList _ _ _ _ a' (World.drew wX)) _ _
  repeat still_step
  refine wpStill_nil ?_
  clear hkp e1
  go_wp2
  refine bodyPost_end (v:= .tuple #[]) (results_none rfl _ _ _) rfl ?_
  have oy:=GTrack.ow_mk (x:=(⟨(editL t.zL ⟨ek,(k:Int),(j:Int),ev,⟨ns,nf,nl,na,ng⟩⟩)⟩:GTrack)) HOD.out.ow
  rw[List.append_nil] at oy
  obtain⟨F6,hO6,hF6⟩:=Own.put1 (HO.out.all HBX.out) (k:=k) (x:=t.t) (y:=GTrack.t (⟨(editL t.zL ⟨ek,(k:Int),(j:Int),ev,⟨ns,nf,nl,na,ng⟩⟩)⟩:GTrack)) (by rw[List.getElem?_map,HT.out];rfl) (T.ow_st oy) HOD.out.nodup (fun b hb=>Nat.zero_le _) (fun b hb hm=>by have h1:=HO.out.lt b hb;have h2:=HOD.out.lo b hm;omega) rfl
  rw[show (x.zE.map GTrack.t).set k (GTrack.t (⟨(editL t.zL ⟨ek,(k:Int),(j:Int),ev,⟨ns,nf,nl,na,ng⟩⟩)⟩:GTrack))=(x.zE.set k (⟨(editL t.zL ⟨ek,(k:Int),(j:Int),ev,⟨ns,nf,nl,na,ng⟩⟩)⟩:GTrack)).map GTrack.t by rw[List.map_set]] at hO6
  obtain⟨F',z1,z2,z3⟩:=HPUT.out _ (x.zE.set k (⟨(editL t.zL ⟨ek,(k:Int),(j:Int),ev,⟨ns,nf,nl,na,ng⟩⟩)⟩:GTrack)) F6 _ ((Trn.of_below HBX.out).trans (Trn.set_ HG2.out k (.slice tD lD cD))) hO6.ow hO6.nodup (fun b hb=>by rcases hF6 b hb with h|h;(· exact .inl h);(· exact .inr (HOD.out.lo b h)))
  have tr:=(Trn.of_below HBX.out).trans (Trn.set_ (HMEM.out _ HG2.out) k (.slice tD lD cD))
  exact⟨rfl,F',by first|exact z1|exact T.ows_all z1 (Below.refl _ _).drew,z2,z3,by first|exact tr|exact tr.drew⟩
 have k3:ek=3:=by omega
 clear k1 k2
 have HK:=hide k3;clear k3 k4 k5
 have q1:(ek == 1)=false:=yO (by have:=HK.out;omega)
 have q2:(ek == 2)=false:=yO (by have:=HK.out;omega)
 have q3:(ek == 3)=true:=yP HK.out
 have q2n:(ek != 2)=true:=bneI_t (by have:=HK.out;omega)
 have HK1:Sec (¬ ek=1):=hide (by have:=HK.out;omega);have HK2:Sec (¬ ek=2):=hide (by have:=HK.out;omega)
 have hjn:(j+1)≤t.zL.length:=HJ2.out HK1.out
 have HJ:Sec (j≤t.zL.length):=hide (by omega);have HLO:=hide hjn
 have hin:((j:Int)+1)≤(t.zL.length:Int):=by omega
 have hwj:IntKind.i64.wrap ((j:Int)+1)=(j:Int)+1:=IntWalk.i64_in _ (by omega)
 have htn:((j:Int)+1).toNat=j+1:=by omega
 have hp0:(0:Int)≤(j:Int)+1:=by omega
 rcases hrw3.2 with ⟨eV,h0⟩|⟨g,cap,cur,eV,hbg,hg,hnc,hcm,hcs,htk⟩
 ·
  subst eV
  omega
 subst eV;clear hrw3
 have hic:((j:Int)+1)≤(cap:Int):=by omega
 have hjc:(j:Int)≤(cap:Int):=by omega
 have hnc2:(t.zL.length:Int)≤(cap:Int):=by omega
 by_cases hq:cap=(j+1)
 ·
  have hq:=hq.symm;subst hq
  have hnl:t.zL.length=(j+1):=by omega
  have NIL:=hide (show es.drop ((j+1) * 5)= [] by rw[List.drop_eq_nil_iff,HEL.out];omega)
  go_wp2
  have g0:=xA HBK.out;have g1:=yD c1;have g2:=yD dT
  refine yZ (by kernel_rfl) (by kernel_rfl) ?_
  repeat(first|go_big_quiet_skip|(go_big_quiet_want;go_big_quiet_op;first|go_big_quiet_on|(apply Exists.intro;refine⟨fun _=>?_,?_⟩;(· (fail));go_big_quiet_on)))
  refine wpQuiet_nil ?_
  rintro w9 ⟨uu,rfl⟩
  have hb9:=yE w uu
  generalize bel w uu=w9 at *
  have HB9:=hide hb9;clear hb9 g0 g1 g2
  have hs9:=HB9.out.size
  have HBa:=hide (show Below w.heap.size w (w9.alloc (.cells #[] 60)) from HB9.out.alloc hs9 _)
  have HMa:=hide (own_more (World.ownsRow_made w9 #[] 0 (Nat.le_refl _) (by decide) rfl:(w9.alloc (.cells #[] 60)).ownsRow w9.heap.size 60 5 (.slice (some ⟨w9.heap.size,0,none⟩) 0 0) 0 []) hs9)
  have a0:=(HB9.out.cell hlt').trans c0
  have a2:=(HB9.out.cell hlt').trans c2
  have a4:=(HB9.out.cell hlt').trans c4
  have a5:=(HB9.out.cell hlt').trans c5
  have a6:=(HB9.out.cell hlt').trans c6
  have a7:=(HB9.out.cell hlt').trans c7
  have a8:=(HB9.out.cell hlt').trans c8
  have lb9:=Nat.lt_of_lt_of_le hlt' hs9
  go_wp2_with (first|(at_builtin;refine app_many rfl _ _ _ rfl w.heap.size _ _ 5 40 Tryz.underlying124 info_ClipS rfl (by omega) v8 (j+1) (es.take (j * 5)++ [.int .i64 ns,.int .i64 nf,.int .i64 nl,.int .i64 na,.int .i64 ng]) rfl HM8.out _ _ (es.drop ((j+1) * 5)) rfl (Rd.none_ (by omega) (by omega) NIL.out) (fun u hu=>H1C.out u (List.mem_of_mem_drop hu)) (by omega) (by omega) HB8.out.size ?_;intro vX wX hrX hgX hvX;have HBX:=hide (grown_all HB8.out hgX (fun k hk=>(HM8.out.lt k hk).1));have HMX:=hide hrX;clear hrX hgX hvX d0 d2)|(at_builtin;refine app_one (news:= #[.int .i64 ns,.int .i64 nf,.int .i64 nl,.int .i64 na,.int .i64 ng]) rfl _ _ _ rfl w.heap.size _ _ 5 40 Tryz.underlying124 info_ClipS rfl (by omega) v7 j (es.take (j * 5)) rfl HM7.out rfl rfl (T.rds_cell _ _ HVS.out) (by omega) (by omega) HB7.out.size ?_;intro v8 w8 hr8 hg8 hv8;have HB8:=hide (grown_all HB7.out hg8 (fun k hk=>(HM7.out.lt k hk).1));have HM8:=hide (show w8.ownsRow w.heap.size 60 5 v8 (j+1) (es.take (j * 5)++ [.int .i64 ns,.int .i64 nf,.int .i64 nl,.int .i64 na,.int .i64 ng]) from hr8);clear hr8 hg8 hv8 d0 d2 d4 d5 d6 d7 d8;have d0:=(HB8.out.cell hlt').trans c0;have d2:=(HB8.out.cell hlt').trans c2)|(at_builtin;refine app_many rfl _ _ _ rfl w.heap.size _ _ 5 40 Tryz.underlying124 info_ClipS rfl (by omega) (.slice (some ⟨w9.heap.size,0,none⟩) 0 0) 0 [] rfl HMa.out _ j (es.take (j * 5)) rfl ((HRD.out.take HJ.out).below HBa.out) (fun u hu=>H1C.out u (List.mem_of_mem_take hu)) (by omega) (by omega) (Nat.le_trans hs9 (by simp)) ?_;intro v7 w7 hr7 hg7 hv7;have HB7:=hide (grown_all HBa.out hg7 (fun k hk=>(HMa.out.lt k hk).1));have HM7:=hide (show w7.ownsRow w.heap.size 60 5 v7 j (es.take (j * 5)) by simpa using hr7);clear hr7 hg7 hv7;have d0:=(HB7.out.cell hlt').trans c0;have d2:=(HB7.out.cell hlt').trans c2;have d4:=(HB7.out.cell hlt').trans c4;have d5:=(HB7.out.cell hlt').trans c5;have d6:=(HB7.out.cell hlt').trans c6;have d7:=(HB7.out.cell hlt').trans c7;have d8:=(HB7.out.cell hlt').trans c8))
  have hL:T.rds w ((editL t.zL ⟨ek,(k:Int),(j:Int),ev,⟨ns,nf,nl,na,ng⟩⟩).map GClip.t) (es.take (j * 5)++ [.int .i64 ns,.int .i64 nf,.int .i64 nl,.int .i64 na,.int .i64 ng]++es.drop ((j+1) * 5)):=by have:=rds_ins (k:=j) (j:=(j+1)) HRS.out HJ.out HLO.out HVS.out;unfold editL;rw[if_neg HK1.out,if_neg HK2.out];rw[List.append_assoc];exact this
  have oD:=Own.of_flat (w':=w) (GClip.flat _) GClip.wide_t HMX.out hL (by have h1:=HJ.out;have h2:=HLO.out;unfold editL;rw[if_neg HK1.out,if_neg HK2.out];dsimp only;simp only[Int.toNat_natCast,List.length_append,List.length_take,List.length_cons,List.length_drop];omega)
  obtain⟨tD,lD,cD,rfl⟩:=T.yT oD.ow
  have HOD:=hide oD;clear oD hL
  have hkp:=(HBK.out.below HBX.out HBK.out.lt).cell
  have e1:=(HBX.out.cell hlt').trans c1;have eT:=(HBX.out.cell g2l).trans dT;have eF:=(World.frozen?_of_block (a:=⟨g2,k,none⟩) (HBX.out.block g2 g2l)).trans kfr
  have g2X:=Nat.lt_of_lt_of_le g2l HBX.out.size
  refine wp_region_still_tail 11 (by kernel_rfl) (by kernel_rfl) ?_
  simp only[List.take_succ_cons,List.take_zero,List.drop_succ_cons,List.drop_zero]
  change wpStill _ _ (World.drew wX) (fun a'=>wpList _ _ _ _ a' (World.drew wX)) _ _
  repeat still_step
  refine wpStill_nil ?_
  clear hkp e1
  go_wp2
  refine bodyPost_end (v:= .tuple #[]) (results_none rfl _ _ _) rfl ?_
  have oy:=GTrack.ow_mk (x:=(⟨(editL t.zL ⟨ek,(k:Int),(j:Int),ev,⟨ns,nf,nl,na,ng⟩⟩)⟩:GTrack)) HOD.out.ow
  rw[List.append_nil] at oy
  obtain⟨F6,hO6,hF6⟩:=Own.put1 (HO.out.all HBX.out) (k:=k) (x:=t.t) (y:=GTrack.t (⟨(editL t.zL ⟨ek,(k:Int),(j:Int),ev,⟨ns,nf,nl,na,ng⟩⟩)⟩:GTrack)) (by rw[List.getElem?_map,HT.out];rfl) (T.ow_st oy) HOD.out.nodup (fun b hb=>Nat.zero_le _) (fun b hb hm=>by have h1:=HO.out.lt b hb;have h2:=HOD.out.lo b hm;omega) rfl
  rw[show (x.zE.map GTrack.t).set k (GTrack.t (⟨(editL t.zL ⟨ek,(k:Int),(j:Int),ev,⟨ns,nf,nl,na,ng⟩⟩)⟩:GTrack))=(x.zE.set k (⟨(editL t.zL ⟨ek,(k:Int),(j:Int),ev,⟨ns,nf,nl,na,ng⟩⟩)⟩:GTrack)).map GTrack.t by rw[List.map_set]] at hO6
  obtain⟨F',z1,z2,z3⟩:=HPUT.out _ (x.zE.set k (⟨(editL t.zL ⟨ek,(k:Int),(j:Int),ev,⟨ns,nf,nl,na,ng⟩⟩)⟩:GTrack)) F6 _ ((Trn.of_below HBX.out).trans (Trn.set_ HG2.out k (.slice tD lD cD))) hO6.ow hO6.nodup (fun b hb=>by rcases hF6 b hb with h|h;(· exact .inl h);(· exact .inr (HOD.out.lo b h)))
  have tr:=(Trn.of_below HBX.out).trans (Trn.set_ (HMEM.out _ HG2.out) k (.slice tD lD cD))
  exact⟨rfl,F',by first|exact z1|exact T.ows_all z1 (Below.refl _ _).drew,z2,z3,by first|exact tr|exact tr.drew⟩
 have hlc:((j:Int)+1)<(cap:Int):=by omega
 have HRDD:=hide (show Rd w (.slice (some ⟨g,(j+1) * 5,none⟩) (t.zL.length - (j+1)) (cap - (j+1))) 5 (t.zL.length - (j+1)) (es.drop ((j+1) * 5)) by have:=HRD.out.drop HLO.out;rwa [Nat.zero_add] at this)
 go_wp2
 have g0:=xA HBK.out;have g1:=yD c1;have g2:=yD dT
 refine yZ (by kernel_rfl) (by kernel_rfl) ?_
 repeat(first|go_big_quiet_skip|(go_big_quiet_want;go_big_quiet_op;first|go_big_quiet_on|(apply Exists.intro;refine⟨fun _=>?_,?_⟩;(· (fail));go_big_quiet_on)))
 refine wpQuiet_nil ?_
 rintro w9 ⟨uu,rfl⟩
 have hb9:=yE w uu
 generalize bel w uu=w9 at *
 have HB9:=hide hb9;clear hb9 g0 g1 g2
 have hs9:=HB9.out.size
 have HBa:=hide (show Below w.heap.size w (w9.alloc (.cells #[] 60)) from HB9.out.alloc hs9 _)
 have HMa:=hide (own_more (World.ownsRow_made w9 #[] 0 (Nat.le_refl _) (by decide) rfl:(w9.alloc (.cells #[] 60)).ownsRow w9.heap.size 60 5 (.slice (some ⟨w9.heap.size,0,none⟩) 0 0) 0 []) hs9)
 have a0:=(HB9.out.cell hlt').trans c0
 have a2:=(HB9.out.cell hlt').trans c2
 have a4:=(HB9.out.cell hlt').trans c4
 have a5:=(HB9.out.cell hlt').trans c5
 have a6:=(HB9.out.cell hlt').trans c6
 have a7:=(HB9.out.cell hlt').trans c7
 have a8:=(HB9.out.cell hlt').trans c8
 have lb9:=Nat.lt_of_lt_of_le hlt' hs9
 go_wp2_with (first|(at_builtin;refine app_many rfl _ _ _ rfl w.heap.size _ _ 5 40 Tryz.underlying124 info_ClipS rfl (by omega) v8 (j+1) (es.take (j * 5)++ [.int .i64 ns,.int .i64 nf,.int .i64 nl,.int .i64 na,.int .i64 ng]) rfl HM8.out _ _ (es.drop ((j+1) * 5)) rfl (HRDD.out.below HB8.out) (fun u hu=>H1C.out u (List.mem_of_mem_drop hu)) (by omega) (by omega) HB8.out.size ?_;intro vX wX hrX hgX hvX;have HBX:=hide (grown_all HB8.out hgX (fun k hk=>(HM8.out.lt k hk).1));have HMX:=hide hrX;clear hrX hgX hvX d0 d2)|(at_builtin;refine app_one (news:= #[.int .i64 ns,.int .i64 nf,.int .i64 nl,.int .i64 na,.int .i64 ng]) rfl _ _ _ rfl w.heap.size _ _ 5 40 Tryz.underlying124 info_ClipS rfl (by omega) v7 j (es.take (j * 5)) rfl HM7.out rfl rfl (T.rds_cell _ _ HVS.out) (by omega) (by omega) HB7.out.size ?_;intro v8 w8 hr8 hg8 hv8;have HB8:=hide (grown_all HB7.out hg8 (fun k hk=>(HM7.out.lt k hk).1));have HM8:=hide (show w8.ownsRow w.heap.size 60 5 v8 (j+1) (es.take (j * 5)++ [.int .i64 ns,.int .i64 nf,.int .i64 nl,.int .i64 na,.int .i64 ng]) from hr8);clear hr8 hg8 hv8 d0 d2 d4 d5 d6 d7 d8;have d0:=(HB8.out.cell hlt').trans c0;have d2:=(HB8.out.cell hlt').trans c2)|(at_builtin;refine app_many rfl _ _ _ rfl w.heap.size _ _ 5 40 Tryz.underlying124 info_ClipS rfl (by omega) (.slice (some ⟨w9.heap.size,0,none⟩) 0 0) 0 [] rfl HMa.out _ j (es.take (j * 5)) rfl ((HRD.out.take HJ.out).below HBa.out) (fun u hu=>H1C.out u (List.mem_of_mem_take hu)) (by omega) (by omega) (Nat.le_trans hs9 (by simp)) ?_;intro v7 w7 hr7 hg7 hv7;have HB7:=hide (grown_all HBa.out hg7 (fun k hk=>(HMa.out.lt k hk).1));have HM7:=hide (show w7.ownsRow w.heap.size 60 5 v7 j (es.take (j * 5)) by simpa using hr7);clear hr7 hg7 hv7;have d0:=(HB7.out.cell hlt').trans c0;have d2:=(HB7.out.cell hlt').trans c2;have d4:=(HB7.out.cell hlt').trans c4;have d5:=(HB7.out.cell hlt').trans c5;have d6:=(HB7.out.cell hlt').trans c6;have d7:=(HB7.out.cell hlt').trans c7;have d8:=(HB7.out.cell hlt').trans c8))
 have hL:T.rds w ((editL t.zL ⟨ek,(k:Int),(j:Int),ev,⟨ns,nf,nl,na,ng⟩⟩).map GClip.t) (es.take (j * 5)++ [.int .i64 ns,.int .i64 nf,.int .i64 nl,.int .i64 na,.int .i64 ng]++es.drop ((j+1) * 5)):=by have:=rds_ins (k:=j) (j:=(j+1)) HRS.out HJ.out HLO.out HVS.out;unfold editL;rw[if_neg HK1.out,if_neg HK2.out];rw[List.append_assoc];exact this
 have oD:=Own.of_flat (w':=w) (GClip.flat _) GClip.wide_t HMX.out hL (by have h1:=HJ.out;have h2:=HLO.out;unfold editL;rw[if_neg HK1.out,if_neg HK2.out];dsimp only;simp only[Int.toNat_natCast,List.length_append,List.length_take,List.length_cons,List.length_drop];omega)
 obtain⟨tD,lD,cD,rfl⟩:=T.yT oD.ow
 have HOD:=hide oD;clear oD hL
 have hkp:=(HBK.out.below HBX.out HBK.out.lt).cell
 have e1:=(HBX.out.cell hlt').trans c1;have eT:=(HBX.out.cell g2l).trans dT;have eF:=(World.frozen?_of_block (a:=⟨g2,k,none⟩) (HBX.out.block g2 g2l)).trans kfr
 have g2X:=Nat.lt_of_lt_of_le g2l HBX.out.size
 refine wp_region_still_tail 11 (by kernel_rfl) (by kernel_rfl) ?_
 simp only[List.take_succ_cons,List.take_zero,List.drop_succ_cons,List.drop_zero]
 change wpStill _ _ (World.drew wX) (fun a'=>wpList _ _ _ _ a' (World.drew wX)) _ _
 repeat still_step
 refine wpStill_nil ?_
 clear hkp e1
 go_wp2
 refine bodyPost_end (v:= .tuple #[]) (results_none rfl _ _ _) rfl ?_
 have oy:=GTrack.ow_mk (x:=(⟨(editL t.zL ⟨ek,(k:Int),(j:Int),ev,⟨ns,nf,nl,na,ng⟩⟩)⟩:GTrack)) HOD.out.ow
 rw[List.append_nil] at oy
 obtain⟨F6,hO6,hF6⟩:=Own.put1 (HO.out.all HBX.out) (k:=k) (x:=t.t) (y:=GTrack.t (⟨(editL t.zL ⟨ek,(k:Int),(j:Int),ev,⟨ns,nf,nl,na,ng⟩⟩)⟩:GTrack)) (by rw[List.getElem?_map,HT.out];rfl) (T.ow_st oy) HOD.out.nodup (fun b hb=>Nat.zero_le _) (fun b hb hm=>by have h1:=HO.out.lt b hb;have h2:=HOD.out.lo b hm;omega) rfl
 rw[show (x.zE.map GTrack.t).set k (GTrack.t (⟨(editL t.zL ⟨ek,(k:Int),(j:Int),ev,⟨ns,nf,nl,na,ng⟩⟩)⟩:GTrack))=(x.zE.set k (⟨(editL t.zL ⟨ek,(k:Int),(j:Int),ev,⟨ns,nf,nl,na,ng⟩⟩)⟩:GTrack)).map GTrack.t by rw[List.map_set]] at hO6
 obtain⟨F',z1,z2,z3⟩:=HPUT.out _ (x.zE.set k (⟨(editL t.zL ⟨ek,(k:Int),(j:Int),ev,⟨ns,nf,nl,na,ng⟩⟩)⟩:GTrack)) F6 _ ((Trn.of_below HBX.out).trans (Trn.set_ HG2.out k (.slice tD lD cD))) hO6.ow hO6.nodup (fun b hb=>by rcases hF6 b hb with h|h;(· exact .inl h);(· exact .inr (HOD.out.lo b h)))
 have tr:=(Trn.of_below HBX.out).trans (Trn.set_ (HMEM.out _ HG2.out) k (.slice tD lD cD))
 exact⟨rfl,F',by first|exact z1|exact T.ows_all z1 (Below.refl _ _).drew,z2,z3,by first|exact tr|exact tr.drew⟩
end Go.Proofs.YteiflbhcehajkaaGreat
