/- Contracts: the latency of a mixer, both sides. -/
import Derived.Test.YtoibekfhepnedaaGreatQBiExactSoundCache
import Derived.Test.YtoibekfhepnedaaGreatQAyExactSoundCache
set_option linter.unusedVariables false
set_option linter.unusedSimpArgs false
set_option maxHeartbeats 8000000
set_option maxRecDepth 100000
namespace Go.Proofs.YtoibekfhepnedaaGreat
open Go.RowKit
theorem total_facts {x:GMixer} (h:MixerOk x): ∃ (a:Int) (y:GStrip),x.zC[x.zC.length - 1]?=some y∧(entriesF x)[x.zC.length - 1]?=some a∧0≤a∧a≤256∧0≤y.zI∧y.zI≤32∧totalF x=a+y.zI∧1≤x.zC.length∧x.zC.length≤8:=by
 have h1:=h.some_;have h8:=h.few
 have hl:x.zC.length - 1<x.zC.length:=by omega
 have hg:=List.getElem?_eq_getElem hl
 have hl2:x.zC.length - 1<(entriesF x).length:=by rw[length_entriesF];exact hl
 have hg2:=List.getElem?_eq_getElem hl2
 have hu:=entriesF_upper h (x.zC.length - 1)
 have hlat:=inB_true.1 (h.each _ _ hg).1.latency
 rw[List.getD_eq_getElem?_getD,hg2] at hu
 refine⟨_,_,hg,hg2,hu.1,hu.2,hlat.1,hlat.2,?_,h1,h8⟩
 unfold totalF
 rw[List.getD_eq_getElem?_getD,hg2,List.getD_eq_getElem?_getD,hg]
 rfl
theorem c_l26Total (x:GMixer) (b o:Nat) (w:World) (hM:MixerOk x) (hg:x.good) (h:T.at w x.fs b o):Calls Tryz.prog 129 #[.pointer (some ⟨b,o,none⟩)] w fun e w'=>e= .returned (.int .i64 (totalF x))∧Below w.heap.size w w':=by
 have HAT:=hide h
 obtain⟨hlt0,cs,hr,hc⟩:=h
 obtain⟨v0,rfl,h0⟩:=GMixer.yN hr
 clear hr
 have R0:=hide h0;obtain⟨va0,vc0,rfl,vl0,vm0,vx0⟩:=T.yM h0
 have HX0:=hide vx0;clear vx0 h0
 have HL:=hide hlt0;have HCC:=hide hc;have HB0:=hide (Below.refl w.heap.size w);clear hlt0 hc
 obtain⟨ta,y,hgy,hga,a0,a1,l0,l1,ht,n1,n8⟩:=total_facts hM
 have HT:=hide ht;have HGA:=hide hga;clear ht hga
 have HCE:=hide (fun(W:World) (h:T.at W x.fs b o)=>c_l26Entries x b o W hM hg h)
 obtain⟨b1,off,cs1,rfl,hb1,hcs,hcell⟩:=HX0.out _ y hgy
 obtain⟨v9,rfl,hv9⟩:=GStrip.yN (show T.rds _ _ _ by simpa only[GStrip.t,T.rd] using hcs)
 have e1:=hcell 1 _ rfl
 obtain⟨m,hm⟩: ∃ m:Nat,x.zC.length - 1=m:=⟨_,rfl⟩
 rw[hm] at e1 HGA
 rw[show off+(m * 3+1)=off+m * 3+1 by omega] at e1
 have hm1:(x.zC.length:Int) - 1=(m:Int):=by omega
 have hw0:IntKind.i64.wrap ((x.zC.length:Int) - 1)=(m:Int):=by rw[hm1];exact IntWalk.i64_in _ (by omega)
 have hw:IntKind.i64.wrap (ta+y.zI)=ta+y.zI:=IntWalk.i64_in _ (by omega)
 have hml:(m:Int)<(x.zC.length:Int):=by omega
 have HMM:=hide hm;have HM1:=hide hm1;clear hm hm1 hcell hcs hv9 hgy hM hg
 have p0:w.cell? ⟨b,o,none⟩=some (.slice (some ⟨b1,off,none⟩) x.zC.length vc0):=(HB0.out.cell HL.out).trans (HCC.out 0 _ rfl)
 have lb:b<w.heap.size:=Nat.lt_of_lt_of_le HL.out HB0.out.size
 generalize totalF x=OO at *
 go_enter Tryz.func129,Tryz.ntmps129
 go_wp2
 have HWd:=hide (show w.drew.cell? ⟨b,o,none⟩=some (.slice (some ⟨b1,off,none⟩) x.zC.length vc0)∧w.drew.cell? ⟨b1,off+m * 3+1,none⟩=some (.int .i64 y.zI) from⟨p0,e1⟩);have HBd:=hide (Below.refl w.heap.size w).drew;have HATd:=hide (T.at_below HAT.out (Below.refl w.heap.size w).drew)
 refine wp_region_N (fun w'=>w'.cell? ⟨b,o,none⟩=some (.slice (some ⟨b1,off,none⟩) x.zC.length vc0)∧w'.cell? ⟨b1,off+m * 3+1,none⟩=some (.int .i64 y.zI)) [] (by kernel_rfl) ?_ (fun hS0=>?_)
 ·exact HWd.out
 have hdz:w.drew.heap.size=w.heap.size:=rfl
 clear p0 e1 lb
 generalize w.drew=wd at *
 refine wpAnyN_takeL (i:=0) (oi:=_) (v:=?v15) (by kernel_rfl) (by kernel_rfl) rfl (by kernel_rfl) (by kernel_rfl) (by kernel_rfl) (fun _ _ _ h=>h) hS0 (by rfl) ?hy15 ?rest15
 case hy15=>(intro w hSw;(try dsimp only at hSw);first|(go_simp;done)|(go_simp;with_reducible rfl))
 try simp only[Act.put,List.setIfInBounds_toArray,List.set_cons_zero,List.set_cons_succ]
 refine wpAnyN_takeL (i:=2) (oi:=_) (v:=?v16) (by kernel_rfl) (by kernel_rfl) rfl (by kernel_rfl) (by kernel_rfl) (by kernel_rfl) (fun _ _ _ h=>h) hS0 (by rfl) ?hy16 ?rest16
 case hy16=>(intro w hSw;(try dsimp only at hSw);first|(go_simp;done)|(go_simp;with_reducible rfl))
 try simp only[Act.put,List.setIfInBounds_toArray,List.set_cons_zero,List.set_cons_succ]
 refine wpAnyN_takeL (i:=3) (oi:=_) (v:=?v17) (by kernel_rfl) (by kernel_rfl) rfl (by kernel_rfl) (by kernel_rfl) (by kernel_rfl) (fun _ _ _ h=>h) hS0 (by rfl) ?hy17 ?rest17
 case hy17=>(intro w hSw;(try dsimp only at hSw);first|(go_simp;done)|(go_simp;with_reducible rfl))
 try simp only[Act.put,List.setIfInBounds_toArray,List.set_cons_zero,List.set_cons_succ]
 refine wpAnyN_takeL (i:=6) (oi:=_) (v:=?v18) (by kernel_rfl) (by kernel_rfl) rfl (by kernel_rfl) (by kernel_rfl) (by kernel_rfl) (fun _ _ _ h=>h) hS0 (by rfl) ?hy18 ?rest18
 case hy18=>(intro w hSw;(try dsimp only at hSw);first|(go_simp;done)|(go_simp;with_reducible rfl))
 try simp only[Act.put,List.setIfInBounds_toArray,List.set_cons_zero,List.set_cons_succ]
 refine wpAnyN_takeL (i:=7) (oi:=_) (v:=?v19) (by kernel_rfl) (by kernel_rfl) rfl (by kernel_rfl) (by kernel_rfl) (by kernel_rfl) (fun _ _ _ h=>h) hS0 (by rfl) ?hy19 ?rest19
 case hy19=>(intro w hSw;(try dsimp only at hSw);first|(go_simp;done)|(go_simp;with_reducible rfl))
 try simp only[Act.put,List.setIfInBounds_toArray,List.set_cons_zero,List.set_cons_succ]
 refine wpAnyN_takeL (i:=8) (oi:=_) (v:=?v20) (by kernel_rfl) (by kernel_rfl) rfl (by kernel_rfl) (by kernel_rfl) (by kernel_rfl) (fun _ _ _ h=>h) hS0 (by rfl) ?hy20 ?rest20
 case hy20=>(intro w hSw;(try dsimp only at hSw);first|(go_simp;done)|(go_simp;with_reducible rfl))
 try simp only[Act.put,List.setIfInBounds_toArray,List.set_cons_zero,List.set_cons_succ]
 refine wpAnyN_takeL (i:=9) (oi:=_) (v:=?v21) (by kernel_rfl) (by kernel_rfl) rfl (by kernel_rfl) (by kernel_rfl) (by kernel_rfl) (fun _ _ _ h=>h) hS0 (by rfl) ?hy21 ?rest21
 case hy21=>(intro w hSw;(try dsimp only at hSw);first|(go_simp;done)|(go_simp;with_reducible rfl))
 try simp only[Act.put,List.setIfInBounds_toArray,List.set_cons_zero,List.set_cons_succ]
 refine wpAnyN_takeL (i:=10) (oi:=_) (v:=?v22) (by kernel_rfl) (by kernel_rfl) rfl (by kernel_rfl) (by kernel_rfl) (by kernel_rfl) (fun _ _ _ h=>h) hS0 (by rfl) ?hy22 ?rest22
 case hy22=>(intro w hSw;(try dsimp only at hSw);first|(go_simp;done)|(go_simp;with_reducible rfl))
 try simp only[Act.put,List.setIfInBounds_toArray,List.set_cons_zero,List.set_cons_succ]
 refine wpAnyN_takeL (i:=11) (oi:=_) (v:=?v23) (by kernel_rfl) (by kernel_rfl) rfl (by kernel_rfl) (by kernel_rfl) (by kernel_rfl) (fun _ _ _ h=>h) hS0 (by rfl) ?hy23 ?rest23
 case hy23=>(intro w hSw;(try dsimp only at hSw);first|(go_simp;done)|(go_simp;with_reducible rfl))
 try simp only[Act.put,List.setIfInBounds_toArray,List.set_cons_zero,List.set_cons_succ]
 refine wpAnyN_takeL (i:=12) (oi:=_) (v:=?v24) (by kernel_rfl) (by kernel_rfl) rfl (by kernel_rfl) (by kernel_rfl) (by kernel_rfl) (fun _ _ _ h=>h) hS0 (by rfl) ?hy24 ?rest24
 case hy24=>(intro w hSw;(try dsimp only at hSw);first|(go_simp;done)|(go_simp;with_reducible rfl))
 try simp only[Act.put,List.setIfInBounds_toArray,List.set_cons_zero,List.set_cons_succ]
 refine wpAnyN_takeL (i:=13) (oi:=_) (v:=?v25) (by kernel_rfl) (by kernel_rfl) rfl (by kernel_rfl) (by kernel_rfl) (by kernel_rfl) (fun _ _ _ h=>h) hS0 (by rfl) ?hy25 ?rest25
 case hy25=>(intro w hSw;(try dsimp only at hSw);first|(go_simp;done)|(go_simp;with_reducible rfl))
 try simp only[Act.put,List.setIfInBounds_toArray,List.set_cons_zero,List.set_cons_succ]
 refine wpAnyN_takeL (i:=14) (oi:=_) (v:=?v26) (by kernel_rfl) (by kernel_rfl) rfl (by kernel_rfl) (by kernel_rfl) (by kernel_rfl) (fun _ _ _ h=>h) hS0 (by rfl) ?hy26 ?rest26
 case hy26=>(intro w hSw;(try dsimp only at hSw);first|(go_simp;done)|(go_simp;with_reducible rfl))
 try simp only[Act.put,List.setIfInBounds_toArray,List.set_cons_zero,List.set_cons_succ]
 refine wpAnyN_one (i:=1) (o:=_) (by kernel_rfl) rfl (fun K hK=>?_)
 go_simp
 go_wp2_with (go_at_call 182;refine(HCE.out _ HATd.out).mono ?_;rintro e w3 ⟨v3,rfl,ho,hb⟩)
 obtain⟨g,cp,rfl,hcp,hgg,hgw⟩:=OwI.form ho (by rw[length_entriesF];omega)
 have ck:=OwI.cellN ho HGA.out;have HB3:=hide (yI HBd.out (by omega) hb);have HW3:=hide (show w3.cell? ⟨b,o,none⟩=some (.slice (some ⟨b1,off,none⟩) x.zC.length vc0)∧w3.cell? ⟨b1,off+m * 3+1,none⟩=some (.int .i64 y.zI) from⟨(hb.cell (World.block_lt_of_cell? _ _ HWd.out.1)).trans HWd.out.1,(hb.cell (World.block_lt_of_cell? _ _ HWd.out.2)).trans HWd.out.2⟩);clear ho hb
 have hel:(entriesF x).length=x.zC.length:=length_entriesF x
 refine hK.out _ _ ?_ (fun hS1=>?_)
 ·exact HW3.out
 clear hK K hS0
 try simp only[Act.put,List.setIfInBounds_toArray,List.set_cons_zero,List.set_cons_succ]
 refine wpAnyN_one (i:=4) (o:=_) (by kernel_rfl) rfl (fun K hK=>?_)
 go_simp
 refine hK.out _ _ ?_ (fun hS2=>?_)
 ·exact HW3.out
 clear hK K hS1
 try simp only[Act.put,List.setIfInBounds_toArray,List.set_cons_zero,List.set_cons_succ]
 refine wpAnyN_one (i:=5) (o:=_) (by kernel_rfl) rfl (fun K hK=>?_)
 go_simp
 refine hK.out _ _ ?_ (fun hS3=>?_)
 ·exact HW3.out
 clear hK K hS2
 try simp only[Act.put,List.setIfInBounds_toArray,List.set_cons_zero,List.set_cons_succ]
 refine wpAnyN_one (i:=15) (o:=_) (by kernel_rfl) rfl (fun K hK=>?_)
 go_simp
 refine hK.out _ _ ?_ (fun hS4=>?_)
 ·exact HW3.out
 clear hK K hS3
 try simp only[Act.put,List.setIfInBounds_toArray,List.set_cons_zero,List.set_cons_succ]
 refine wpAnyN_one (i:=16) (o:=_) (by kernel_rfl) rfl (fun K hK=>?_)
 go_simp
 refine hK.out _ _ ?_ (fun hS5=>?_)
 ·exact HW3.out
 clear hK K hS4
 try simp only[Act.put,List.setIfInBounds_toArray,List.set_cons_zero,List.set_cons_succ]
 refine wpAnyN_end (by kernel_rfl) ?_
 clear hS5
 go_wp2
 go_ret
 exact⟨ret_int (by rw[HT.out]),HB3.out⟩
theorem c_latency (x:GMixer) (cs:List Value) (w:World) (hM:MixerOk x) (hg:x.good) (h:T.rds w x.fs cs):Calls Tryz.prog 190 #[.agg cs.toArray] w fun e w'=>e= .returned (.int .i64 (totalF x))∧Below w.heap.size w w':=by
 obtain⟨v0,rfl,h0⟩:=GMixer.yN h
 clear h
 have R0:=hide h0;obtain⟨va0,vc0,rfl,vl0,vm0,vx0⟩:=T.yM h0
 have HX0:=hide vx0;clear vx0 h0
 have HB0:=hide (show Below w.heap.size w (w.alloc (.cells #[(.slice va0 x.zC.length vc0)] 30)) from(Below.refl _ _).alloc (Nat.le_refl _) _)
 have HK0:=hide (Bk.born w 30 #[(.slice va0 x.zC.length vc0)])
 obtain⟨ta,y,hgy,hga,a0,a1,l0,l1,ht,n1,n8⟩:=total_facts hM
 have HT:=hide ht;have HGA:=hide hga;clear ht hga
 have HCE:=hide (fun(W:World) (cs:List Value) (h:T.rds W x.fs cs)=>c_entries x cs W hM hg h)
 obtain⟨b1,off,cs1,rfl,hb1,hcs,hcell⟩:=HX0.out _ y hgy
 obtain⟨v9,rfl,hv9⟩:=GStrip.yN (show T.rds _ _ _ by simpa only[GStrip.t,T.rd] using hcs)
 have e1:=hcell 1 _ rfl
 obtain⟨m,hm⟩: ∃ m:Nat,x.zC.length - 1=m:=⟨_,rfl⟩
 rw[hm] at e1 HGA
 rw[show off+(m * 3+1)=off+m * 3+1 by omega] at e1
 have hm1:(x.zC.length:Int) - 1=(m:Int):=by omega
 have hw0:IntKind.i64.wrap ((x.zC.length:Int) - 1)=(m:Int):=by rw[hm1];exact IntWalk.i64_in _ (by omega)
 have hw:IntKind.i64.wrap (ta+y.zI)=ta+y.zI:=IntWalk.i64_in _ (by omega)
 have hml:(m:Int)<(x.zC.length:Int):=by omega
 have HM1:=hide hm1;clear hm hm1 hcell hcs hv9 hgy hM hg
 generalize totalF x=OO at *
 go_enter Tryz.func190,Tryz.ntmps190
 go_wp2
 generalize (w.alloc (.cells #[(.slice (some ⟨b1,off,none⟩) x.zC.length vc0)] 30))=W at *
 have HWd:=hide (show (∀ i,W.drew.cell? ⟨w.heap.size,i,none⟩= #[(.slice (some ⟨b1,off,none⟩) x.zC.length vc0)][i]?)∧W.drew.cell? ⟨b1,off+m * 3+1,none⟩=some (.int .i64 y.zI) from⟨HK0.out.cell,(HB0.out.cell hb1).trans e1⟩)
 have HBd:=hide HB0.out.drew;have HRd:=hide (show T.rds W.drew x.fs [(.slice (some ⟨b1,off,none⟩) x.zC.length vc0)] from GMixer.rd_mk (T.yE R0.out HBd.out));have hsd:=HBd.out.size
 refine wp_region_N (fun w'=>(∀ i,w'.cell? ⟨w.heap.size,i,none⟩= #[(.slice (some ⟨b1,off,none⟩) x.zC.length vc0)][i]?)∧w'.cell? ⟨b1,off+m * 3+1,none⟩=some (.int .i64 y.zI)) [] (by kernel_rfl) ?_ (fun hS0=>?_)
 ·exact HWd.out
 clear e1
 have HKd:=hide (Bk.drew HK0.out)
 generalize W.drew=wd at *
 refine wpAnyN_takeL (i:=0) (oi:=_) (v:=?v27) (by kernel_rfl) (by kernel_rfl) rfl (by kernel_rfl) (by kernel_rfl) (by kernel_rfl) (fun _ _ _ h=>h) hS0 (by rfl) ?hy27 ?rest27
 case hy27=>(intro w hSw;(try dsimp only at hSw);first|(go_simp;done)|(go_simp;with_reducible rfl))
 try simp only[Act.put,List.setIfInBounds_toArray,List.set_cons_zero,List.set_cons_succ]
 refine wpAnyN_takeL (i:=2) (oi:=_) (v:=?v28) (by kernel_rfl) (by kernel_rfl) rfl (by kernel_rfl) (by kernel_rfl) (by kernel_rfl) (fun _ _ _ h=>h) hS0 (by rfl) ?hy28 ?rest28
 case hy28=>(intro w hSw;(try dsimp only at hSw);first|(go_simp;done)|(go_simp;with_reducible rfl))
 try simp only[Act.put,List.setIfInBounds_toArray,List.set_cons_zero,List.set_cons_succ]
 refine wpAnyN_takeL (i:=5) (oi:=_) (v:=?v29) (by kernel_rfl) (by kernel_rfl) rfl (by kernel_rfl) (by kernel_rfl) (by kernel_rfl) (fun _ _ _ h=>h) hS0 (by rfl) ?hy29 ?rest29
 case hy29=>(intro w hSw;(try dsimp only at hSw);first|(go_simp;done)|(go_simp;with_reducible rfl))
 try simp only[Act.put,List.setIfInBounds_toArray,List.set_cons_zero,List.set_cons_succ]
 refine wpAnyN_takeL (i:=6) (oi:=_) (v:=?v30) (by kernel_rfl) (by kernel_rfl) rfl (by kernel_rfl) (by kernel_rfl) (by kernel_rfl) (fun _ _ _ h=>h) hS0 (by rfl) ?hy30 ?rest30
 case hy30=>(intro w hSw;(try dsimp only at hSw);first|(go_simp;done)|(go_simp;with_reducible rfl))
 try simp only[Act.put,List.setIfInBounds_toArray,List.set_cons_zero,List.set_cons_succ]
 refine wpAnyN_takeL (i:=7) (oi:=_) (v:=?v31) (by kernel_rfl) (by kernel_rfl) rfl (by kernel_rfl) (by kernel_rfl) (by kernel_rfl) (fun _ _ _ h=>h) hS0 (by rfl) ?hy31 ?rest31
 case hy31=>(intro w hSw;(try dsimp only at hSw);first|(go_simp;done)|(go_simp;with_reducible rfl))
 try simp only[Act.put,List.setIfInBounds_toArray,List.set_cons_zero,List.set_cons_succ]
 refine wpAnyN_takeL (i:=8) (oi:=_) (v:=?v32) (by kernel_rfl) (by kernel_rfl) rfl (by kernel_rfl) (by kernel_rfl) (by kernel_rfl) (fun _ _ _ h=>h) hS0 (by rfl) ?hy32 ?rest32
 case hy32=>(intro w hSw;(try dsimp only at hSw);first|(go_simp;done)|(go_simp;with_reducible rfl))
 try simp only[Act.put,List.setIfInBounds_toArray,List.set_cons_zero,List.set_cons_succ]
 refine wpAnyN_takeL (i:=9) (oi:=_) (v:=?v33) (by kernel_rfl) (by kernel_rfl) rfl (by kernel_rfl) (by kernel_rfl) (by kernel_rfl) (fun _ _ _ h=>h) hS0 (by rfl) ?hy33 ?rest33
 case hy33=>(intro w hSw;(try dsimp only at hSw);first|(go_simp;done)|(go_simp;with_reducible rfl))
 try simp only[Act.put,List.setIfInBounds_toArray,List.set_cons_zero,List.set_cons_succ]
 refine wpAnyN_takeL (i:=10) (oi:=_) (v:=?v34) (by kernel_rfl) (by kernel_rfl) rfl (by kernel_rfl) (by kernel_rfl) (by kernel_rfl) (fun _ _ _ h=>h) hS0 (by rfl) ?hy34 ?rest34
 case hy34=>(intro w hSw;(try dsimp only at hSw);first|(go_simp;done)|(go_simp;with_reducible rfl))
 try simp only[Act.put,List.setIfInBounds_toArray,List.set_cons_zero,List.set_cons_succ]
 refine wpAnyN_one (i:=1) (o:=_) (by kernel_rfl) rfl (fun K hK=>?_)
 go_simp
 go_wp2_with (go_at_call 191;refine(HCE.out _ _ HRd.out).mono ?_;rintro e w3 ⟨v3,rfl,ho,hb⟩)
 obtain⟨g,cp,rfl,hcp,hgg,hgw⟩:=OwI.form ho (by rw[length_entriesF];omega)
 have ck:=OwI.cellN ho HGA.out;have HB3:=hide (yI HBd.out hsd hb);have HW3:=hide (show (∀ i,w3.cell? ⟨w.heap.size,i,none⟩= #[(.slice (some ⟨b1,off,none⟩) x.zC.length vc0)][i]?)∧w3.cell? ⟨b1,off+m * 3+1,none⟩=some (.int .i64 y.zI) from⟨(HKd.out.below hb HKd.out.lt).cell,(hb.cell (World.block_lt_of_cell? _ _ HWd.out.2)).trans HWd.out.2⟩);clear ho hb
 have hel:(entriesF x).length=x.zC.length:=length_entriesF x
 refine hK.out _ _ ?_ (fun hS1=>?_)
 ·exact HW3.out
 clear hK K hS0
 try simp only[Act.put,List.setIfInBounds_toArray,List.set_cons_zero,List.set_cons_succ]
 refine wpAnyN_one (i:=3) (o:=_) (by kernel_rfl) rfl (fun K hK=>?_)
 go_simp
 refine hK.out _ _ ?_ (fun hS2=>?_)
 ·exact HW3.out
 clear hK K hS1
 try simp only[Act.put,List.setIfInBounds_toArray,List.set_cons_zero,List.set_cons_succ]
 refine wpAnyN_one (i:=4) (o:=_) (by kernel_rfl) rfl (fun K hK=>?_)
 go_simp
 refine hK.out _ _ ?_ (fun hS3=>?_)
 ·exact HW3.out
 clear hK K hS2
 try simp only[Act.put,List.setIfInBounds_toArray,List.set_cons_zero,List.set_cons_succ]
 refine wpAnyN_one (i:=11) (o:=_) (by kernel_rfl) rfl (fun K hK=>?_)
 go_simp
 refine hK.out _ _ ?_ (fun hS4=>?_)
 ·exact HW3.out
 clear hK K hS3
 try simp only[Act.put,List.setIfInBounds_toArray,List.set_cons_zero,List.set_cons_succ]
 refine wpAnyN_one (i:=12) (o:=_) (by kernel_rfl) rfl (fun K hK=>?_)
 go_simp
 refine hK.out _ _ ?_ (fun hS5=>?_)
 ·exact HW3.out
 clear hK K hS4
 try simp only[Act.put,List.setIfInBounds_toArray,List.set_cons_zero,List.set_cons_succ]
 refine wpAnyN_end (by kernel_rfl) ?_
 clear hS5
 go_wp2
 go_ret
 exact⟨ret_int (by rw[HT.out]),HB3.out⟩
end Go.Proofs.YtoibekfhepnedaaGreat
