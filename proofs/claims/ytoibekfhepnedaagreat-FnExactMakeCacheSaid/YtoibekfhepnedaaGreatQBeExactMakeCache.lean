/- Contract: the outputs of all strips, by the reference. -/
import Derived.Test.YtoibekfhepnedaaGreatQAvExactMakeCache
import Derived.Test.YtoibekfhepnedaaGreatQBdExactMakeCache
import Derived.Test.YtoibekfhepnedaaGreatQBaExactMakeCache
import Derived.Test.YtoibekfhepnedaaGreatQAtExactMakeCache
import Derived.Test.YtoibekfhepnedaaGreatQAfExactMakeCache
import Derived.Test.YtoibekfhepnedaaGreatQAnExactMakeCache
set_option linter.unusedVariables false
set_option linter.unusedSimpArgs false
set_option maxHeartbeats 16000000
set_option maxRecDepth 100000
namespace Go.Proofs.YtoibekfhepnedaaGreat
open Go.RowKit
theorem c_l27Late' (v:Value) (a:List Int) (b n:Nat) (w:World) {N:Int} (hN:N=(b:Int)) (ha:RdI w v a) (na:a.length≤1048576) (hb:b≤1048576) (hn:n≤1048576):Calls Tryz.prog 187 #[v,.int .i64 N,.int .i64 (n:Int)] w fun e w'=> ∃ v',e= .returned v'∧OwI 2 w' w.heap.size v' (lateF a b n)∧Below w.heap.size w w':=by
 subst hN;exact c_l27Late v a b n w ha na hb hn
theorem c_sRenderTrack' (x:xI) (cs:List Value) (sources:List (List Int)) (sv:Value) (n:Nat) (w:World) {N:Int} (hN:N=(n:Int)) (hT:TrackOk x) (hS:zAz sources) (hc:Each x.zR fun _ c=>c.zU<(sources.length:Int)) (hn:n≤4000) (hr:T.rd w (T.sl 26 1 (sources.map (T.ints 2))) [sv]) (h:T.rds w x.fs cs):Calls Tryz.prog 185 #[sv,.agg cs.toArray,.int .i64 N] w fun e w'=> ∃ v,e= .returned (.tuple #[v,.int .i64 0])∧OwI 2 w' w.heap.size v (uS sources x n)∧Below w.heap.size w w':=by
 subst hN;exact c_sRenderTrack x cs sources sv n w hT hS hc hn hr h
/-- The list of outputs is begun. -/
theorem StM.one {w3 w:World} {bi:Nat} {cs:Array Value} {ins:List (List Int)} (h:StM w3 w bi [bi] [] cs ins [] (.slice none 0 0) (.slice none 0 0) []):StM w3 (w.alloc (.cells #[] 26)) bi [w.heap.size,bi] [w.heap.size] cs ins [] (.slice (some ⟨w.heap.size,0,none⟩) 0 0) (.slice none 0 0) []:=by
 have hs:=h.bel.size
 have hlb:=h.cel.bk.lt
 have hb:Below w.heap.size w (w.alloc (.cells #[] 26)):=(Below.refl _ _).alloc (Nat.le_refl _) _
 have ho:=(Own.born (B:=w.heap.size) (World.ownsRow_made w #[] 0 (Nat.le_refl _) (by decide) rfl:(w.alloc (.cells #[] 26)).ownsRow w.heap.size 26 1 (.slice (some ⟨w.heap.size,0,none⟩) 0 0) 0 [])).more hs
 refine⟨yJ h.bel h.bel.size hb,h.lo,h.cel.grow (grown_below hb none) (fun g e=>by cases e) (G:= [w.heap.size]) (fun g hg=> .inr (by simp at hg;omega)),by simpa[Value.ownBlock] using ho,OwI.nil_ _ _ _,by simp,by simp;omega,by simp,by simp[Value.ownBlock],by simp;omega,by simp[Value.ownBlock]⟩
theorem c_l27Outputs (x:xK) (b o:Nat) (w:World) (hS:vL x) (hg:x.good) (h:T.at w x.fs b o):Calls Tryz.prog 127 #[.pointer (some ⟨b,o,none⟩)] w fun e w'=> ∃ vo,e= .returned vo∧T.rd w' (T.sl 26 1 ((outsF x).map (T.ints 2))) [vo]∧Below w.heap.size w w':=by
 have HAT:=hide h
 obtain⟨hlt0,cs,hr,hc⟩:=h
 obtain⟨v1,v2,v3,v4,v5,rfl,h1,h2,h3,h4,h5⟩:=xK.yO hr
 clear hr
 have R1:=hide h1;obtain⟨va1,vc1,rfl,vl1,vm1,vx1⟩:=T.yN h1
 have HX1:=hide vx1;clear vx1 h1
 have R2:=hide h2;obtain⟨va2,vc2,rfl,vl2,vm2,vx2⟩:=T.yN h2
 have HX2:=hide vx2;clear vx2 h2
 have h3i:=T.yT.1 h3;obtain⟨va3,vc3,rfl,vl3,vm3,vx3⟩:=h3i.open_
 have R3:=hide h3i;have HX3:=hide vx3;clear vx3 h3 h3i
 have R4:=hide h4;obtain⟨va4,vc4,rfl,vl4,vm4,vx4⟩:=T.yN h4
 have HX4:=hide vx4;clear vx4 h4
 have R5:=hide h5;obtain⟨va5,vc5,rfl,vl5,vm5,vx5⟩:=T.yN h5
 have HX5:=hide vx5;clear vx5 h5
 have HL:=hide hlt0;have HCC:=hide hc;have HB0:=hide (Below.refl w.heap.size w);clear hlt0 hc
 have HSO:=hide hS;have HM:=hide hS.mixer;have HGM:=hide (show x.zG.good from hg.2.2.2.2.2);have hn8:x.zG.zC.length≤8:=hS.mixer.few;have hn1:1≤x.zG.zC.length:=hS.mixer.some_;have ht6:x.zO.length≤6:=hS.few;have hfl:x.zQ.length=x.zO.length:=hS.feed;have hel:x.zP.length=x.zG.zC.length:=hS.effect
 have htot:=total_ok hS.mixer;have hle:=xC.1 hS.length;have HSRC:=hide hS.sources;clear hS hg
 obtain⟨lenN,hlen⟩: ∃ q:Nat,x.zF=(q:Int):=⟨x.zF.toNat,by omega⟩
 obtain⟨nn,hnn⟩: ∃ q:Nat,x.zF+vN x.zG=(q:Int):=⟨(x.zF+vN x.zG).toNat,by omega⟩
 have hnt:(x.zF+vN x.zG).toNat=nn:=by omega
 have HOUT:=hide (show (xP x nn x.zG.zC.length).2=outsF x by rw[←hnt];rfl)
 have hnb:nn≤1288:=by omega
 have hw1:IntKind.i64.wrap (x.zF+vN x.zG)=(nn:Int):=by rw[hnn];exact IntWalk.i64_in _ (by omega)
 have hln:lenN≤nn:=by omega
 have HDL:=hide (length_delaysF x.zG);have HDA:=hide (fun k y (h:x.zG.zC[k]?=some y)=>delays_at h)
 have HENT:=hide (fun j (h:j<x.zG.zC.length)=>ent_at HM.out h)
 have HLEN:=hide hlen;have HFL:=hide hfl;have HEL:=hide hel;clear hlen hfl hel hnn hnt
 have HATM:=hide (show T.at w x.zG.fs b (o+5) from T.at_sub [.int .i64 x.zF,.slice va1 x.zL.length vc1,.slice va2 x.zO.length vc2,.slice va3 x.zQ.length vc3,.slice va4 x.zP.length vc4] [.slice va5 x.zG.zC.length vc5] [] HL.out HCC.out (xU.rd_mk R5.out))
 have p0:w.cell? ⟨b,o,none⟩=some (.int .i64 x.zF):=(HB0.out.cell HL.out).trans (HCC.out 0 _ rfl)
 have p1:w.cell? ⟨b,o+1,none⟩=some (.slice va1 x.zL.length vc1):=(HB0.out.cell HL.out).trans (HCC.out 1 _ rfl)
 have p2:w.cell? ⟨b,o+2,none⟩=some (.slice va2 x.zO.length vc2):=(HB0.out.cell HL.out).trans (HCC.out 2 _ rfl)
 have p3:w.cell? ⟨b,o+3,none⟩=some (.slice va3 x.zQ.length vc3):=(HB0.out.cell HL.out).trans (HCC.out 3 _ rfl)
 have p4:w.cell? ⟨b,o+4,none⟩=some (.slice va4 x.zP.length vc4):=(HB0.out.cell HL.out).trans (HCC.out 4 _ rfl)
 have p5:w.cell? ⟨b,o+5,none⟩=some (.slice va5 x.zG.zC.length vc5):=(HB0.out.cell HL.out).trans (HCC.out 5 _ rfl)
 have lb:b<w.heap.size:=lL HL.out HB0.out.size
 go_enter Tryz.func127,Tryz.ntmps127
 go_wp2_with fail
 refine(c_l26Entries x.zG b (o+5) _ HM.out HGM.out HATM.out).mono ?_;rintro e w1 ⟨vT,rfl,ho,hb⟩
 have HT1:=hide (OwI.rd ho);have HB1:=hide hb;clear ho hb p0 p1 p2 p3 p4 p5 lb
 have p0:w1.cell? ⟨b,o,none⟩=some (.int .i64 x.zF):=(HB1.out.cell HL.out).trans (HCC.out 0 _ rfl)
 have p1:w1.cell? ⟨b,o+1,none⟩=some (.slice va1 x.zL.length vc1):=(HB1.out.cell HL.out).trans (HCC.out 1 _ rfl)
 have p2:w1.cell? ⟨b,o+2,none⟩=some (.slice va2 x.zO.length vc2):=(HB1.out.cell HL.out).trans (HCC.out 2 _ rfl)
 have p3:w1.cell? ⟨b,o+3,none⟩=some (.slice va3 x.zQ.length vc3):=(HB1.out.cell HL.out).trans (HCC.out 3 _ rfl)
 have p4:w1.cell? ⟨b,o+4,none⟩=some (.slice va4 x.zP.length vc4):=(HB1.out.cell HL.out).trans (HCC.out 4 _ rfl)
 have p5:w1.cell? ⟨b,o+5,none⟩=some (.slice va5 x.zG.zC.length vc5):=(HB1.out.cell HL.out).trans (HCC.out 5 _ rfl)
 have lb:b<w1.heap.size:=lL HL.out HB1.out.size
 go_wp2_with fail
 refine(c_l26Delays x.zG b (o+5) _ HM.out HGM.out (T.at_below HATM.out HB1.out)).mono ?_;rintro e w2 ⟨vD,FD,rfl,ho,hb⟩
 have HV2:=hide (T.ow_rd _ _ _ ho.ow);have HT2:=hide (RdI.below HT1.out hb);have HB2:=hide (yJ HB1.out HB1.out.size hb);clear ho hb HT1 p0 p1 p2 p3 p4 p5 lb
 have hetl:(xV x.zG).length=x.zG.zC.length:=vG _
 obtain⟨bT,oT,cT,rfl,hcT1,hcT2,hbT,hcT⟩:=xO HT2.out (by omega)
 rw[hetl] at *
 have HTC:=hide hcT;clear hcT
 have p0:w2.cell? ⟨b,o,none⟩=some (.int .i64 x.zF):=(HB2.out.cell HL.out).trans (HCC.out 0 _ rfl)
 have p1:w2.cell? ⟨b,o+1,none⟩=some (.slice va1 x.zL.length vc1):=(HB2.out.cell HL.out).trans (HCC.out 1 _ rfl)
 have p2:w2.cell? ⟨b,o+2,none⟩=some (.slice va2 x.zO.length vc2):=(HB2.out.cell HL.out).trans (HCC.out 2 _ rfl)
 have p3:w2.cell? ⟨b,o+3,none⟩=some (.slice va3 x.zQ.length vc3):=(HB2.out.cell HL.out).trans (HCC.out 3 _ rfl)
 have p4:w2.cell? ⟨b,o+4,none⟩=some (.slice va4 x.zP.length vc4):=(HB2.out.cell HL.out).trans (HCC.out 4 _ rfl)
 have p5:w2.cell? ⟨b,o+5,none⟩=some (.slice va5 x.zG.zC.length vc5):=(HB2.out.cell HL.out).trans (HCC.out 5 _ rfl)
 have lb:b<w2.heap.size:=lL HL.out HB2.out.size
 go_wp2
 have HDr:=hide ((Below.refl w2.heap.size w2).drew);have HKP:=hide (fun(w':World) (hw:Below w2.heap.size w2 w')=>((hw.cell lb).trans p0:w'.cell? ⟨b,o,none⟩=some (.int .i64 x.zF)))
 clear p0 p1 p2 p3 p4 p5
 refine wE (fun w'=>w'.cell? ⟨b,o,none⟩=some (.int .i64 x.zF)) [] (by kernel_rfl) ?_ (fun hS0=>?_)
 ·exact HKP.out _ HDr.out
 generalize hwd:w2.drew=wd at *;clear hwd
 refine tN 0 hS0 ?_
 refine tN 1 hS0 ?_
 refine tN 2 hS0 ?_
 refine tN 3 hS0 ?_
 refine tN 4 hS0 ?_
 refine tN 5 hS0 ?_
 refine tN 6 hS0 ?_
 refine oN 7 (fun K hK=>?_)
 go_simp
 go_wp2_with (go_at_call 129;refine(c_l26Total x.zG b (o+5) _ HM.out HGM.out (T.at_below HATM.out (yJ HB2.out HB2.out.size HDr.out))).mono ?_;rintro e w3 ⟨rfl,hb⟩)
 have HD3:=hide (yJ HDr.out HDr.out.size hb);clear hb
 refine uN hK ?_ (fun hS1=>?_)
 ·exact HKP.out _ HD3.out
 clear hK K hS0
 refine tN 8 hS1 ?_
 refine oN 9 (fun K hK=>?_)
 go_simp
 refine uN hK ?_ (fun hS2=>?_)
 ·exact HKP.out _ HD3.out
 clear hK K hS1
 refine xY (by kernel_rfl) ?_
 clear hS2
 have HB3:=hide (yJ HB2.out HB2.out.size HD3.out);have HTC3:=hide (fun j u h=>(HD3.out.cell hbT).trans (HTC.out j u h));have hbT3:=lL hbT HD3.out.size
 have HV3:=hide (T.yF HV2.out HD3.out)
 obtain⟨DA,dcap,rfl,dl,dm,dx⟩:=T.yN HV3.out;have HDX3:=hide dx;clear dx;rw[HDL.out] at *
 clear HDr HKP lb HT2 HTC
 have p0:w3.cell? ⟨b,o,none⟩=some (.int .i64 x.zF):=(HB3.out.cell HL.out).trans (HCC.out 0 _ rfl)
 have p1:w3.cell? ⟨b,o+1,none⟩=some (.slice va1 x.zL.length vc1):=(HB3.out.cell HL.out).trans (HCC.out 1 _ rfl)
 have p2:w3.cell? ⟨b,o+2,none⟩=some (.slice va2 x.zO.length vc2):=(HB3.out.cell HL.out).trans (HCC.out 2 _ rfl)
 have p3:w3.cell? ⟨b,o+3,none⟩=some (.slice va3 x.zQ.length vc3):=(HB3.out.cell HL.out).trans (HCC.out 3 _ rfl)
 have p4:w3.cell? ⟨b,o+4,none⟩=some (.slice va4 x.zP.length vc4):=(HB3.out.cell HL.out).trans (HCC.out 4 _ rfl)
 have p5:w3.cell? ⟨b,o+5,none⟩=some (.slice va5 x.zG.zC.length vc5):=(HB3.out.cell HL.out).trans (HCC.out 5 _ rfl)
 have lb:b<w3.heap.size:=lL HL.out HB3.out.size
 have HO0:=hide (Own.born (World.ownsRow_made w3 #[] 0 (Nat.le_refl _) (by decide) rfl:(w3.alloc (.cells #[] 26)).ownsRow w3.heap.size 26 1 (.slice (some ⟨w3.heap.size,0,none⟩) 0 0) 0 []))
 have HBl:=hide (show Below w3.heap.size w3 (w3.alloc (.cells #[] 26)) from(Below.refl _ _).alloc (Nat.le_refl _) _)
 go_wp2
 go_loopw [6,7] (fun r i wr=> ∃ (k:Nat) (F:List Nat),k≤x.zG.zC.length∧i= .int .i64 (k:Int)∧Own w3.heap.size wr (T.sl 26 1 ((List.replicate k (List.replicate nn 0)).map (T.ints 2))) F r∧Below w3.heap.size w3 wr) (fun _ i _=>x.zG.zC.length - (intOf i).toNat)
 case atStart=>exact⟨0,_,Nat.zero_le _,rfl,HO0.out,HBl.out⟩
 case round=>
  obtain⟨k,F,hk,rfl,ho,hbw⟩:=hrel
  have HO:=hide ho;have HBw:=hide hbw;have HB:=hide (yJ HB3.out HB3.out.size hbw);have hs0:=hbw.size;clear ho hbw p0 p1 p2 p3 p4 p5 lb
  have p0:wr.cell? ⟨b,o,none⟩=some (.int .i64 x.zF):=(HB.out.cell HL.out).trans (HCC.out 0 _ rfl)
  have p1:wr.cell? ⟨b,o+1,none⟩=some (.slice va1 x.zL.length vc1):=(HB.out.cell HL.out).trans (HCC.out 1 _ rfl)
  have p2:wr.cell? ⟨b,o+2,none⟩=some (.slice va2 x.zO.length vc2):=(HB.out.cell HL.out).trans (HCC.out 2 _ rfl)
  have p3:wr.cell? ⟨b,o+3,none⟩=some (.slice va3 x.zQ.length vc3):=(HB.out.cell HL.out).trans (HCC.out 3 _ rfl)
  have p4:wr.cell? ⟨b,o+4,none⟩=some (.slice va4 x.zP.length vc4):=(HB.out.cell HL.out).trans (HCC.out 4 _ rfl)
  have p5:wr.cell? ⟨b,o+5,none⟩=some (.slice va5 x.zG.zC.length vc5):=(HB.out.cell HL.out).trans (HCC.out 5 _ rfl)
  have lb:b<wr.heap.size:=lL HL.out HB.out.size
  by_cases hlt:k<x.zG.zC.length
  rotate_left
  ·-- the loop ends
   obtain rfl:k=x.zG.zC.length:=by omega
   obtain⟨bi,icap,csI,rfl,hic,hbi,hbk,hrows⟩:=Own.rows HO.out (by rw[List.length_replicate];omega)
   rw[List.length_replicate] at *
   have HMb:=hide (show StM w3 wr bi [bi] [] csI (feedUp x nn 0) [] (.slice none 0 0) (.slice none 0 0) [] from⟨HBw.out,hbi,⟨hbk,fun i l hl=>by obtain⟨u,u1,u2,u3,u4⟩:=hrows i l hl;exact⟨u,u1,OwI.rd u2,fun q hq=>by simp at hq;subst hq;exact u3,fun q hq=>(u4 q hq).2⟩⟩,Own.nil _ _ _ _,OwI.nil_ _ _ _,by simp,by have h:=hbk.lt;simpa using h,by simp,by simp[Value.ownBlock],by simp,by simp[Value.ownBlock]⟩)
   clear HO HBw hbk hrows p0 p1 p2 p3 p4 p5 lb
   have HB:=hide (yJ HB3.out HB3.out.size HMb.out.bel)
   have p0:wr.cell? ⟨b,o,none⟩=some (.int .i64 x.zF):=(HB.out.cell HL.out).trans (HCC.out 0 _ rfl)
   have p1:wr.cell? ⟨b,o+1,none⟩=some (.slice va1 x.zL.length vc1):=(HB.out.cell HL.out).trans (HCC.out 1 _ rfl)
   have p2:wr.cell? ⟨b,o+2,none⟩=some (.slice va2 x.zO.length vc2):=(HB.out.cell HL.out).trans (HCC.out 2 _ rfl)
   have p3:wr.cell? ⟨b,o+3,none⟩=some (.slice va3 x.zQ.length vc3):=(HB.out.cell HL.out).trans (HCC.out 3 _ rfl)
   have p4:wr.cell? ⟨b,o+4,none⟩=some (.slice va4 x.zP.length vc4):=(HB.out.cell HL.out).trans (HCC.out 4 _ rfl)
   have p5:wr.cell? ⟨b,o+5,none⟩=some (.slice va5 x.zG.zC.length vc5):=(HB.out.cell HL.out).trans (HCC.out 5 _ rfl)
   have lb:b<wr.heap.size:=lL HL.out HB.out.size
   go_wp2
   go_loopw [8] (fun i wr=> ∃ (k:Nat) (cs:Array Value),k≤x.zO.length∧i= .int .i64 (k:Int)∧StM w3 wr bi [bi] [] cs (feedUp x nn k) [] (.slice none 0 0) (.slice none 0 0) []) (fun i _=>x.zO.length - (intOf i).toNat)
   case atStart=>exact⟨0,_,Nat.zero_le _,rfl,HMb.out⟩
   case round=>
    obtain⟨k,cs,hk,rfl,hm⟩:=hrel
    have HMk:=hide hm;clear hm p0 p1 p2 p3 p4 p5 lb
    clear HB
    have HB:=hide (yJ HB3.out HB3.out.size HMk.out.bel)
    have p0:wr.cell? ⟨b,o,none⟩=some (.int .i64 x.zF):=(HB.out.cell HL.out).trans (HCC.out 0 _ rfl)
    have p1:wr.cell? ⟨b,o+1,none⟩=some (.slice va1 x.zL.length vc1):=(HB.out.cell HL.out).trans (HCC.out 1 _ rfl)
    have p2:wr.cell? ⟨b,o+2,none⟩=some (.slice va2 x.zO.length vc2):=(HB.out.cell HL.out).trans (HCC.out 2 _ rfl)
    have p3:wr.cell? ⟨b,o+3,none⟩=some (.slice va3 x.zQ.length vc3):=(HB.out.cell HL.out).trans (HCC.out 3 _ rfl)
    have p4:wr.cell? ⟨b,o+4,none⟩=some (.slice va4 x.zP.length vc4):=(HB.out.cell HL.out).trans (HCC.out 4 _ rfl)
    have p5:wr.cell? ⟨b,o+5,none⟩=some (.slice va5 x.zG.zC.length vc5):=(HB.out.cell HL.out).trans (HCC.out 5 _ rfl)
    have lb:b<wr.heap.size:=lL HL.out HB.out.size
    by_cases hlt:k<x.zO.length
    rotate_left
    ·-- the tracks are fed
     obtain rfl:k=x.zO.length:=by omega
     have HM3:=hide (HMk.out.one);have HBk:=HB
     clear HMk HB p0 p1 p2 p3 p4 p5 lb
     have HB:=HBk;clear HBk
     have p0:wr.cell? ⟨b,o,none⟩=some (.int .i64 x.zF):=(HB.out.cell HL.out).trans (HCC.out 0 _ rfl)
     have p1:wr.cell? ⟨b,o+1,none⟩=some (.slice va1 x.zL.length vc1):=(HB.out.cell HL.out).trans (HCC.out 1 _ rfl)
     have p2:wr.cell? ⟨b,o+2,none⟩=some (.slice va2 x.zO.length vc2):=(HB.out.cell HL.out).trans (HCC.out 2 _ rfl)
     have p3:wr.cell? ⟨b,o+3,none⟩=some (.slice va3 x.zQ.length vc3):=(HB.out.cell HL.out).trans (HCC.out 3 _ rfl)
     have p4:wr.cell? ⟨b,o+4,none⟩=some (.slice va4 x.zP.length vc4):=(HB.out.cell HL.out).trans (HCC.out 4 _ rfl)
     have p5:wr.cell? ⟨b,o+5,none⟩=some (.slice va5 x.zG.zC.length vc5):=(HB.out.cell HL.out).trans (HCC.out 5 _ rfl)
     have lb:b<wr.heap.size:=lL HL.out HB.out.size
     go_wp2
     go_loopw [12,13] (fun o_ i wr=> ∃ (k:Nat) (A F:List Nat) (cs:Array Value) (vo_:Value),k≤x.zG.zC.length∧i= .int .i64 (k:Int)∧vo_=o_∧StM w3 wr bi A F cs (xP x nn k).1 (xP x nn k).2 vo_ (.slice none 0 0) []) (fun _ i _=>x.zG.zC.length - (intOf i).toNat)
     case atStart=>exact⟨0,_,_,_,_,Nat.zero_le _,rfl,rfl,HM3.out⟩
     case round=>
      obtain⟨k,A,F,cs,vo_,hk,rfl,rfl,hm⟩:=hrel
      have HMk:=hide hm;clear hm HB p0 p1 p2 p3 p4 p5 lb
      have HB:=hide (yJ HB3.out HB3.out.size HMk.out.bel)
      have p0:wr.cell? ⟨b,o,none⟩=some (.int .i64 x.zF):=(HB.out.cell HL.out).trans (HCC.out 0 _ rfl)
      have p1:wr.cell? ⟨b,o+1,none⟩=some (.slice va1 x.zL.length vc1):=(HB.out.cell HL.out).trans (HCC.out 1 _ rfl)
      have p2:wr.cell? ⟨b,o+2,none⟩=some (.slice va2 x.zO.length vc2):=(HB.out.cell HL.out).trans (HCC.out 2 _ rfl)
      have p3:wr.cell? ⟨b,o+3,none⟩=some (.slice va3 x.zQ.length vc3):=(HB.out.cell HL.out).trans (HCC.out 3 _ rfl)
      have p4:wr.cell? ⟨b,o+4,none⟩=some (.slice va4 x.zP.length vc4):=(HB.out.cell HL.out).trans (HCC.out 4 _ rfl)
      have p5:wr.cell? ⟨b,o+5,none⟩=some (.slice va5 x.zG.zC.length vc5):=(HB.out.cell HL.out).trans (HCC.out 5 _ rfl)
      have lb:b<wr.heap.size:=lL HL.out HB.out.size
      by_cases hlt:k<x.zG.zC.length
      rotate_left
      ·
       obtain rfl:k=x.zG.zC.length:=by omega
       go_wp2
       go_ret
       exact⟨_,rfl,by have h:=T.ow_rd _ _ _ HMk.out.outs.ow;rw[HOUT.out] at h;exact h,HB.out⟩
      have hgk:=gE hlt
      obtain⟨b1,off,csy,hA,hb1,hcs,hcell⟩:=HX5.out k x.zG.zC[k] hgk
      subst hA
      generalize x.zG.zC[k]=y at *
      have HG:=hide hgk;clear hgk
      have HAy:=hide (T.at_elem (o:=off+k * 3) hb1 (show T.rds w y.fs csy by simpa only[xH.t,T.rd] using hcs) hcell (by omega));clear hcs hcell
      have hltE:k<x.zP.length:=by have:=HEL.out;omega
      have hgk:=gE hltE
      obtain⟨bE,oE,cspe,hA,hbE,hcs,hcell⟩:=HX4.out k x.zP[k] hgk
      subst hA
      generalize x.zP[k]=pe at *
      have HGE:=hide hgk;clear hgk
      have HApe:=hide (T.at_elem (o:=oE+k * 4) hbE (show T.rds w pe.fs cspe by simpa only[xG.t,T.rd] using hcs) hcell (by omega));clear hcs hcell
      have HEOK:=hide (HSO.out.effects k _ HGE.out)
      clear p0 p1 p2 p3 p4 p5 lb
      have p0:wr.cell? ⟨b,o,none⟩=some (.int .i64 x.zF):=(HB.out.cell HL.out).trans (HCC.out 0 _ rfl)
      have p1:wr.cell? ⟨b,o+1,none⟩=some (.slice va1 x.zL.length vc1):=(HB.out.cell HL.out).trans (HCC.out 1 _ rfl)
      have p2:wr.cell? ⟨b,o+2,none⟩=some (.slice va2 x.zO.length vc2):=(HB.out.cell HL.out).trans (HCC.out 2 _ rfl)
      have p3:wr.cell? ⟨b,o+3,none⟩=some (.slice va3 x.zQ.length vc3):=(HB.out.cell HL.out).trans (HCC.out 3 _ rfl)
      have p4:wr.cell? ⟨b,o+4,none⟩=some (.slice (some ⟨bE,oE,none⟩) x.zP.length vc4):=(HB.out.cell HL.out).trans (HCC.out 4 _ rfl)
      have p5:wr.cell? ⟨b,o+5,none⟩=some (.slice (some ⟨b1,off,none⟩) x.zG.zC.length vc5):=(HB.out.cell HL.out).trans (HCC.out 5 _ rfl)
      have lb:b<wr.heap.size:=lL HL.out HB.out.size
      obtain⟨lty,csy',hry,hcy⟩:=HAy.out
      obtain⟨u2,rfl,hu2⟩:=xH.yO hry
      have Ru2:=hide hu2;obtain⟨ua2,uc2,rfl,ul2,um2,ux2⟩:=T.yN hu2;have HXu2:=hide ux2;clear ux2 hu2
      have HCy:=hide hcy;clear hry hcy
      have cy0:wr.cell? ⟨b1,off+k * 3,none⟩=some (.string y.zV):=(HB.out.cell lty).trans (HCy.out 0 _ rfl)
      have cy1:wr.cell? ⟨b1,off+k * 3+1,none⟩=some (.int .i64 y.zI):=(HB.out.cell lty).trans (HCy.out 1 _ rfl)
      have cy2:wr.cell? ⟨b1,off+k * 3+2,none⟩=some (.slice ua2 y.zM.length uc2):=(HB.out.cell lty).trans (HCy.out 2 _ rfl)
      have lb1:b1<wr.heap.size:=lL hb1 HB.out.size
      have HNM:=hide (HM.out.each k y HG.out).1
      have hlat:=uL.1 HNM.out.latency
      obtain⟨lN,hlN⟩: ∃ q:Nat,y.zI=(q:Int):=⟨y.zI.toNat,by omega⟩
      have HLN:=hide hlN;clear hlN
      have hsf:y.zM.length≤4:=(by by_cases e:(k:Int)=(x.zG.zC.length:Int) - 1;(· have:=HNM.out.sends.last e;omega);(· exact(HNM.out.sends.few e).2))
      obtain⟨hIO,-⟩:=zCz HSO.out nn k (by omega)
      have HIO:=hide hIO;clear hIO
      obtain⟨l0,hl0,hl0d,hl0n,hl0s⟩:=HIO.out.get hlt
      have HL0:=hide hl0;have HL0d:=hide hl0d;have HL0s:=hide hl0s;clear hl0 hl0d hl0s
      obtain⟨vri,hci,hri,-,-⟩:=HMk.out.cel.each _ _ HL0.out
      have HRi:=hide hri;have HCi:=hide ((HMk.out.cel.bk.cell k).trans hci);clear hri hci
      obtain⟨iA,il,ic,rfl⟩: ∃ A l c,vri= .slice A l c:=by obtain⟨A,c,e,_⟩:=HRi.out.open_;exact⟨A,_,c,e⟩
      have ci:=HCi.out;have lbi:=HMk.out.cel.bk.lt
      have HDE:=hide (HDA.out k y HG.out)
      have HSU:=hide (stripUp_step (n:=nn) HG.out)
      have HED:=hide (show x.zP.getD k uP=pe by rw[List.getD_eq_getElem?_getD,HGE.out];rfl)
      have hkE:(k:Int)<(x.zP.length:Int):=by omega
      go_wp2_with fail
      refine(c_l27None pe bE (oE+k * 4) _ (T.at_below HApe.out HB.out)).mono ?_;rintro e w6 ⟨rfl,hb⟩
      have HM6:=hide (HMk.out.below hb);have HR6:=hide (RdI.below HRi.out hb);have HB6:=hide (yJ HB.out HB.out.size hb);clear hb ci lbi HMk HRi HCi cy0 cy1 cy2 lb1 p0 p1 p2 p3 p4 p5 lb
      by_cases he:pe=uP
      ·
       rw[xA he]
       have HYE:=hide (show wL x nn (xP x nn k).1 k y=lateF l0 lN nn by unfold wL;rw[HED.out,HL0d.out,HLN.out,Int.toNat_natCast];unfold effF;rw[if_pos he])
       have HMt:=HM6;have HRt:=HR6;have HAL:=hide hl0n;have HBt:=HB6;have HT3s:=hide HM6.out.bel.size
       have HLF:=hide (fun b (hb:b ∈ F)=>HMt.out.outs.lt b hb);have HMF:=hide (fun g (hg:vo_.ownBlock=some g)=>HMt.out.outs.mem g hg)
       have p0:w6.cell? ⟨b,o,none⟩=some (.int .i64 x.zF):=(HBt.out.cell HL.out).trans (HCC.out 0 _ rfl)
       have p1:w6.cell? ⟨b,o+1,none⟩=some (.slice va1 x.zL.length vc1):=(HBt.out.cell HL.out).trans (HCC.out 1 _ rfl)
       have p2:w6.cell? ⟨b,o+2,none⟩=some (.slice va2 x.zO.length vc2):=(HBt.out.cell HL.out).trans (HCC.out 2 _ rfl)
       have p3:w6.cell? ⟨b,o+3,none⟩=some (.slice va3 x.zQ.length vc3):=(HBt.out.cell HL.out).trans (HCC.out 3 _ rfl)
       have p4:w6.cell? ⟨b,o+4,none⟩=some (.slice (some ⟨bE,oE,none⟩) x.zP.length vc4):=(HBt.out.cell HL.out).trans (HCC.out 4 _ rfl)
       have p5:w6.cell? ⟨b,o+5,none⟩=some (.slice (some ⟨b1,off,none⟩) x.zG.zC.length vc5):=(HBt.out.cell HL.out).trans (HCC.out 5 _ rfl)
       have lb:b<w6.heap.size:=lL HL.out HBt.out.size
       have cy0:w6.cell? ⟨b1,off+k * 3,none⟩=some (.string y.zV):=(HBt.out.cell lty).trans (HCy.out 0 _ rfl)
       have cy1:w6.cell? ⟨b1,off+k * 3+1,none⟩=some (.int .i64 y.zI):=(HBt.out.cell lty).trans (HCy.out 1 _ rfl)
       have cy2:w6.cell? ⟨b1,off+k * 3+2,none⟩=some (.slice ua2 y.zM.length uc2):=(HBt.out.cell lty).trans (HCy.out 2 _ rfl)
       have lb1:b1<w6.heap.size:=lL hb1 HBt.out.size
       go_wp2_with fail
       refine(c_l27Late' _ l0 lN nn _ HLN.out HRt.out (by have:=HAL.out;omega) (by have:=HLN.out;omega) (by omega)).mono ?_;rintro e w7 ⟨v7,rfl,ho,hb⟩
       rw[←HYE.out] at ho
       obtain⟨yA,yl,yc,rfl⟩: ∃ A l c,v7= .slice A l c:=by obtain⟨A,c,e,_⟩:=(OwI.rd ho).open_;exact⟨A,_,c,e⟩
       have hs7:=hb.size;have HY7:=hide ho;have HM7:=hide (HMt.out.addv hb (v:= .slice yA yl yc) (fun g hg=>ho.lt g hg));have hlbt:=HMt.out.cel.bk.lt;clear ho hb HMt HBt cy0 cy1 cy2 lb1 p0 p1 p2 p3 p4 p5 lb
       have HYL:=hide (stripY_ok (i:=k) (x:=y) HSO.out HIO.out hlt)
       have HSK:=hide (sendUp_ok (y:=wL x nn (xP x nn k).1 k y) (waits:=(wX x.zG).getD k []) HIO.out (to_lt HM.out HG.out))
       have HDK:=hide (show (wX x.zG).getD k []=y.zM.map (uD (xV x.zG) k y) by rw[List.getD_eq_getElem?_getD,HDE.out];rfl)
       have HWT:=hide (fun q z (h:y.zM[q]?=some z)=>wait_ok HM.out HG.out h)
       have hlo2:(xP x nn k).2.length+1≤24:=by have:=(zCz HSO.out nn k (by omega)).2.len;omega
       have HNo:=hide (show T.ow w7 (T.ints 2 (wL x nn (xP x nn k).1 k y)) (Value.slice yA yl yc).ownBlock.toList [.slice yA yl yc] from T.ow_ints.2 ⟨OwI.more HY7.out (Nat.zero_le _),rfl⟩)
       have hYnd:(Value.slice yA yl yc).ownBlock.toList.Nodup:=by cases (Value.slice yA yl yc).ownBlock<;>simp
       have hwq:w3.heap.size≤w7.heap.size:=HM7.out.bel.size
       have hYlo: ∀ b ∈ (Value.slice yA yl yc).ownBlock.toList,w6.heap.size≤b:=fun b hb=>(HY7.out.lt b (by simpa using hb)).1
       have hwt3:=HT3s.out
       have HB7:=hide (yJ HB3.out HB3.out.size HM7.out.bel)
       have p0:w7.cell? ⟨b,o,none⟩=some (.int .i64 x.zF):=(HB7.out.cell HL.out).trans (HCC.out 0 _ rfl)
       have p1:w7.cell? ⟨b,o+1,none⟩=some (.slice va1 x.zL.length vc1):=(HB7.out.cell HL.out).trans (HCC.out 1 _ rfl)
       have p2:w7.cell? ⟨b,o+2,none⟩=some (.slice va2 x.zO.length vc2):=(HB7.out.cell HL.out).trans (HCC.out 2 _ rfl)
       have p3:w7.cell? ⟨b,o+3,none⟩=some (.slice va3 x.zQ.length vc3):=(HB7.out.cell HL.out).trans (HCC.out 3 _ rfl)
       have p4:w7.cell? ⟨b,o+4,none⟩=some (.slice (some ⟨bE,oE,none⟩) x.zP.length vc4):=(HB7.out.cell HL.out).trans (HCC.out 4 _ rfl)
       have p5:w7.cell? ⟨b,o+5,none⟩=some (.slice (some ⟨b1,off,none⟩) x.zG.zC.length vc5):=(HB7.out.cell HL.out).trans (HCC.out 5 _ rfl)
       have lb:b<w7.heap.size:=lL HL.out HB7.out.size
       have cy0:w7.cell? ⟨b1,off+k * 3,none⟩=some (.string y.zV):=(HB7.out.cell lty).trans (HCy.out 0 _ rfl)
       have cy1:w7.cell? ⟨b1,off+k * 3+1,none⟩=some (.int .i64 y.zI):=(HB7.out.cell lty).trans (HCy.out 1 _ rfl)
       have cy2:w7.cell? ⟨b1,off+k * 3+2,none⟩=some (.slice ua2 y.zM.length uc2):=(HB7.out.cell lty).trans (HCy.out 2 _ rfl)
       have lb1:b1<w7.heap.size:=lL hb1 HB7.out.size
       go_wp2_with (at_builtin;refine app1_T rfl _ _ _ rfl w3.heap.size 26 _ 1 24 Tryz.underlying24 wU rfl (by omega) rfl HM7.out.outs HNo.out hYnd (fun b hb=>by have h:=hYlo b hb;omega) (fun b hb hb2=>by have h:=hYlo b hb2;have h2:=HLF.out b hb;omega) rfl rfl (by rw[List.length_map];omega) (by rw[List.length_map];omega) hwq ?_;intro v8 w8 F8 ho8 hg8 hv8;have HO8:=hide ho8;have HG8:=hide hg8;have HV8:=hide hv8;have HM8:=hide (HM7.out.out (y:=wL x nn (xP x nn k).1 k y) (Fx:=(Value.slice yA yl yc).ownBlock.toList) (by have h:=ho8;rw[List.map_append];exact h) hg8 hv8 (fun b hb=>⟨List.mem_append_left _ hb,by have h:=hYlo b hb;omega,fun e=>by simp[Value.ownBlock] at e⟩));have HB8:=hide (yJ HB3.out HB3.out.size HM8.out.bel);clear ho8 hg8 hv8 cy0 cy1 cy2 lb1 p0 p1 p2 p3 p4 p5 lb;have p0:w8.cell? ⟨b,o,none⟩=some (.int .i64 x.zF):=(HB8.out.cell HL.out).trans (HCC.out 0 _ rfl);have p1:w8.cell? ⟨b,o+1,none⟩=some (.slice va1 x.zL.length vc1):=(HB8.out.cell HL.out).trans (HCC.out 1 _ rfl);have p2:w8.cell? ⟨b,o+2,none⟩=some (.slice va2 x.zO.length vc2):=(HB8.out.cell HL.out).trans (HCC.out 2 _ rfl);have p3:w8.cell? ⟨b,o+3,none⟩=some (.slice va3 x.zQ.length vc3):=(HB8.out.cell HL.out).trans (HCC.out 3 _ rfl);have p4:w8.cell? ⟨b,o+4,none⟩=some (.slice (some ⟨bE,oE,none⟩) x.zP.length vc4):=(HB8.out.cell HL.out).trans (HCC.out 4 _ rfl);have p5:w8.cell? ⟨b,o+5,none⟩=some (.slice (some ⟨b1,off,none⟩) x.zG.zC.length vc5):=(HB8.out.cell HL.out).trans (HCC.out 5 _ rfl);have lb:b<w8.heap.size:=lL HL.out HB8.out.size;have cy0:w8.cell? ⟨b1,off+k * 3,none⟩=some (.string y.zV):=(HB8.out.cell lty).trans (HCy.out 0 _ rfl);have cy1:w8.cell? ⟨b1,off+k * 3+1,none⟩=some (.int .i64 y.zI):=(HB8.out.cell lty).trans (HCy.out 1 _ rfl);have cy2:w8.cell? ⟨b1,off+k * 3+2,none⟩=some (.slice ua2 y.zM.length uc2):=(HB8.out.cell lty).trans (HCy.out 2 _ rfl);have lb1:b1<w8.heap.size:=lL hb1 HB8.out.size)
       have HY8:=hide (own_grown HY7.out HG8.out (fun g hg e=>by have h1:=(HY7.out.lt g hg).1;have h2:=HLF.out _ (HMF.out _ e);omega))
       have hs8:=HG8.out.size
       go_loopw [16] (fun i wr=> ∃ (q:Nat) (cs:Array Value),q≤y.zM.length∧i= .int .i64 (q:Int)∧StM w3 wr bi (F8++((Value.slice yA yl yc).ownBlock.toList++A)) F8 cs (uF (wL x nn (xP x nn k).1 k y) nn ((wX x.zG).getD k []) y.zM (xP x nn k).1 q) ((xP x nn k).2++ [wL x nn (xP x nn k).1 k y]) v8 (.slice none 0 0) []∧Trn [bi] w8 wr) (fun i _=>y.zM.length - (intOf i).toNat)
       case atStart=>exact⟨0,cs,Nat.zero_le _,rfl,HM8.out,Trn.refl _ _⟩
       case round=>
        obtain⟨q,cs',hq,rfl,hm,htr⟩:=hrel
        have HMq:=hide hm;have HTq:=hide htr;have HBq:=hide (yJ HB3.out HB3.out.size hm.bel);have hsq:=htr.size;clear hm htr cy0 cy1 cy2 lb1 p0 p1 p2 p3 p4 p5 lb
        have HYq:=hide (own_trnF HY8.out HTq.out (fun g hg=>by simp at hg;omega))
        have p0:wr.cell? ⟨b,o,none⟩=some (.int .i64 x.zF):=(HBq.out.cell HL.out).trans (HCC.out 0 _ rfl)
        have p1:wr.cell? ⟨b,o+1,none⟩=some (.slice va1 x.zL.length vc1):=(HBq.out.cell HL.out).trans (HCC.out 1 _ rfl)
        have p2:wr.cell? ⟨b,o+2,none⟩=some (.slice va2 x.zO.length vc2):=(HBq.out.cell HL.out).trans (HCC.out 2 _ rfl)
        have p3:wr.cell? ⟨b,o+3,none⟩=some (.slice va3 x.zQ.length vc3):=(HBq.out.cell HL.out).trans (HCC.out 3 _ rfl)
        have p4:wr.cell? ⟨b,o+4,none⟩=some (.slice (some ⟨bE,oE,none⟩) x.zP.length vc4):=(HBq.out.cell HL.out).trans (HCC.out 4 _ rfl)
        have p5:wr.cell? ⟨b,o+5,none⟩=some (.slice (some ⟨b1,off,none⟩) x.zG.zC.length vc5):=(HBq.out.cell HL.out).trans (HCC.out 5 _ rfl)
        have lb:b<wr.heap.size:=lL HL.out HBq.out.size
        have cy0:wr.cell? ⟨b1,off+k * 3,none⟩=some (.string y.zV):=(HBq.out.cell lty).trans (HCy.out 0 _ rfl)
        have cy1:wr.cell? ⟨b1,off+k * 3+1,none⟩=some (.int .i64 y.zI):=(HBq.out.cell lty).trans (HCy.out 1 _ rfl)
        have cy2:wr.cell? ⟨b1,off+k * 3+2,none⟩=some (.slice ua2 y.zM.length uc2):=(HBq.out.cell lty).trans (HCy.out 2 _ rfl)
        have lb1:b1<wr.heap.size:=lL hb1 HBq.out.size
        by_cases hlq:q<y.zM.length
        rotate_left
        ·
         obtain rfl:q=y.zM.length:=by omega
         go_wp2
         go_roundw
         case rel=>exact⟨k+1,_,F8,cs',v8,by omega,by go_num,rfl,by rw[HSU.out];exact HMq.out⟩
         case measure=>simp[intOf];omega
        have hgq:=gE hlq
        obtain⟨b2,off2,cs2,hA2,hb2,hcs2,hcell2⟩:=HXu2.out q y.zM[q] hgq
        subst hA2
        generalize y.zM[q]=z at *
        have HGZ:=hide hgq;clear hgq
        obtain rfl:=xM.yO (show T.rds _ _ _ by simpa only[xM.t,T.rd] using hcs2)
        have s0:=(HBq.out.cell hb2).trans (hcell2 0 (.int .i64 z.zW) rfl)
        have s1:=(HBq.out.cell hb2).trans (hcell2 1 (.int .i64 z.zS) rfl)
        rw[show off2+(q * 2+0)=off2+q * 2 by omega] at s0
        rw[show off2+(q * 2+1)=off2+q * 2+1 by omega] at s1
        clear hcs2 hcell2
        have lb2:b2<wr.heap.size:=lL hb2 HBq.out.size
        obtain⟨t0,t1,_⟩:=vX HM.out HG.out q z HGZ.out
        have HGNS:=hide (HNM.out.sends.each q z HGZ.out).2
        obtain⟨toN,htoN⟩: ∃ q:Nat,z.zW=(q:Int):=⟨z.zW.toNat,by omega⟩
        have htom:toN<x.zG.zC.length:=by omega
        obtain⟨l1,hl1,hl1d,hl1n,hl1s⟩:=(HSK.out q).get htom
        obtain⟨wN,hwN⟩: ∃ q:Nat,uD (xV x.zG) k y z=(q:Int):=⟨(uD (xV x.zG) k y z).toNat,by have:=HWT.out q z HGZ.out;omega⟩
        have hwb:=HWT.out q z HGZ.out;have hwb2:wN≤256:=by omega
        have hgw:(y.zM.map (uD (xV x.zG) k y))[q]?=some (wN:Int):=by rw[List.getElem?_map,HGZ.out,←hwN];rfl
        have HSS:=hide (show uF (wL x nn (xP x nn k).1 k y) nn ((wX x.zG).getD k []) y.zM (xP x nn k).1 (q+1)=(uF (wL x nn (xP x nn k).1 k y) nn ((wX x.zG).getD k []) y.zM (xP x nn k).1 q).set toN (addS l1 (lateF (wL x nn (xP x nn k).1 k y) wN nn) z.zS) by rw[sendUp_step HGZ.out,htoN,Int.toNat_natCast,hl1d,HDK.out,List.getD_eq_getElem?_getD (l:=y.zM.map _),hgw];rfl);clear hl1d hwN hwb
        obtain⟨bW,oW,csW,hAW,hbW,hcsW,hcellW⟩:=HDX3.out k _ HDE.out
        subst hAW
        obtain⟨vW,rfl⟩:=T.rd_one hcsW
        have eW:=hcellW 0 vW rfl;rw[Nat.mul_one,Nat.add_zero] at eW
        obtain⟨bQ,oQ,cQ,rfl,hcQ,hmQ,hbQ,hxQ⟩:=xO (T.yT.1 hcsW) (by rw[List.length_map];omega)
        rw[List.length_map] at *
        have eQ:=hxQ q _ hgw;clear hxQ hcsW hcellW hgw
        have HEW:=hide ((HMq.out.bel.cell hbW).trans eW);have HEQ:=hide ((HMq.out.bel.cell hbQ).trans eQ);clear eW eQ
        obtain⟨vrj,hcj,hrj,-,-⟩:=HMq.out.cel.each _ _ hl1
        have HRj:=hide hrj;have HCj:=hide ((HMq.out.cel.bk.cell toN).trans hcj);clear hrj hcj
        have HL1:=hide hl1;have HL1s:=hide hl1s;clear hl1 hl1s
        rw[htoN] at s0;have hto2:(toN:Int)<(x.zG.zC.length:Int):=by omega
        clear htoN t0 t1
        go_wp2
        have HDz:=hide ((Below.refl wr.heap.size wr).drew);have HWz:=hide (show wr.cell? ⟨b1,off+k * 3+2,none⟩=some (.slice (some ⟨b2,off2,none⟩) y.zM.length uc2)∧wr.cell? ⟨b2,off2+q * 2+1,none⟩=some (.int .i64 z.zS)∧wr.cell? ⟨bi,toN,none⟩=some vrj∧wr.cell? ⟨bW,oW+k,none⟩=some (.slice (some ⟨bQ,oQ,none⟩) y.zM.length cQ)∧wr.cell? ⟨bQ,oQ+q,none⟩=some (.int .i64 (wN:Int)) from⟨cy2,s1,HCj.out,HEW.out,HEQ.out⟩)
        have HKZ:=hide (fun(w':World) (hw:Below wr.heap.size wr w')=>(⟨(hw.cell (World.block_lt_of_cell? _ _ HWz.out.1)).trans HWz.out.1,(hw.cell (World.block_lt_of_cell? _ _ HWz.out.2.1)).trans HWz.out.2.1,(hw.cell (World.block_lt_of_cell? _ _ HWz.out.2.2.1)).trans HWz.out.2.2.1,(hw.cell (World.block_lt_of_cell? _ _ HWz.out.2.2.2.1)).trans HWz.out.2.2.2.1,(hw.cell (World.block_lt_of_cell? _ _ HWz.out.2.2.2.2)).trans HWz.out.2.2.2.2⟩:w'.cell? ⟨b1,off+k * 3+2,none⟩=some (.slice (some ⟨b2,off2,none⟩) y.zM.length uc2)∧w'.cell? ⟨b2,off2+q * 2+1,none⟩=some (.int .i64 z.zS)∧w'.cell? ⟨bi,toN,none⟩=some vrj∧w'.cell? ⟨bW,oW+k,none⟩=some (.slice (some ⟨bQ,oQ,none⟩) y.zM.length cQ)∧w'.cell? ⟨bQ,oQ+q,none⟩=some (.int .i64 (wN:Int))))
        clear s0 s1 lb2 cy0 cy1 cy2 lb1 p0 p1 p2 p3 p4 p5 lb
        refine wK (fun w'=>w'.cell? ⟨b1,off+k * 3+2,none⟩=some (.slice (some ⟨b2,off2,none⟩) y.zM.length uc2)∧w'.cell? ⟨b2,off2+q * 2+1,none⟩=some (.int .i64 z.zS)∧w'.cell? ⟨bi,toN,none⟩=some vrj∧w'.cell? ⟨bW,oW+k,none⟩=some (.slice (some ⟨bQ,oQ,none⟩) y.zM.length cQ)∧w'.cell? ⟨bQ,oQ+q,none⟩=some (.int .i64 (wN:Int))) 26 (by kernel_rfl) ?_ (fun hS0=>?_)
        ·exact HKZ.out _ HDz.out
        generalize hwdz:wr.drew=wz at *;clear hwdz
        refine tE 0 hS0 ?_
        refine tE 1 hS0 ?_
        refine tE 2 hS0 ?_
        refine tE 3 hS0 ?_
        refine tE 4 hS0 ?_
        refine tE 5 hS0 ?_
        refine tE 6 hS0 ?_
        refine tE 7 hS0 ?_
        refine tE 8 hS0 ?_
        refine tE 9 hS0 ?_
        refine tE 10 hS0 ?_
        refine tE 11 hS0 ?_
        refine tE 12 hS0 ?_
        refine tE 13 hS0 ?_
        refine tE 14 hS0 ?_
        refine tE 16 hS0 ?_
        refine tE 17 hS0 ?_
        refine tE 18 hS0 ?_
        refine tE 19 hS0 ?_
        refine tE 20 hS0 ?_
        refine tE 21 hS0 ?_
        refine tE 22 hS0 ?_
        refine tE 23 hS0 ?_
        refine oE 15 (fun K hK=>?_)
        go_simp
        go_wp2_with (go_at_call 187;refine(c_l27Late _ (wL x nn (xP x nn k).1 k y) wN nn _ (RdI.below (OwI.rd HYq.out) HDz.out) (by rw[HYL.out.1];omega) (by omega) (by omega)).mono ?_;rintro e w9 ⟨v9,rfl,ho,hb⟩)
        have HY9:=hide (OwI.rd ho);have HD9:=hide (yJ HDz.out HDz.out.size hb);clear ho hb
        refine uE hK ?_ (fun hS1=>?_)
        ·exact HKZ.out _ HD9.out
        clear hK K hS0
        refine oE 24 (fun K hK=>?_)
        go_simp
        go_wp2_with (go_at_call 186;refine(c_l03Add _ _ l1 _ z.zS _ (RdI.below HRj.out HD9.out) HY9.out HL1s.out (smp_lateF HYL.out.2) HGNS.out (by omega) (by rw[uA];omega)).mono ?_;rintro e w10 ⟨v10,rfl,ho,hb⟩)
        have HO10:=hide ho;have HD10:=hide (yJ HD9.out HD9.out.size hb);have HZ10:=hide HD9.out.size;clear ho hb
        refine uE hK ?_ (fun hS2=>?_)
        ·exact HKZ.out _ HD10.out
        clear hK K hS1
        refine tE 25 hS2 ?_
        refine wJ (o:=_) (by kernel_rfl) rfl (by kernel_rfl) ?_
        obtain⟨zA,zl,zc,rfl⟩: ∃ A l c,v10= .slice A l c:=by obtain⟨A,c,e,_⟩:=(OwI.rd HO10.out).open_;exact⟨A,_,c,e⟩
        have HM10:=hide (HMq.out.below HD10.out);have HT10:=hide (HTq.out.trans (Trn.of_below HD10.out))
        have ck:=(HM10.out.cel.bk.cell toN);obtain⟨vq,hq1,-⟩:=HM10.out.cel.each _ _ HL1.out;rw[hq1] at ck;have fr:=HM10.out.cel.bk.free toN;have lc:=HM10.out.cel.bk.lt;clear hq1
        go_wp2
        go_roundw
        case rel=>exact⟨q+1,_,by omega,by go_num,by rw[HSS.out];exact HM10.out.put HL1.out (OwI.rd HO10.out) (fun g hg e=>by have h:=(HO10.out.lt _ e).1;have h2:=HMq.out.alt g hg;have h3:=HZ10.out;omega) (fun g hg=>(HO10.out.lt g hg).2),HT10.out.trans (Trn.set_ (g:=bi) (by simp) toN (.slice zA zl zc))⟩
        case measure=>simp[intOf];omega
      rw[yZ he]
      obtain⟨hpo,hpi,hpu⟩:wZ pe∧pe.zJ=1∧pe.zK.length=1:=by rcases HEOK.out with h|h<;>first|exact absurd h he|exact h
      have HYE:=hide (show wL x nn (xP x nn k).1 k y=lateF (rowF pe l0 nn) lN nn by unfold wL;rw[HED.out,HL0d.out,HLN.out,Int.toNat_natCast,effF_row hpu he])
      have HPO:=hide hpo;have HPI:=hide hpi;have HPU:=hide hpu;clear hpo hpi hpu he
      have p0:w6.cell? ⟨b,o,none⟩=some (.int .i64 x.zF):=(HB6.out.cell HL.out).trans (HCC.out 0 _ rfl)
      have p1:w6.cell? ⟨b,o+1,none⟩=some (.slice va1 x.zL.length vc1):=(HB6.out.cell HL.out).trans (HCC.out 1 _ rfl)
      have p2:w6.cell? ⟨b,o+2,none⟩=some (.slice va2 x.zO.length vc2):=(HB6.out.cell HL.out).trans (HCC.out 2 _ rfl)
      have p3:w6.cell? ⟨b,o+3,none⟩=some (.slice va3 x.zQ.length vc3):=(HB6.out.cell HL.out).trans (HCC.out 3 _ rfl)
      have p4:w6.cell? ⟨b,o+4,none⟩=some (.slice (some ⟨bE,oE,none⟩) x.zP.length vc4):=(HB6.out.cell HL.out).trans (HCC.out 4 _ rfl)
      have p5:w6.cell? ⟨b,o+5,none⟩=some (.slice (some ⟨b1,off,none⟩) x.zG.zC.length vc5):=(HB6.out.cell HL.out).trans (HCC.out 5 _ rfl)
      have lb:b<w6.heap.size:=lL HL.out HB6.out.size
      have HAl:=hide (show Below w6.heap.size w6 (w6.alloc (.cells #[.slice iA il ic] 26)) from(Below.refl _ _).alloc (Nat.le_refl _) _)
      go_wp2_with fail
      refine(c_l08Render pe bE (oE+k * 4) _ l0 nn _ HPO.out HPI.out HPU.out HL0s.out (by omega) (rd_row1 (Bk.born _ _ _) (RdI.below HR6.out HAl.out)) (T.at_below HApe.out (yJ HB6.out HB6.out.size HAl.out))).mono ?_;rintro e w9 ⟨vR,rfl,hr,hb⟩
      have HBl:=hide (yJ HAl.out HAl.out.size hb);have HMt:=hide (HM6.out.below HBl.out);have HBt:=hide (yJ HB6.out HB6.out.size HBl.out);have HT3s:=hide HMt.out.bel.size;clear hb HM6 HR6 HB6 p0 p1 p2 p3 p4 p5 lb
      obtain⟨RA,rcap,rfl,-,-,rx⟩:=T.yN (xs:= [rowF pe l0 nn]) hr
      obtain⟨bR,oR,csR,hAR,hbR,hcsR,hcellR⟩:=rx 0 _ rfl
      subst hAR
      obtain⟨vR,rfl⟩:=T.rd_one hcsR
      have eR:=hcellR 0 vR rfl;simp only[Nat.zero_mul,Nat.add_zero] at eR
      have HRt:=hide (T.yT.1 hcsR);have HAL:=hide (uV pe l0 nn);clear hcsR hcellR rx hr
      have HLF:=hide (fun b (hb:b ∈ F)=>HMt.out.outs.lt b hb);have HMF:=hide (fun g (hg:vo_.ownBlock=some g)=>HMt.out.outs.mem g hg)
      have p0:w9.cell? ⟨b,o,none⟩=some (.int .i64 x.zF):=(HBt.out.cell HL.out).trans (HCC.out 0 _ rfl)
      have p1:w9.cell? ⟨b,o+1,none⟩=some (.slice va1 x.zL.length vc1):=(HBt.out.cell HL.out).trans (HCC.out 1 _ rfl)
      have p2:w9.cell? ⟨b,o+2,none⟩=some (.slice va2 x.zO.length vc2):=(HBt.out.cell HL.out).trans (HCC.out 2 _ rfl)
      have p3:w9.cell? ⟨b,o+3,none⟩=some (.slice va3 x.zQ.length vc3):=(HBt.out.cell HL.out).trans (HCC.out 3 _ rfl)
      have p4:w9.cell? ⟨b,o+4,none⟩=some (.slice (some ⟨bE,oE,none⟩) x.zP.length vc4):=(HBt.out.cell HL.out).trans (HCC.out 4 _ rfl)
      have p5:w9.cell? ⟨b,o+5,none⟩=some (.slice (some ⟨b1,off,none⟩) x.zG.zC.length vc5):=(HBt.out.cell HL.out).trans (HCC.out 5 _ rfl)
      have lb:b<w9.heap.size:=lL HL.out HBt.out.size
      have cy0:w9.cell? ⟨b1,off+k * 3,none⟩=some (.string y.zV):=(HBt.out.cell lty).trans (HCy.out 0 _ rfl)
      have cy1:w9.cell? ⟨b1,off+k * 3+1,none⟩=some (.int .i64 y.zI):=(HBt.out.cell lty).trans (HCy.out 1 _ rfl)
      have cy2:w9.cell? ⟨b1,off+k * 3+2,none⟩=some (.slice ua2 y.zM.length uc2):=(HBt.out.cell lty).trans (HCy.out 2 _ rfl)
      have lb1:b1<w9.heap.size:=lL hb1 HBt.out.size
      go_wp2_with fail
      refine(c_l27Late' _ (rowF pe l0 nn) lN nn _ HLN.out HRt.out (by have:=HAL.out;omega) (by have:=HLN.out;omega) (by omega)).mono ?_;rintro e w7 ⟨v7,rfl,ho,hb⟩
      rw[←HYE.out] at ho
      obtain⟨yA,yl,yc,rfl⟩: ∃ A l c,v7= .slice A l c:=by obtain⟨A,c,e,_⟩:=(OwI.rd ho).open_;exact⟨A,_,c,e⟩
      have hs7:=hb.size;have HY7:=hide ho;have HM7:=hide (HMt.out.addv hb (v:= .slice yA yl yc) (fun g hg=>ho.lt g hg));have hlbt:=HMt.out.cel.bk.lt;clear ho hb HMt HBt cy0 cy1 cy2 lb1 p0 p1 p2 p3 p4 p5 lb
      have HYL:=hide (stripY_ok (i:=k) (x:=y) HSO.out HIO.out hlt)
      have HSK:=hide (sendUp_ok (y:=wL x nn (xP x nn k).1 k y) (waits:=(wX x.zG).getD k []) HIO.out (to_lt HM.out HG.out))
      have HDK:=hide (show (wX x.zG).getD k []=y.zM.map (uD (xV x.zG) k y) by rw[List.getD_eq_getElem?_getD,HDE.out];rfl)
      have HWT:=hide (fun q z (h:y.zM[q]?=some z)=>wait_ok HM.out HG.out h)
      have hlo2:(xP x nn k).2.length+1≤24:=by have:=(zCz HSO.out nn k (by omega)).2.len;omega
      have HNo:=hide (show T.ow w7 (T.ints 2 (wL x nn (xP x nn k).1 k y)) (Value.slice yA yl yc).ownBlock.toList [.slice yA yl yc] from T.ow_ints.2 ⟨OwI.more HY7.out (Nat.zero_le _),rfl⟩)
      have hYnd:(Value.slice yA yl yc).ownBlock.toList.Nodup:=by cases (Value.slice yA yl yc).ownBlock<;>simp
      have hwq:w3.heap.size≤w7.heap.size:=HM7.out.bel.size
      have hYlo: ∀ b ∈ (Value.slice yA yl yc).ownBlock.toList,w9.heap.size≤b:=fun b hb=>(HY7.out.lt b (by simpa using hb)).1
      have hwt3:=HT3s.out
      have HB7:=hide (yJ HB3.out HB3.out.size HM7.out.bel)
      have p0:w7.cell? ⟨b,o,none⟩=some (.int .i64 x.zF):=(HB7.out.cell HL.out).trans (HCC.out 0 _ rfl)
      have p1:w7.cell? ⟨b,o+1,none⟩=some (.slice va1 x.zL.length vc1):=(HB7.out.cell HL.out).trans (HCC.out 1 _ rfl)
      have p2:w7.cell? ⟨b,o+2,none⟩=some (.slice va2 x.zO.length vc2):=(HB7.out.cell HL.out).trans (HCC.out 2 _ rfl)
      have p3:w7.cell? ⟨b,o+3,none⟩=some (.slice va3 x.zQ.length vc3):=(HB7.out.cell HL.out).trans (HCC.out 3 _ rfl)
      have p4:w7.cell? ⟨b,o+4,none⟩=some (.slice (some ⟨bE,oE,none⟩) x.zP.length vc4):=(HB7.out.cell HL.out).trans (HCC.out 4 _ rfl)
      have p5:w7.cell? ⟨b,o+5,none⟩=some (.slice (some ⟨b1,off,none⟩) x.zG.zC.length vc5):=(HB7.out.cell HL.out).trans (HCC.out 5 _ rfl)
      have lb:b<w7.heap.size:=lL HL.out HB7.out.size
      have cy0:w7.cell? ⟨b1,off+k * 3,none⟩=some (.string y.zV):=(HB7.out.cell lty).trans (HCy.out 0 _ rfl)
      have cy1:w7.cell? ⟨b1,off+k * 3+1,none⟩=some (.int .i64 y.zI):=(HB7.out.cell lty).trans (HCy.out 1 _ rfl)
      have cy2:w7.cell? ⟨b1,off+k * 3+2,none⟩=some (.slice ua2 y.zM.length uc2):=(HB7.out.cell lty).trans (HCy.out 2 _ rfl)
      have lb1:b1<w7.heap.size:=lL hb1 HB7.out.size
      go_wp2_with (at_builtin;refine app1_T rfl _ _ _ rfl w3.heap.size 26 _ 1 24 Tryz.underlying24 wU rfl (by omega) rfl HM7.out.outs HNo.out hYnd (fun b hb=>by have h:=hYlo b hb;omega) (fun b hb hb2=>by have h:=hYlo b hb2;have h2:=HLF.out b hb;omega) rfl rfl (by rw[List.length_map];omega) (by rw[List.length_map];omega) hwq ?_;intro v8 w8 F8 ho8 hg8 hv8;have HO8:=hide ho8;have HG8:=hide hg8;have HV8:=hide hv8;have HM8:=hide (HM7.out.out (y:=wL x nn (xP x nn k).1 k y) (Fx:=(Value.slice yA yl yc).ownBlock.toList) (by have h:=ho8;rw[List.map_append];exact h) hg8 hv8 (fun b hb=>⟨List.mem_append_left _ hb,by have h:=hYlo b hb;omega,fun e=>by simp[Value.ownBlock] at e⟩));have HB8:=hide (yJ HB3.out HB3.out.size HM8.out.bel);clear ho8 hg8 hv8 cy0 cy1 cy2 lb1 p0 p1 p2 p3 p4 p5 lb;have p0:w8.cell? ⟨b,o,none⟩=some (.int .i64 x.zF):=(HB8.out.cell HL.out).trans (HCC.out 0 _ rfl);have p1:w8.cell? ⟨b,o+1,none⟩=some (.slice va1 x.zL.length vc1):=(HB8.out.cell HL.out).trans (HCC.out 1 _ rfl);have p2:w8.cell? ⟨b,o+2,none⟩=some (.slice va2 x.zO.length vc2):=(HB8.out.cell HL.out).trans (HCC.out 2 _ rfl);have p3:w8.cell? ⟨b,o+3,none⟩=some (.slice va3 x.zQ.length vc3):=(HB8.out.cell HL.out).trans (HCC.out 3 _ rfl);have p4:w8.cell? ⟨b,o+4,none⟩=some (.slice (some ⟨bE,oE,none⟩) x.zP.length vc4):=(HB8.out.cell HL.out).trans (HCC.out 4 _ rfl);have p5:w8.cell? ⟨b,o+5,none⟩=some (.slice (some ⟨b1,off,none⟩) x.zG.zC.length vc5):=(HB8.out.cell HL.out).trans (HCC.out 5 _ rfl);have lb:b<w8.heap.size:=lL HL.out HB8.out.size;have cy0:w8.cell? ⟨b1,off+k * 3,none⟩=some (.string y.zV):=(HB8.out.cell lty).trans (HCy.out 0 _ rfl);have cy1:w8.cell? ⟨b1,off+k * 3+1,none⟩=some (.int .i64 y.zI):=(HB8.out.cell lty).trans (HCy.out 1 _ rfl);have cy2:w8.cell? ⟨b1,off+k * 3+2,none⟩=some (.slice ua2 y.zM.length uc2):=(HB8.out.cell lty).trans (HCy.out 2 _ rfl);have lb1:b1<w8.heap.size:=lL hb1 HB8.out.size)
      have HY8:=hide (own_grown HY7.out HG8.out (fun g hg e=>by have h1:=(HY7.out.lt g hg).1;have h2:=HLF.out _ (HMF.out _ e);omega))
      have hs8:=HG8.out.size
      go_loopw [16] (fun i wr=> ∃ (q:Nat) (cs:Array Value),q≤y.zM.length∧i= .int .i64 (q:Int)∧StM w3 wr bi (F8++((Value.slice yA yl yc).ownBlock.toList++A)) F8 cs (uF (wL x nn (xP x nn k).1 k y) nn ((wX x.zG).getD k []) y.zM (xP x nn k).1 q) ((xP x nn k).2++ [wL x nn (xP x nn k).1 k y]) v8 (.slice none 0 0) []∧Trn [bi] w8 wr) (fun i _=>y.zM.length - (intOf i).toNat)
      case atStart=>exact⟨0,cs,Nat.zero_le _,rfl,HM8.out,Trn.refl _ _⟩
      case round=>
       obtain⟨q,cs',hq,rfl,hm,htr⟩:=hrel
       have HMq:=hide hm;have HTq:=hide htr;have HBq:=hide (yJ HB3.out HB3.out.size hm.bel);have hsq:=htr.size;clear hm htr cy0 cy1 cy2 lb1 p0 p1 p2 p3 p4 p5 lb
       have HYq:=hide (own_trnF HY8.out HTq.out (fun g hg=>by simp at hg;omega))
       have p0:wr.cell? ⟨b,o,none⟩=some (.int .i64 x.zF):=(HBq.out.cell HL.out).trans (HCC.out 0 _ rfl)
       have p1:wr.cell? ⟨b,o+1,none⟩=some (.slice va1 x.zL.length vc1):=(HBq.out.cell HL.out).trans (HCC.out 1 _ rfl)
       have p2:wr.cell? ⟨b,o+2,none⟩=some (.slice va2 x.zO.length vc2):=(HBq.out.cell HL.out).trans (HCC.out 2 _ rfl)
       have p3:wr.cell? ⟨b,o+3,none⟩=some (.slice va3 x.zQ.length vc3):=(HBq.out.cell HL.out).trans (HCC.out 3 _ rfl)
       have p4:wr.cell? ⟨b,o+4,none⟩=some (.slice (some ⟨bE,oE,none⟩) x.zP.length vc4):=(HBq.out.cell HL.out).trans (HCC.out 4 _ rfl)
       have p5:wr.cell? ⟨b,o+5,none⟩=some (.slice (some ⟨b1,off,none⟩) x.zG.zC.length vc5):=(HBq.out.cell HL.out).trans (HCC.out 5 _ rfl)
       have lb:b<wr.heap.size:=lL HL.out HBq.out.size
       have cy0:wr.cell? ⟨b1,off+k * 3,none⟩=some (.string y.zV):=(HBq.out.cell lty).trans (HCy.out 0 _ rfl)
       have cy1:wr.cell? ⟨b1,off+k * 3+1,none⟩=some (.int .i64 y.zI):=(HBq.out.cell lty).trans (HCy.out 1 _ rfl)
       have cy2:wr.cell? ⟨b1,off+k * 3+2,none⟩=some (.slice ua2 y.zM.length uc2):=(HBq.out.cell lty).trans (HCy.out 2 _ rfl)
       have lb1:b1<wr.heap.size:=lL hb1 HBq.out.size
       by_cases hlq:q<y.zM.length
       rotate_left
       ·
        obtain rfl:q=y.zM.length:=by omega
        go_wp2
        go_roundw
        case rel=>exact⟨k+1,_,F8,cs',v8,by omega,by go_num,rfl,by rw[HSU.out];exact HMq.out⟩
        case measure=>simp[intOf];omega
       have hgq:=gE hlq
       obtain⟨b2,off2,cs2,hA2,hb2,hcs2,hcell2⟩:=HXu2.out q y.zM[q] hgq
       subst hA2
       generalize y.zM[q]=z at *
       have HGZ:=hide hgq;clear hgq
       obtain rfl:=xM.yO (show T.rds _ _ _ by simpa only[xM.t,T.rd] using hcs2)
       have s0:=(HBq.out.cell hb2).trans (hcell2 0 (.int .i64 z.zW) rfl)
       have s1:=(HBq.out.cell hb2).trans (hcell2 1 (.int .i64 z.zS) rfl)
       rw[show off2+(q * 2+0)=off2+q * 2 by omega] at s0
       rw[show off2+(q * 2+1)=off2+q * 2+1 by omega] at s1
       clear hcs2 hcell2
       have lb2:b2<wr.heap.size:=lL hb2 HBq.out.size
       obtain⟨t0,t1,_⟩:=vX HM.out HG.out q z HGZ.out
       have HGNS:=hide (HNM.out.sends.each q z HGZ.out).2
       obtain⟨toN,htoN⟩: ∃ q:Nat,z.zW=(q:Int):=⟨z.zW.toNat,by omega⟩
       have htom:toN<x.zG.zC.length:=by omega
       obtain⟨l1,hl1,hl1d,hl1n,hl1s⟩:=(HSK.out q).get htom
       obtain⟨wN,hwN⟩: ∃ q:Nat,uD (xV x.zG) k y z=(q:Int):=⟨(uD (xV x.zG) k y z).toNat,by have:=HWT.out q z HGZ.out;omega⟩
       have hwb:=HWT.out q z HGZ.out;have hwb2:wN≤256:=by omega
       have hgw:(y.zM.map (uD (xV x.zG) k y))[q]?=some (wN:Int):=by rw[List.getElem?_map,HGZ.out,←hwN];rfl
       have HSS:=hide (show uF (wL x nn (xP x nn k).1 k y) nn ((wX x.zG).getD k []) y.zM (xP x nn k).1 (q+1)=(uF (wL x nn (xP x nn k).1 k y) nn ((wX x.zG).getD k []) y.zM (xP x nn k).1 q).set toN (addS l1 (lateF (wL x nn (xP x nn k).1 k y) wN nn) z.zS) by rw[sendUp_step HGZ.out,htoN,Int.toNat_natCast,hl1d,HDK.out,List.getD_eq_getElem?_getD (l:=y.zM.map _),hgw];rfl);clear hl1d hwN hwb
       obtain⟨bW,oW,csW,hAW,hbW,hcsW,hcellW⟩:=HDX3.out k _ HDE.out
       subst hAW
       obtain⟨vW,rfl⟩:=T.rd_one hcsW
       have eW:=hcellW 0 vW rfl;rw[Nat.mul_one,Nat.add_zero] at eW
       obtain⟨bQ,oQ,cQ,rfl,hcQ,hmQ,hbQ,hxQ⟩:=xO (T.yT.1 hcsW) (by rw[List.length_map];omega)
       rw[List.length_map] at *
       have eQ:=hxQ q _ hgw;clear hxQ hcsW hcellW hgw
       have HEW:=hide ((HMq.out.bel.cell hbW).trans eW);have HEQ:=hide ((HMq.out.bel.cell hbQ).trans eQ);clear eW eQ
       obtain⟨vrj,hcj,hrj,-,-⟩:=HMq.out.cel.each _ _ hl1
       have HRj:=hide hrj;have HCj:=hide ((HMq.out.cel.bk.cell toN).trans hcj);clear hrj hcj
       have HL1:=hide hl1;have HL1s:=hide hl1s;clear hl1 hl1s
       rw[htoN] at s0;have hto2:(toN:Int)<(x.zG.zC.length:Int):=by omega
       clear htoN t0 t1
       go_wp2
       have HDz:=hide ((Below.refl wr.heap.size wr).drew);have HWz:=hide (show wr.cell? ⟨b1,off+k * 3+2,none⟩=some (.slice (some ⟨b2,off2,none⟩) y.zM.length uc2)∧wr.cell? ⟨b2,off2+q * 2+1,none⟩=some (.int .i64 z.zS)∧wr.cell? ⟨bi,toN,none⟩=some vrj∧wr.cell? ⟨bW,oW+k,none⟩=some (.slice (some ⟨bQ,oQ,none⟩) y.zM.length cQ)∧wr.cell? ⟨bQ,oQ+q,none⟩=some (.int .i64 (wN:Int)) from⟨cy2,s1,HCj.out,HEW.out,HEQ.out⟩)
       have HKZ:=hide (fun(w':World) (hw:Below wr.heap.size wr w')=>(⟨(hw.cell (World.block_lt_of_cell? _ _ HWz.out.1)).trans HWz.out.1,(hw.cell (World.block_lt_of_cell? _ _ HWz.out.2.1)).trans HWz.out.2.1,(hw.cell (World.block_lt_of_cell? _ _ HWz.out.2.2.1)).trans HWz.out.2.2.1,(hw.cell (World.block_lt_of_cell? _ _ HWz.out.2.2.2.1)).trans HWz.out.2.2.2.1,(hw.cell (World.block_lt_of_cell? _ _ HWz.out.2.2.2.2)).trans HWz.out.2.2.2.2⟩:w'.cell? ⟨b1,off+k * 3+2,none⟩=some (.slice (some ⟨b2,off2,none⟩) y.zM.length uc2)∧w'.cell? ⟨b2,off2+q * 2+1,none⟩=some (.int .i64 z.zS)∧w'.cell? ⟨bi,toN,none⟩=some vrj∧w'.cell? ⟨bW,oW+k,none⟩=some (.slice (some ⟨bQ,oQ,none⟩) y.zM.length cQ)∧w'.cell? ⟨bQ,oQ+q,none⟩=some (.int .i64 (wN:Int))))
       clear s0 s1 lb2 cy0 cy1 cy2 lb1 p0 p1 p2 p3 p4 p5 lb
       refine wK (fun w'=>w'.cell? ⟨b1,off+k * 3+2,none⟩=some (.slice (some ⟨b2,off2,none⟩) y.zM.length uc2)∧w'.cell? ⟨b2,off2+q * 2+1,none⟩=some (.int .i64 z.zS)∧w'.cell? ⟨bi,toN,none⟩=some vrj∧w'.cell? ⟨bW,oW+k,none⟩=some (.slice (some ⟨bQ,oQ,none⟩) y.zM.length cQ)∧w'.cell? ⟨bQ,oQ+q,none⟩=some (.int .i64 (wN:Int))) 26 (by kernel_rfl) ?_ (fun hS0=>?_)
       ·exact HKZ.out _ HDz.out
       generalize hwdz:wr.drew=wz at *;clear hwdz
       refine tE 0 hS0 ?_
       refine tE 1 hS0 ?_
       refine tE 2 hS0 ?_
       refine tE 3 hS0 ?_
       refine tE 4 hS0 ?_
       refine tE 5 hS0 ?_
       refine tE 6 hS0 ?_
       refine tE 7 hS0 ?_
       refine tE 8 hS0 ?_
       refine tE 9 hS0 ?_
       refine tE 10 hS0 ?_
       refine tE 11 hS0 ?_
       refine tE 12 hS0 ?_
       refine tE 13 hS0 ?_
       refine tE 14 hS0 ?_
       refine tE 16 hS0 ?_
       refine tE 17 hS0 ?_
       refine tE 18 hS0 ?_
       refine tE 19 hS0 ?_
       refine tE 20 hS0 ?_
       refine tE 21 hS0 ?_
       refine tE 22 hS0 ?_
       refine tE 23 hS0 ?_
       refine oE 15 (fun K hK=>?_)
       go_simp
       go_wp2_with (go_at_call 187;refine(c_l27Late _ (wL x nn (xP x nn k).1 k y) wN nn _ (RdI.below (OwI.rd HYq.out) HDz.out) (by rw[HYL.out.1];omega) (by omega) (by omega)).mono ?_;rintro e w9 ⟨v9,rfl,ho,hb⟩)
       have HY9:=hide (OwI.rd ho);have HD9:=hide (yJ HDz.out HDz.out.size hb);clear ho hb
       refine uE hK ?_ (fun hS1=>?_)
       ·exact HKZ.out _ HD9.out
       clear hK K hS0
       refine oE 24 (fun K hK=>?_)
       go_simp
       go_wp2_with (go_at_call 186;refine(c_l03Add _ _ l1 _ z.zS _ (RdI.below HRj.out HD9.out) HY9.out HL1s.out (smp_lateF HYL.out.2) HGNS.out (by omega) (by rw[uA];omega)).mono ?_;rintro e w10 ⟨v10,rfl,ho,hb⟩)
       have HO10:=hide ho;have HD10:=hide (yJ HD9.out HD9.out.size hb);have HZ10:=hide HD9.out.size;clear ho hb
       refine uE hK ?_ (fun hS2=>?_)
       ·exact HKZ.out _ HD10.out
       clear hK K hS1
       refine tE 25 hS2 ?_
       refine wJ (o:=_) (by kernel_rfl) rfl (by kernel_rfl) ?_
       obtain⟨zA,zl,zc,rfl⟩: ∃ A l c,v10= .slice A l c:=by obtain⟨A,c,e,_⟩:=(OwI.rd HO10.out).open_;exact⟨A,_,c,e⟩
       have HM10:=hide (HMq.out.below HD10.out);have HT10:=hide (HTq.out.trans (Trn.of_below HD10.out))
       have ck:=(HM10.out.cel.bk.cell toN);obtain⟨vq,hq1,-⟩:=HM10.out.cel.each _ _ HL1.out;rw[hq1] at ck;have fr:=HM10.out.cel.bk.free toN;have lc:=HM10.out.cel.bk.lt;clear hq1
       go_wp2
       go_roundw
       case rel=>exact⟨q+1,_,by omega,by go_num,by rw[HSS.out];exact HM10.out.put HL1.out (OwI.rd HO10.out) (fun g hg e=>by have h:=(HO10.out.lt _ e).1;have h2:=HMq.out.alt g hg;have h3:=HZ10.out;omega) (fun g hg=>(HO10.out.lt g hg).2),HT10.out.trans (Trn.set_ (g:=bi) (by simp) toN (.slice zA zl zc))⟩
       case measure=>simp[intOf];omega
    -- a round of the tracks
    have hgk:=gE hlt
    obtain⟨b1,off,csy,hA,hb1,hcs,hcell⟩:=HX2.out k x.zO[k] hgk
    subst hA
    generalize x.zO[k]=y at *
    have HG:=hide hgk;clear hgk
    have HAy:=hide (T.at_elem (o:=off+k) hb1 (show T.rds w y.fs csy by simpa only[xI.t,T.rd] using hcs) hcell (by omega));clear hcs hcell
    clear p0 p1 p2 p3 p4 p5 lb
    have hlf:k<x.zQ.length:=by have:=HFL.out;omega
    have hgf:=gE hlf
    obtain⟨bF,oF,hAF,hbF,hcF⟩:=HX3.out k _ hgf
    have hfd:=HSO.out.feeds k _ hgf
    subst hAF
    have p0:wr.cell? ⟨b,o,none⟩=some (.int .i64 x.zF):=(HB.out.cell HL.out).trans (HCC.out 0 _ rfl)
    have p1:wr.cell? ⟨b,o+1,none⟩=some (.slice va1 x.zL.length vc1):=(HB.out.cell HL.out).trans (HCC.out 1 _ rfl)
    have p2:wr.cell? ⟨b,o+2,none⟩=some (.slice (some ⟨b1,off,none⟩) x.zO.length vc2):=(HB.out.cell HL.out).trans (HCC.out 2 _ rfl)
    have p3:wr.cell? ⟨b,o+3,none⟩=some (.slice (some ⟨bF,oF,none⟩) x.zQ.length vc3):=(HB.out.cell HL.out).trans (HCC.out 3 _ rfl)
    have p4:wr.cell? ⟨b,o+4,none⟩=some (.slice va4 x.zP.length vc4):=(HB.out.cell HL.out).trans (HCC.out 4 _ rfl)
    have p5:wr.cell? ⟨b,o+5,none⟩=some (.slice va5 x.zG.zC.length vc5):=(HB.out.cell HL.out).trans (HCC.out 5 _ rfl)
    have lb:b<wr.heap.size:=lL HL.out HB.out.size
    generalize x.zQ[k]=fd at *
    have HFD:=hide hgf;have cF:=(HB.out.cell hbF).trans hcF;have lF:bF<wr.heap.size:=lL hbF HB.out.size;clear hgf hcF
    have HTO:=hide (HSO.out.tracks k y HG.out)
    obtain⟨fN,hfN⟩: ∃ q:Nat,fd=(q:Int):=⟨fd.toNat,by omega⟩
    subst hfN
    have hfm:fN<x.zG.zC.length:=by omega
    have hkf:(k:Int)<(x.zQ.length:Int):=by have:=HFL.out;omega
    obtain⟨lty,csy',hry,hcy⟩:=HAy.out
    obtain⟨u0,rfl,hu0⟩:=xI.yO hry
    have Ru0:=hide hu0;obtain⟨ua0,uc0,rfl,ul0,um0,ux0⟩:=T.yN hu0;have HXu0:=hide ux0;clear ux0 hu0
    have HCy:=hide hcy;clear hry hcy
    have cy0:wr.cell? ⟨b1,off+k,none⟩=some (.slice ua0 y.zR.length uc0):=(HB.out.cell lty).trans (HCy.out 0 _ rfl)
    have lb1:b1<wr.heap.size:=lL hb1 HB.out.size
    have HYR:=hide (show T.rds wr y.fs [.slice ua0 y.zR.length uc0] from xI.rd_mk (T.yF Ru0.out HB.out))
    go_wp2
    have HDr:=hide ((Below.refl wr.heap.size wr).drew);have HWr:=hide (show wr.cell? ⟨b,o,none⟩=some (.int .i64 x.zF)∧wr.cell? ⟨b,o+1,none⟩=some (.slice va1 x.zL.length vc1)∧wr.cell? ⟨b,o+2,none⟩=some (.slice (some ⟨b1,off,none⟩) x.zO.length vc2)∧wr.cell? ⟨b1,off+k,none⟩=some (.slice ua0 y.zR.length uc0) from⟨p0,p1,p2,cy0⟩)
    have HKP:=hide (fun(w':World) (hw:Below wr.heap.size wr w')=>(⟨(hw.cell lb).trans HWr.out.1,(hw.cell lb).trans HWr.out.2.1,(hw.cell lb).trans HWr.out.2.2.1,(hw.cell lb1).trans HWr.out.2.2.2⟩:w'.cell? ⟨b,o,none⟩=some (.int .i64 x.zF)∧w'.cell? ⟨b,o+1,none⟩=some (.slice va1 x.zL.length vc1)∧w'.cell? ⟨b,o+2,none⟩=some (.slice (some ⟨b1,off,none⟩) x.zO.length vc2)∧w'.cell? ⟨b1,off+k,none⟩=some (.slice ua0 y.zR.length uc0)))
    have HBr:=hide HB.out;have hlb:=lb
    refine wE (fun w'=>w'.cell? ⟨b,o,none⟩=some (.int .i64 x.zF)∧w'.cell? ⟨b,o+1,none⟩=some (.slice va1 x.zL.length vc1)∧w'.cell? ⟨b,o+2,none⟩=some (.slice (some ⟨b1,off,none⟩) x.zO.length vc2)∧w'.cell? ⟨b1,off+k,none⟩=some (.slice ua0 y.zR.length uc0)) [] (by kernel_rfl) ?_ (fun hS0=>?_)
    ·exact HKP.out _ HDr.out
    generalize hwd:wr.drew=wd at *;clear hwd
    have HBd:=hide (yJ HBr.out HBr.out.size HDr.out)
    refine tN 0 hS0 ?_
    refine tN 1 hS0 ?_
    refine tN 2 hS0 ?_
    refine tN 3 hS0 ?_
    refine tN 4 hS0 ?_
    refine tN 5 hS0 ?_
    refine tN 6 hS0 ?_
    refine tN 7 hS0 ?_
    refine tN 8 hS0 ?_
    refine tN 9 hS0 ?_
    refine tN 10 hS0 ?_
    refine tN 11 hS0 ?_
    refine tN 12 hS0 ?_
    refine tN 13 hS0 ?_
    refine tN 14 hS0 ?_
    refine oN 15 (fun K hK=>?_)
    go_simp
    go_wp2_with (go_at_call 185;refine(c_sRenderTrack' y _ x.zL _ lenN _ HLEN.out HTO.out.1 HSRC.out HTO.out.2 (by omega) (T.yF R1.out HBd.out) (T.rds_below HYR.out HDr.out)).mono ?_;rintro e w6 ⟨v6,rfl,ho,hb⟩)
    have HT6:=hide ho;have HD6:=hide (yJ HDr.out HDr.out.size hb);clear ho hb
    refine uN hK ?_ (fun hS1=>?_)
    ·exact HKP.out _ HD6.out
    clear hK K hS0
    refine oN 16 (fun K hK=>?_)
    go_simp
    refine uN hK ?_ (fun hS2=>?_)
    ·exact HKP.out _ HD6.out
    clear hK K hS1
    refine tN 17 hS2 ?_
    refine tN 18 hS2 ?_
    refine oN 19 (fun K hK=>?_)
    go_simp
    refine uN hK ?_ (fun hS3=>?_)
    ·exact HKP.out _ HD6.out
    clear hK K hS2
    refine oN 20 (fun K hK=>?_)
    go_simp
    refine uN hK ?_ (fun hS4=>?_)
    ·exact HKP.out _ HD6.out
    clear hK K hS3
    refine xY (by kernel_rfl) ?_
    clear hS4
    have cF6:=(HD6.out.cell lF).trans cF;have lF6:bF<w6.heap.size:=lL lF HD6.out.size
    have p3w:=(HD6.out.cell lb).trans p3;clear p0 p1 p2 p3 p4 p5 lb cF lF cy0
    have lb:b<w6.heap.size:=lL hlb HD6.out.size
    have htl:(uS x.zL y lenN).length=lenN:=uT _
    have HTS:=hide (show ∀ q ∈ uS x.zL y lenN,Smp q from fun q hq=>smp_trackUp _ q hq)
    obtain⟨l0,hl0,hl0d,hl0n,hl0s⟩:=(feedUp_ok HSO.out nn k).get hfm
    obtain⟨tf,gtf,dtf,tf0,tf1⟩:=HENT.out fN hfm
    obtain⟨tn,htn⟩: ∃ q:Nat,tf=(q:Int):=⟨tf.toNat,by omega⟩
    subst htn
    have HFS:=hide (show feedUp x nn (k+1)=(feedUp x nn k).set fN (addS l0 (lateF (uS x.zL y lenN) tn nn) 1) by rw[feedUp_step HG.out HFD.out,Int.toNat_natCast,hl0d,dtf,Int.toNat_natCast,HLEN.out,Int.toNat_natCast]);clear hl0d dtf
    generalize uS x.zL y lenN=sg at *
    have HL0:=hide hl0;have HL0s:=hide hl0s;clear hl0 hl0s
    have HM6:=hide (HMk.out.below HD6.out)
    obtain⟨vri,hci,hri,-,-⟩:=HM6.out.cel.each _ _ HL0.out
    have HRi:=hide hri;have HCi:=hide ((HM6.out.cel.bk.cell fN).trans hci);clear hri hci
    have HTF:=hide ((HM6.out.bel.cell hbT3).trans (HTC3.out _ _ gtf));clear gtf
    go_wp2
    have HDs:=hide ((Below.refl w6.heap.size w6).drew)
    have HW8:=hide (And.intro HCi.out HTF.out)
    have HKQ:=hide (fun(w':World) (hw:Below w6.heap.size w6 w')=>(⟨(hw.cell (World.block_lt_of_cell? _ _ HW8.out.1)).trans HW8.out.1,(hw.cell (World.block_lt_of_cell? _ _ HW8.out.2)).trans HW8.out.2⟩:w'.cell? ⟨bi,fN,none⟩=some vri∧w'.cell? ⟨bT,oT+fN,none⟩=some (.int .i64 (tn:Int))))
    refine wK (fun w'=>w'.cell? ⟨bi,fN,none⟩=some vri∧w'.cell? ⟨bT,oT+fN,none⟩=some (.int .i64 (tn:Int))) 15 (by kernel_rfl) ?_ (fun hS0=>?_)
    ·exact HKQ.out _ HDs.out
    generalize hwd2:w6.drew=we at *;clear hwd2
    clear lb p3w cF6 lF6
    refine tE 0 hS0 ?_
    refine tE 1 hS0 ?_
    refine tE 2 hS0 ?_
    refine tE 3 hS0 ?_
    refine tE 4 hS0 ?_
    refine tE 5 hS0 ?_
    refine tE 6 hS0 ?_
    refine tE 7 hS0 ?_
    refine tE 8 hS0 ?_
    refine tE 9 hS0 ?_
    refine tE 10 hS0 ?_
    refine tE 11 hS0 ?_
    refine oE 12 (fun K hK=>?_)
    go_simp
    go_wp2_with (go_at_call 187;refine(c_l27Late _ sg tn nn _ (RdI.below (OwI.rd HT6.out) HDs.out) (by omega) (by omega) (by omega)).mono ?_;rintro e w9 ⟨v9,rfl,ho,hb⟩)
    have HY9:=hide (OwI.rd ho);have HD9:=hide (yJ HDs.out HDs.out.size hb);clear ho hb
    refine uE hK ?_ (fun hS1=>?_)
    ·exact HKQ.out _ HD9.out
    clear hK K hS0
    refine oE 13 (fun K hK=>?_)
    go_simp
    go_wp2_with (go_at_call 186;refine(c_l03Add _ _ l0 _ 1 _ (RdI.below HRi.out HD9.out) HY9.out HL0s.out (smp_lateF HTS.out) ⟨by decide,by decide⟩ (by omega) (by rw[uA];omega)).mono ?_;rintro e w10 ⟨v10,rfl,ho,hb⟩)
    have HO10:=hide ho;have HD10:=hide (yJ HD9.out HD9.out.size hb);have hs10:=HD9.out.size;clear ho hb
    refine uE hK ?_ (fun hS2=>?_)
    ·exact HKQ.out _ HD10.out
    clear hK K hS1
    refine tE 14 hS2 ?_
    refine wJ (o:=_) (by kernel_rfl) rfl (by kernel_rfl) ?_
    obtain⟨zA,zl,zc,rfl⟩: ∃ A l c,v10= .slice A l c:=by obtain⟨A,c,e,_⟩:=(OwI.rd HO10.out).open_;exact⟨A,_,c,e⟩
    have HM10:=hide (HM6.out.below HD10.out)
    have ck:=(HM10.out.cel.bk.cell fN);obtain⟨vq,hq1,-⟩:=HM10.out.cel.each _ _ HL0.out;rw[hq1] at ck;have fr:=HM10.out.cel.bk.free fN;have lc:=HM10.out.cel.bk.lt;clear hq1
    have hlb8:=HM6.out.cel.bk.lt
    go_wp2
    go_roundw
    case rel=>exact⟨k+1,_,by omega,by go_num,by rw[HFS.out];exact HM10.out.put HL0.out (OwI.rd HO10.out) (fun q hq e=>by simp at hq;subst hq;have h:=(HO10.out.lt _ e).1;omega) (fun q hq=>(HO10.out.lt q hq).2)⟩
    case measure=>simp[intOf];omega
  -- a round of the inputs
  go_wp2_with (first|(go_at_call 184;refine(c_l03Zeros0 nn _ (by omega)).mono ?_;rintro e w6 ⟨v6,rfl,ho,hb⟩;obtain⟨zA,zl,zc,rfl⟩: ∃ A l c,v6= .slice A l c:=(by obtain⟨A,c,e,_⟩:=(OwI.rd ho).open_;exact⟨A,_,c,e⟩);have HN6:=hide (Nv.ints ho hb);have HO6:=hide (HO.out.all hb);have HBw6:=hide (yJ HBw.out HBw.out.size hb);have hb6:=hb.size;clear ho hb)|(at_builtin;refine app1_T rfl _ _ _ rfl w3.heap.size 26 _ 1 24 Tryz.underlying24 wU rfl (by omega) rfl HO6.out HN6.out.ow HN6.out.nodup (fun b hb=>by have h:=HN6.out.lo b hb;omega) (fun b hb hb2=>by have h1:=HO.out.lt b hb;have h2:=HN6.out.lo b hb2;omega) rfl rfl (by rw[List.length_map,List.length_replicate];omega) (by rw[List.length_map,List.length_replicate];omega) HBw6.out.size ?_;intro v8 w8 F8 ho8 hg8 hv8;have HO8:=hide ho8;have HB8:=hide (HO6.out.below HBw6.out HBw6.out.size hg8);clear ho8 hg8 hv8))
  go_roundw
  case rel=>exact⟨k+1,F8,by omega,by go_num,by rw[List.replicate_succ',List.map_append];exact HO8.out,HB8.out⟩
  case measure=>simp[intOf];omega
end Go.Proofs.YtoibekfhepnedaaGreat
