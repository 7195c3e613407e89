/- Contract: the outputs of all strips, by the reference. Contracts: the mix of a session, both sides. What an edit leaves as it was, in plain words: signals that agree, rendering, delays. -/
import Derived.Test.YtdcofkabaigjpaaGreatQBiEdits
import Derived.Test.YtdcofkabaigjpaaGreatQBjEdits
set_option linter.unusedVariables false
set_option linter.unusedSimpArgs false
set_option maxHeartbeats 16000000
set_option maxRecDepth 100000
namespace Go.Proofs.YtdcofkabaigjpaaGreat
section
open Go.RowKit
theorem c_l27Late' (v:Value) (a:List Int) (b n:Nat) (w:World) {N:Int} (hN:N=(b:Int)) (ha:RdI w v a) (na:a.length≤1048576) (hb:b≤1048576) (hn:n≤1048576):Calls Tryz.prog 113 #[v,.int .i64 N,.int .i64 (n:Int)] w fun e w'=> ∃ v',e= .returned v'∧OwI 2 w' w.heap.size v' (xMz a b n)∧Below w.heap.size w w':=by
 subst hN;exact c_l27Late v a b n w ha na hb hn
theorem c_sRenderTrack' (x:xS) (cs:List Value) (sources:List (List Int)) (sv:Value) (n:Nat) (w:World) {N:Int} (hN:N=(n:Int)) (hT:zAz x) (hS:xGz sources) (hc:Each x.zS fun _ c=>c.zV<(sources.length:Int)) (hn:n≤4000) (hr:T.rd w (T.sl 26 1 (sources.map (T.ints 2))) [sv]) (h:T.rds w x.fs cs):Calls Tryz.prog 111 #[sv,.agg cs.toArray,.int .i64 N] w fun e w'=> ∃ v,e= .returned (.tuple #[v,.int .i64 0])∧OwI 2 w' w.heap.size v (yEz sources x n)∧Below w.heap.size w w':=by
 subst hN;exact c_sRenderTrack x cs sources sv n w hT hS hc hn hr h
theorem StM.one {w3 w:World} {bi:Nat} {cs:Array Value} {ins:List (List Int)} (h:StM w3 w bi [bi] [] cs ins [] (.slice none 0 0) (.slice none 0 0) []):StM w3 (w.alloc (.cells #[] 26)) bi [w.heap.size,bi] [w.heap.size] cs ins [] (.slice (some ⟨w.heap.size,0,none⟩) 0 0) (.slice none 0 0) []:=by
 have hs:=h.bel.size;have hlb:=h.cel.bk.lt;have hb:Below w.heap.size w (w.alloc (.cells #[] 26)):=zR.alloc zJ _;have ho:=(Own.born (B:=w.heap.size) (World.ownsRow_made w #[] 0 zJ (by decide) rfl:(w.alloc (.cells #[] 26)).ownsRow w.heap.size 26 1 (.slice (some ⟨w.heap.size,0,none⟩) 0 0) 0 [])).more hs;refine⟨yO h.bel h.bel.size hb,h.lo,h.cel.grow (grown_below hb none) (fun g e=>by cases e) (G:= [w.heap.size]) (fun g hg=> .inr (by simp at hg;omega)),by simpa[Value.ownBlock] using ho,OwI.nil_ _ _ _,by simp,by simp;omega,by simp,by simp[Value.ownBlock],by simp;omega,by simp[Value.ownBlock]⟩
theorem c_l27Outputs (x:xO) (b o:Nat) (w:World) (hS:xW x) (hg:x.good) (h:T.at w x.fs b o):Calls Tryz.prog 73 #[.pointer (some ⟨b,o,none⟩)] w fun e w'=> ∃ vo,e= .returned vo∧T.rd w' (T.sl 26 1 ((outsF x).map (T.ints 2))) [vo]∧Below w.heap.size w w':=by
 have HAT:=xN h;obtain⟨hlt0,cs,hr,hc⟩:=h;obtain⟨v1,v2,v3,v4,v5,rfl,h1,h2,h3,h4,h5⟩:=xO.yT hr;clear hr;obtain⟨va1,vc1,rfl,vl1,vm1,R1,HX1⟩:=oG h1;clear h1;obtain⟨va2,vc2,rfl,vl2,vm2,R2,HX2⟩:=oG h2;clear h2;obtain⟨va3,vc3,rfl,vl3,vm3,R3,HX3⟩:=oI h3;clear h3;obtain⟨va4,vc4,rfl,vl4,vm4,R4,HX4⟩:=oG h4;clear h4;obtain⟨va5,vc5,rfl,vl5,vm5,R5,HX5⟩:=oG h5;clear h5;have HL:=xN hlt0;have HCC:=xN hc;have HB0:=xN (Below.refl w.heap.size w);clear hlt0 hc;have HSO:=xN hS;have HM:=xN hS.mixer;have HGM:=xN (show x.zH.good from hg.2.2.2.2.2);have hn8:x.zH.zC.length≤8:=hS.mixer.few;have hn1:1≤x.zH.zC.length:=hS.mixer.some_;have ht6:x.zG.length≤6:=hS.few;have hfl:x.zL.length=x.zG.length:=hS.feed;have hel:x.zK.length=x.zH.zC.length:=hS.effect;have htot:=total_ok hS.mixer;have hle:=xK.1 hS.length;have HSRC:=xN hS.sources;clear hS hg;obtain⟨lenN,hlen⟩: ∃ q:Nat,x.zB=(q:Int):=⟨x.zB.toNat,by omega⟩;obtain⟨nn,hnn⟩: ∃ q:Nat,x.zB+zHz x.zH=(q:Int):=⟨(x.zB+zHz x.zH).toNat,by omega⟩;have hnt:(x.zB+zHz x.zH).toNat=nn:=by omega
 have HOUT:=xN (show (wR x nn x.zH.zC.length).2=outsF x by rw[←hnt];rfl);have hnb:nn≤1288:=by omega
 have hw1:IntKind.i64.wrap (x.zB+zHz x.zH)=(nn:Int):=by rw[hnn];exact IntWalk.i64_in _ zM
 have hln:lenN≤nn:=by omega
 have HDL:=xN (zKy x.zH);have HDA:=xN (fun k y (h:x.zH.zC[k]?=some y)=>delays_at h);have HENT:=xN (fun j (h:j<x.zH.zC.length)=>ent_at HM.o h);have HLEN:=xN hlen;have HFL:=xN hfl;have HEL:=xN hel;clear hlen hfl hel hnn hnt;have HATM:=xN (show T.at w x.zH.fs b (o+5) from T.at_sub [.int .i64 x.zB,.slice va1 x.zI.length vc1,.slice va2 x.zG.length vc2,.slice va3 x.zL.length vc3,.slice va4 x.zK.length vc4] [.slice va5 x.zH.zC.length vc5] [] HL.o HCC.o (vF.rd_mk R5.o));obtain⟨p0,p1,p2,p3,p4,p5⟩:=pc6 HB0.o HL.o HCC.o;have lb:b<w.heap.size:=zW HL.o HB0.o.size
 go_enter Tryz.func73,Tryz.ntmps73
 go_wp2_with fail
 refine(uOz x.zH b (o+5) _ HM.o HGM.o HATM.o).mono ?_;rintro e w1 ⟨vT,rfl,ho,hb⟩;have HT1:=xN (OwI.rd ho);have HB1:=xN hb;clear ho hb p0 p1 p2 p3 p4 p5 lb;obtain⟨p0,p1,p2,p3,p4,p5⟩:=pc6 HB1.o HL.o HCC.o;have lb:b<w1.heap.size:=zW HL.o HB1.o.size;go_wp2_with fail
 refine(c_l26Delays x.zH b (o+5) _ HM.o HGM.o (T.at_below HATM.o HB1.o)).mono ?_;rintro e w2 ⟨vD,FD,rfl,ho,hb⟩;have HV2:=xN (T.ow_rd _ _ _ ho.ow);have HT2:=xN (RdI.below HT1.o hb);have HB2:=xN (yO HB1.o HB1.o.size hb);clear ho hb HT1 p0 p1 p2 p3 p4 p5 lb;have hetl:(wK x.zH).length=x.zH.zC.length:=zPz _;obtain⟨bT,oT,cT,rfl,hcT1,hcT2,hbT,hcT⟩:=wP HT2.o zM;rw[hetl] at *;have HTC:=xN hcT;clear hcT;obtain⟨p0,p1,p2,p3,p4,p5⟩:=pc6 HB2.o HL.o HCC.o;have lb:b<w2.heap.size:=zW HL.o HB2.o.size;go_wp2;have HDr:=xN ((Below.refl w2.heap.size w2).drew);have HKP:=xN (fun(w':World) (hw:Below w2.heap.size w2 w')=>((hw.cell lb).trans p0:w'.cell? ⟨b,o,none⟩=some (.int .i64 x.zB)));clear p0 p1 p2 p3 p4 p5;refine wG (fun w'=>w'.cell? ⟨b,o,none⟩=some (.int .i64 x.zB)) [] (by kernel_rfl) ?_ (fun hS0=>?_)
 ·exact HKP.o _ HDr.o
 generalize hwd:w2.drew=wd at *;clear hwd;refine zN 0 hS0 ?_;refine zN 1 hS0 ?_;refine zN 2 hS0 ?_;refine zN 3 hS0 ?_;refine zN 4 hS0 ?_;refine zN 5 hS0 ?_;refine zN 6 hS0 ?_;refine pN 7 (fun K hK=>?_);go_simp;go_wp2_with (go_at_call 75;refine(c_l26Total x.zH b (o+5) _ HM.o HGM.o (T.at_below HATM.o (yO HB2.o HB2.o.size HDr.o))).mono ?_;rintro e w3 ⟨rfl,hb⟩)
 have HD3:=xN (yO HDr.o HDr.o.size hb);clear hb;refine uN hK ?_ (fun hS1=>?_)
 ·exact HKP.o _ HD3.o
 clear hK K hS0;refine zN 8 hS1 ?_;refine pN 9 (fun K hK=>?_);go_simp;refine uN hK ?_ (fun hS2=>?_)
 ·exact HKP.o _ HD3.o
 clear hK K hS1;refine qN ?_;clear hS2;have HB3:=xN (yO HB2.o HB2.o.size HD3.o);have HTC3:=xN (fun j u h=>(HD3.o.cell hbT).trans (HTC.o j u h));have hbT3:=zW hbT HD3.o.size;have HV3:=xN (T.yJ HV2.o HD3.o);obtain⟨DA,dcap,rfl,dl,dm,dx⟩:=T.yS HV3.o;have HDX3:=xN dx;clear dx;rw[HDL.o] at *;clear HDr HKP lb HT2 HTC;obtain⟨p0,p1,p2,p3,p4,p5⟩:=pc6 HB3.o HL.o HCC.o;have lb:b<w3.heap.size:=zW HL.o HB3.o.size;have HO0:=xN (Own.born (World.ownsRow_made w3 #[] 0 zJ (by decide) rfl:(w3.alloc (.cells #[] 26)).ownsRow w3.heap.size 26 1 (.slice (some ⟨w3.heap.size,0,none⟩) 0 0) 0 []));have HBl:=xN (show Below w3.heap.size w3 (w3.alloc (.cells #[] 26)) from zR.alloc zJ _);go_wp2
 go_loopw [6,7] (fun r i wr=> ∃ (k:Nat) (F:List Nat),k≤x.zH.zC.length∧i= .int .i64 (k:Int)∧Own w3.heap.size wr (T.sl 26 1 ((List.replicate k (List.replicate nn 0)).map (T.ints 2))) F r∧Below w3.heap.size w3 wr) (fun _ i _=>x.zH.zC.length - (intOf i).toNat)
 case atStart=>exact⟨0,_,Nat.zero_le _,rfl,HO0.o,HBl.o⟩
 case round=>
  obtain⟨k,F,hk,rfl,ho,hbw⟩:=hrel;have HO:=xN ho;have HBw:=xN hbw;have HB:=xN (yO HB3.o HB3.o.size hbw);have hs0:=hbw.size;clear ho hbw p0 p1 p2 p3 p4 p5 lb;obtain⟨p0,p1,p2,p3,p4,p5⟩:=pc6 HB.o HL.o HCC.o;have lb:b<wr.heap.size:=zW HL.o HB.o.size;by_cases hlt:k<x.zH.zC.length
  rotate_left
  ·-- the loop ends
   obtain rfl:k=x.zH.zC.length:=by omega
   obtain⟨bi,icap,csI,rfl,hic,hbi,hbk,hrows⟩:=Own.rows HO.o (by rw[List.length_replicate];omega);rw[List.length_replicate] at *;have HMb:=xN (show StM w3 wr bi [bi] [] csI (zIz x nn 0) [] (.slice none 0 0) (.slice none 0 0) [] from⟨HBw.o,hbi,⟨hbk,fun i l hl=>by obtain⟨u,u1,u2,u3,u4⟩:=hrows i l hl;exact⟨u,u1,OwI.rd u2,fun q hq=>by simp at hq;subst hq;exact u3,fun q hq=>(u4 q hq).2⟩⟩,Own.nil _ _ _ _,OwI.nil_ _ _ _,by simp,by have h:=hbk.lt;simpa using h,by simp,by simp[Value.ownBlock],by simp,by simp[Value.ownBlock]⟩);clear HO HBw hbk hrows p0 p1 p2 p3 p4 p5 lb;have HB:=xN (yO HB3.o HB3.o.size HMb.o.bel);obtain⟨p0,p1,p2,p3,p4,p5⟩:=pc6 HB.o HL.o HCC.o;have lb:b<wr.heap.size:=zW HL.o HB.o.size;go_wp2
   go_loopw [8] (fun i wr=> ∃ (k:Nat) (cs:Array Value),k≤x.zG.length∧i= .int .i64 (k:Int)∧StM w3 wr bi [bi] [] cs (zIz x nn k) [] (.slice none 0 0) (.slice none 0 0) []) (fun i _=>x.zG.length - (intOf i).toNat)
   case atStart=>exact⟨0,_,Nat.zero_le _,rfl,HMb.o⟩
   case round=>
    obtain⟨k,cs,hk,rfl,hm⟩:=hrel;have HMk:=xN hm;clear hm p0 p1 p2 p3 p4 p5 lb;clear HB;have HB:=xN (yO HB3.o HB3.o.size HMk.o.bel);obtain⟨p0,p1,p2,p3,p4,p5⟩:=pc6 HB.o HL.o HCC.o;have lb:b<wr.heap.size:=zW HL.o HB.o.size;by_cases hlt:k<x.zG.length
    rotate_left
    ·-- the tracks are fed
     obtain rfl:k=x.zG.length:=by omega
     have HM3:=xN (HMk.o.one);have HBk:=HB;clear HMk HB p0 p1 p2 p3 p4 p5 lb;have HB:=HBk;clear HBk;obtain⟨wr0,rfl⟩: ∃ q,q=wr:=⟨_,rfl⟩;obtain⟨p0,p1,p2,p3,p4,p5⟩:=pc6 HB.o HL.o HCC.o;have lb:b<wr0.heap.size:=zW HL.o HB.o.size;go_wp2
     go_loopw [12,13] (fun o_ i wr=> ∃ (k:Nat) (A F:List Nat) (cs:Array Value) (vo_:Value),k≤x.zH.zC.length∧i= .int .i64 (k:Int)∧vo_=o_∧StM w3 wr bi A F cs (wR x nn k).1 (wR x nn k).2 vo_ (.slice none 0 0) []) (fun _ i _=>x.zH.zC.length - (intOf i).toNat)
     case atStart=>exact⟨0,_,_,_,_,Nat.zero_le _,rfl,rfl,HM3.o⟩
     case round=>
      obtain⟨k,A,F,cs,vo_,hk,rfl,rfl,hm⟩:=hrel;have HMk:=xN hm;clear hm HB p0 p1 p2 p3 p4 p5 lb;have HB:=xN (yO HB3.o HB3.o.size HMk.o.bel);obtain⟨p0,p1,p2,p3,p4,p5⟩:=pc6 HB.o HL.o HCC.o;have lb:b<wr.heap.size:=zW HL.o HB.o.size;by_cases hlt:k<x.zH.zC.length
      rotate_left
      ·
       obtain rfl:k=x.zH.zC.length:=by omega
       go_wp2;go_ret
       exact⟨_,rfl,by have h:=T.ow_rd _ _ _ HMk.o.outs.ow;rw[HOUT.o] at h;exact h,HB.o⟩
      have hgk:=gE hlt;obtain⟨b1,off,csy,hA,hb1,hcs,hcell⟩:=HX5.o k x.zH.zC[k] hgk;subst hA;generalize x.zH.zC[k]=y at *;have HG:=xN hgk;clear hgk;have HAy:=xN (T.at_elem (o:=off+k * 3) hb1 (show T.rds w y.fs csy by simpa only[xP.t,T.rd] using hcs) hcell zM);clear hcs hcell;have hltE:k<x.zK.length:=by have:=HEL.o;omega
      have hgk:=gE hltE;obtain⟨bE,oE,cspe,hA,hbE,hcs,hcell⟩:=HX4.o k x.zK[k] hgk;subst hA;generalize x.zK[k]=pe at *;have HGE:=xN hgk;clear hgk;have HApe:=xN (T.at_elem (o:=oE+k * 4) hbE (show T.rds w pe.fs cspe by simpa only[xQ.t,T.rd] using hcs) hcell zM);clear hcs hcell;have HEOK:=xN (HSO.o.effects k _ HGE.o);clear p0 p1 p2 p3 p4 p5 lb;obtain⟨p0,p1,p2,p3,p4,p5⟩:=pc6 HB.o HL.o HCC.o;have lb:b<wr.heap.size:=zW HL.o HB.o.size;obtain⟨lty,csy',hry,hcy⟩:=HAy.o;obtain⟨u2,rfl,hu2⟩:=xP.yT hry;have Ru2:=xN hu2;obtain⟨ua2,uc2,rfl,ul2,um2,ux2⟩:=T.yS hu2;have HXu2:=xN ux2;clear ux2 hu2;have HCy:=xN hcy;clear hry hcy;obtain⟨cy0,cy1,cy2⟩:=pc3 HB.o lty HCy.o;have lb1:b1<wr.heap.size:=zW hb1 HB.o.size;have HNM:=xN (HM.o.each k y HG.o).1;have hlat:=wY.1 HNM.o.latency;obtain⟨lN,hlN⟩: ∃ q:Nat,y.zZ=(q:Int):=⟨y.zZ.toNat,by omega⟩;have HLN:=xN hlN;clear hlN;have hsf:y.zT.length≤4:=(by by_cases e:(k:Int)=(x.zH.zC.length:Int) - 1;(· have:=HNM.o.sends.last e;omega);(· exact(HNM.o.sends.few e).2));obtain⟨hIO,-⟩:=wAz HSO.o nn k zM;have HIO:=xN hIO;clear hIO;obtain⟨l0,hl0,hl0d,hl0n,hl0s⟩:=HIO.o.get hlt;have HL0:=xN hl0;have HL0d:=xN hl0d;have HL0s:=xN hl0s;clear hl0 hl0d hl0s;obtain⟨vri,hci,hri,-,-⟩:=HMk.o.cel.each _ _ HL0.o;have HRi:=xN hri;have HCi:=xN ((HMk.o.cel.bk.cell k).trans hci);clear hri hci;obtain⟨iA,il,ic,rfl⟩: ∃ A l c,vri= .slice A l c:=by obtain⟨A,c,e,_⟩:=HRi.o.open_;exact⟨A,_,c,e⟩
      have ci:=HCi.o;have lbi:=HMk.o.cel.bk.lt;have HDE:=xN (HDA.o k y HG.o);have HSU:=xN (uMz (n:=nn) HG.o);have HED:=xN (show x.zK.getD k uO=pe by rw[List.getD_eq_getElem?_getD,HGE.o];rfl);have hkE:(k:Int)<(x.zK.length:Int):=by omega
      go_wp2_with fail
      rename_i K2 hK2 K1 hK1 K0 hK0
      have TAIL: ∀ {u15 u16 u17 u98 u99 u100 u101 u102 u103 u104 u105 u106 u107 u108 u109 u110 u111 u112 u113 u114 u115 u116 u117 u118 u119 u120 u121 u122 u123 u124 u125 u126 u127 u128 u129 u130 u131 u132 u133 u134 u135 u136 u137 u138 u139 u140 u141 u142 u143 u144 u145 u146 u147 u148 u149 u150 u151 u152 u153 u154 u155 u156 u157 u158 u159 u160 u161 u162 u163 u164 u165 u166 u167 u168 u169 u170 u171 u172 u173 u174 u175 u176 u177 u178 u179 u180 u181 u182 u183 u184 u185 u186 u187 u188:Value} (a:List Int) (W:World),StM w3 W bi A F cs (wR x nn k).1 (wR x nn k).2 vo_ (.slice none 0 0) []→RdI W u15 a→Below w.heap.size w W→a.length=nn→zCz x nn (wR x nn k).1 k y=xMz a lN nn→K2 { tmps:= #[.pointer (some ⟨b,o,none⟩),undef,.slice none 0 0,.slice (some ⟨bT,oT,none⟩) x.zH.zC.length cT,.slice DA x.zH.zC.length dcap,.int .i64 (nn:Int),.slice (some ⟨bi,0,none⟩) x.zH.zC.length icap,.int .i64 (x.zH.zC.length:Int),.int .i64 (x.zG.length:Int),u9,u10,u11,vo_,.int .i64 (k:Int),.pointer (some ⟨b1,off+k * 3,none⟩),u15,u16,u17,.pointer (some ⟨b,o,none⟩),.pointer (some ⟨b,o,none⟩),.pointer (some ⟨b,o+5,none⟩),.slice (some ⟨bT,oT,none⟩) x.zH.zC.length cT,.pointer (some ⟨b,o,none⟩),.pointer (some ⟨b,o,none⟩),.pointer (some ⟨b,o+5,none⟩),.slice DA x.zH.zC.length dcap,.pointer (some ⟨b,o,none⟩),.pointer (some ⟨b,o,none⟩),.pointer (some ⟨b,o,none⟩),.int .i64 x.zB,.pointer (some ⟨b,o,none⟩),.pointer (some ⟨b,o,none⟩),.pointer (some ⟨b,o+5,none⟩),.int .i64 (zHz x.zH),.int .i64 (nn:Int),.slice (some ⟨w3.heap.size,0,none⟩) 0 0,.int .i64 (x.zH.zC.length:Int),.slice (some ⟨bT,oT,none⟩) x.zH.zC.length cT,.int .i64 (x.zH.zC.length:Int),.bool false,u40,u41,u42,u43,u44,u45,u46,.int .i64 (x.zG.length:Int),.pointer (some ⟨b,o,none⟩),.pointer (some ⟨b,o,none⟩),.pointer (some ⟨b,o+2,none⟩),.slice va2 x.zG.length vc2,.int .i64 (x.zG.length:Int),.bool false,u54,u55,u56,u57,u58,u59,u60,u61,u62,u63,u64,u65,u66,u67,u68,u69,u70,u71,u72,u73,u74,u75,u76,u77,u78,u79,u80,u81,u82,u83,u84,u85,u86,u87,u88,u89,u90,u91,u92,u93,u94,u95,u96,.slice (some ⟨wr0.heap.size,0,none⟩) 0 0,u98,u99,u100,u101,u102,u103,u104,u105,u106,u107,u108,u109,u110,u111,u112,u113,u114,u115,u116,u117,u118,u119,u120,u121,u122,u123,u124,u125,u126,u127,u128,u129,u130,u131,u132,u133,u134,u135,u136,u137,u138,u139,u140,u141,u142,u143,u144,u145,u146,u147,u148,u149,u150,u151,u152,u153,u154,u155,u156,u157,u158,u159,u160,u161,u162,u163,u164,u165,u166,u167,u168,u169,u170,u171,u172,u173,u174,u175,u176,u177,u178,u179,u180,u181,u182,u183,u184,u185,u186,u187,u188,undef],defers:= [] } W:=by
       intro u15 u16 u17 u98 u99 u100 u101 u102 u103 u104 u105 u106 u107 u108 u109 u110 u111 u112 u113 u114 u115 u116 u117 u118 u119 u120 u121 u122 u123 u124 u125 u126 u127 u128 u129 u130 u131 u132 u133 u134 u135 u136 u137 u138 u139 u140 u141 u142 u143 u144 u145 u146 u147 u148 u149 u150 u151 u152 u153 u154 u155 u156 u157 u158 u159 u160 u161 u162 u163 u164 u165 u166 u167 u168 u169 u170 u171 u172 u173 u174 u175 u176 u177 u178 u179 u180 u181 u182 u183 u184 u185 u186 u187 u188 a w6' hm hr hbt hal hye;have HMt:=xN hm;have HRt:=xN hr;have HBt:=xN hbt;have HAL:=xN hal;have HYE:=xN hye;have HT3s:=xN hm.bel.size;clear hm hr hbt hal hye;refine hK2 _ _ ?_;clear hK0 hK1 hK2 K0 K1 K2 HMk HRi HCi ci lbi cy0 cy1 cy2 lb1 p0 p1 p2 p3 p4 p5 lb;have HLF:=xN (fun b (hb:b ∈ F)=>HMt.o.outs.lt b hb);have HMF:=xN (fun g (hg:vo_.ownBlock=some g)=>HMt.o.outs.mem g hg);obtain⟨p0,p1,p2,p3,p4,p5⟩:=pc6 HBt.o HL.o HCC.o;have lb:b<w6'.heap.size:=zW HL.o HBt.o.size;obtain⟨cy0,cy1,cy2⟩:=pc3 HBt.o lty HCy.o;have lb1:b1<w6'.heap.size:=zW hb1 HBt.o.size;go_wp2_with fail
       refine(c_l27Late' _ a lN nn _ HLN.o HRt.o (by have:=HAL.o;omega) (by have:=HLN.o;omega) zM).mono ?_;rintro e w7 ⟨v7,rfl,ho,hb⟩;rw[←HYE.o] at ho;obtain⟨yA,yl,yc,rfl⟩: ∃ A l c,v7= .slice A l c:=by obtain⟨A,c,e,_⟩:=(OwI.rd ho).open_;exact⟨A,_,c,e⟩
       have hs7:=hb.size;have HY7:=xN ho;have HM7:=xN (HMt.o.addv hb (v:= .slice yA yl yc) (fun g hg=>ho.lt g hg));have hlbt:=HMt.o.cel.bk.lt;clear ho hb HMt HBt cy0 cy1 cy2 lb1 p0 p1 p2 p3 p4 p5 lb;have HYL:=xN (stripY_ok (i:=k) (x:=y) HSO.o HIO.o hlt);have HSK:=xN (vWz (y:=zCz x nn (wR x nn k).1 k y) (waits:=(zKz x.zH).getD k []) HIO.o (to_lt HM.o HG.o));have HDK:=xN (show (zKz x.zH).getD k []=y.zT.map (xPz (wK x.zH) k y) by rw[List.getD_eq_getElem?_getD,HDE.o];rfl);have HWT:=xN (fun q z (h:y.zT[q]?=some z)=>wait_ok HM.o HG.o h);have hlo2:(wR x nn k).2.length+1≤24:=by have:=(wAz HSO.o nn k zM).2.len;omega
       have HNo:=xN (show T.ow w7 (T.ints 2 (zCz x nn (wR x nn k).1 k y)) (Value.slice yA yl yc).ownBlock.toList [.slice yA yl yc] from T.ow_ints.2 ⟨OwI.more HY7.o (Nat.zero_le _),rfl⟩);have hYnd:(Value.slice yA yl yc).ownBlock.toList.Nodup:=by cases (Value.slice yA yl yc).ownBlock<;>simp
       have hwq:w3.heap.size≤w7.heap.size:=HM7.o.bel.size;have hYlo: ∀ b ∈ (Value.slice yA yl yc).ownBlock.toList,w6'.heap.size≤b:=fun b hb=>(HY7.o.lt b (by simpa using hb)).1
       have hwt3:=HT3s.o;have HB7:=xN (yO HB3.o HB3.o.size HM7.o.bel);obtain⟨p0,p1,p2,p3,p4,p5⟩:=pc6 HB7.o HL.o HCC.o;have lb:b<w7.heap.size:=zW HL.o HB7.o.size;obtain⟨cy0,cy1,cy2⟩:=pc3 HB7.o lty HCy.o;have lb1:b1<w7.heap.size:=zW hb1 HB7.o.size;go_wp2_with (at_builtin;refine yJz rfl _ _ _ rfl w3.heap.size 26 _ 1 24 Tryz.underlying24 zDz rfl zM rfl HM7.o.outs HNo.o hYnd (fun b hb=>by have h:=hYlo b hb;omega) (fun b hb hb2=>by have h:=hYlo b hb2;have h2:=HLF.o b hb;omega) rfl rfl (by rw[List.length_map];omega) (by rw[List.length_map];omega) hwq ?_;intro v8 w8 F8 ho8 hg8 hv8;have HO8:=xN ho8;have HG8:=xN hg8;have HV8:=xN hv8;have HM8:=xN (HM7.o.o (y:=zCz x nn (wR x nn k).1 k y) (Fx:=(Value.slice yA yl yc).ownBlock.toList) (by have h:=ho8;rw[List.map_append];exact h) hg8 hv8 (fun b hb=>⟨List.mem_append_left _ hb,by have h:=hYlo b hb;omega,fun e=>by simp[Value.ownBlock] at e⟩));have HB8:=xN (yO HB3.o HB3.o.size HM8.o.bel);clear ho8 hg8 hv8 cy0 cy1 cy2 lb1 p0 p1 p2 p3 p4 p5 lb;have p0:w8.cell? ⟨b,o,none⟩=some (.int .i64 x.zB):=(HB8.o.cell HL.o).trans (HCC.o 0 _ rfl);have p1:w8.cell? ⟨b,o+1,none⟩=some (.slice va1 x.zI.length vc1):=(HB8.o.cell HL.o).trans (HCC.o 1 _ rfl);have p2:w8.cell? ⟨b,o+2,none⟩=some (.slice va2 x.zG.length vc2):=(HB8.o.cell HL.o).trans (HCC.o 2 _ rfl);have p3:w8.cell? ⟨b,o+3,none⟩=some (.slice va3 x.zL.length vc3):=(HB8.o.cell HL.o).trans (HCC.o 3 _ rfl);have p4:w8.cell? ⟨b,o+4,none⟩=some (.slice (some ⟨bE,oE,none⟩) x.zK.length vc4):=(HB8.o.cell HL.o).trans (HCC.o 4 _ rfl);have p5:w8.cell? ⟨b,o+5,none⟩=some (.slice (some ⟨b1,off,none⟩) x.zH.zC.length vc5):=(HB8.o.cell HL.o).trans (HCC.o 5 _ rfl);have lb:b<w8.heap.size:=zW HL.o HB8.o.size;have cy0:w8.cell? ⟨b1,off+k * 3,none⟩=some (.string y.yH):=(HB8.o.cell lty).trans (HCy.o 0 _ rfl);have cy1:w8.cell? ⟨b1,off+k * 3+1,none⟩=some (.int .i64 y.zZ):=(HB8.o.cell lty).trans (HCy.o 1 _ rfl);have cy2:w8.cell? ⟨b1,off+k * 3+2,none⟩=some (.slice ua2 y.zT.length uc2):=(HB8.o.cell lty).trans (HCy.o 2 _ rfl);have lb1:b1<w8.heap.size:=zW hb1 HB8.o.size)
       have HY8:=xN (own_grown HY7.o HG8.o (fun g hg e=>by have h1:=(HY7.o.lt g hg).1;have h2:=HLF.o _ (HMF.o _ e);omega));have hs8:=HG8.o.size
       go_loopw [16] (fun i wr=> ∃ (q:Nat) (cs:Array Value),q≤y.zT.length∧i= .int .i64 (q:Int)∧StM w3 wr bi (F8++((Value.slice yA yl yc).ownBlock.toList++A)) F8 cs (yPz (zCz x nn (wR x nn k).1 k y) nn ((zKz x.zH).getD k []) y.zT (wR x nn k).1 q) ((wR x nn k).2++ [zCz x nn (wR x nn k).1 k y]) v8 (.slice none 0 0) []∧Trn [bi] w8 wr) (fun i _=>y.zT.length - (intOf i).toNat)
       case atStart=>exact⟨0,cs,Nat.zero_le _,rfl,HM8.o,Trn.refl _ _⟩
       case round=>
        obtain⟨q,cs',hq,rfl,hm,htr⟩:=hrel;have HMq:=xN hm;have HTq:=xN htr;have HBq:=xN (yO HB3.o HB3.o.size hm.bel);have hsq:=htr.size;clear hm htr cy0 cy1 cy2 lb1 p0 p1 p2 p3 p4 p5 lb;have HYq:=xN (own_trnF HY8.o HTq.o (fun g hg=>by simp at hg;omega));obtain⟨p0,p1,p2,p3,p4,p5⟩:=pc6 HBq.o HL.o HCC.o;have lb:b<wr.heap.size:=zW HL.o HBq.o.size;obtain⟨cy0,cy1,cy2⟩:=pc3 HBq.o lty HCy.o;have lb1:b1<wr.heap.size:=zW hb1 HBq.o.size;by_cases hlq:q<y.zT.length
        rotate_left
        ·
         obtain rfl:q=y.zT.length:=by omega
         go_wp2
         go_roundw
         case rel=>exact⟨k+1,_,F8,cs',v8,by omega,by go_num,rfl,by rw[HSU.o];exact HMq.o⟩
         case measure=>simp[intOf];omega
        have hgq:=gE hlq;obtain⟨b2,off2,cs2,hA2,hb2,hcs2,hcell2⟩:=HXu2.o q y.zT[q] hgq;subst hA2;generalize y.zT[q]=z at *;have HGZ:=xN hgq;clear hgq;obtain rfl:=xV.yT (show T.rds _ _ _ by simpa only[xV.t,T.rd] using hcs2);obtain⟨s0,s1⟩:=oc2 HBq.o hb2 hcell2;clear hcs2 hcell2;have lb2:b2<wr.heap.size:=zW hb2 HBq.o.size;obtain⟨t0,t1,_⟩:=xBz HM.o HG.o q z HGZ.o;have HGNS:=xN (HNM.o.sends.each q z HGZ.o).2;obtain⟨toN,htoN⟩: ∃ q:Nat,z.yI=(q:Int):=⟨z.yI.toNat,by omega⟩;have htom:toN<x.zH.zC.length:=by omega
        obtain⟨l1,hl1,hl1d,hl1n,hl1s⟩:=(HSK.o q).get htom;obtain⟨wN,hwN⟩: ∃ q:Nat,xPz (wK x.zH) k y z=(q:Int):=⟨(xPz (wK x.zH) k y z).toNat,by have:=HWT.o q z HGZ.o;omega⟩;have hwb:=HWT.o q z HGZ.o;have hwb2:wN≤256:=by omega
        have hgw:(y.zT.map (xPz (wK x.zH) k y))[q]?=some (wN:Int):=by rw[List.getElem?_map,HGZ.o,←hwN];rfl
        have HSS:=xN (show yPz (zCz x nn (wR x nn k).1 k y) nn ((zKz x.zH).getD k []) y.zT (wR x nn k).1 (q+1)=(yPz (zCz x nn (wR x nn k).1 k y) nn ((zKz x.zH).getD k []) y.zT (wR x nn k).1 q).set toN (addS l1 (xMz (zCz x nn (wR x nn k).1 k y) wN nn) z.yB) by rw[zJy HGZ.o,htoN,Int.toNat_natCast,hl1d,HDK.o,List.getD_eq_getElem?_getD (l:=y.zT.map _),hgw];rfl);clear hl1d hwN hwb;obtain⟨bW,oW,csW,hAW,hbW,hcsW,hcellW⟩:=HDX3.o k _ HDE.o;subst hAW;obtain⟨vW,rfl⟩:=T.rd_one hcsW;have eW:=hcellW 0 vW rfl;rw[Nat.mul_one,Nat.add_zero] at eW;obtain⟨bQ,oQ,cQ,rfl,hcQ,hmQ,hbQ,hxQ⟩:=wP (T.xB.1 hcsW) (by rw[List.length_map];omega);rw[List.length_map] at *;have eQ:=hxQ q _ hgw;clear hxQ hcsW hcellW hgw;have HEW:=xN ((HMq.o.bel.cell hbW).trans eW);have HEQ:=xN ((HMq.o.bel.cell hbQ).trans eQ);clear eW eQ;obtain⟨vrj,hcj,hrj,-,-⟩:=HMq.o.cel.each _ _ hl1;have HRj:=xN hrj;have HCj:=xN ((HMq.o.cel.bk.cell toN).trans hcj);clear hrj hcj;have HL1:=xN hl1;have HL1s:=xN hl1s;clear hl1 hl1s;rw[htoN] at s0;have hto2:(toN:Int)<(x.zH.zC.length:Int):=by omega
        clear htoN t0 t1;go_wp2;have HDz:=xN ((Below.refl wr.heap.size wr).drew);have HWz:=xN (show wr.cell? ⟨b1,off+k * 3+2,none⟩=some (.slice (some ⟨b2,off2,none⟩) y.zT.length uc2)∧wr.cell? ⟨b2,off2+q * 2+1,none⟩=some (.int .i64 z.yB)∧wr.cell? ⟨bi,toN,none⟩=some vrj∧wr.cell? ⟨bW,oW+k,none⟩=some (.slice (some ⟨bQ,oQ,none⟩) y.zT.length cQ)∧wr.cell? ⟨bQ,oQ+q,none⟩=some (.int .i64 (wN:Int)) from⟨cy2,s1,HCj.o,HEW.o,HEQ.o⟩);have HKZ:=xN (fun(w':World) (hw:Below wr.heap.size wr w')=>(⟨(hw.cell (World.block_lt_of_cell? _ _ HWz.o.1)).trans HWz.o.1,(hw.cell (World.block_lt_of_cell? _ _ HWz.o.2.1)).trans HWz.o.2.1,(hw.cell (World.block_lt_of_cell? _ _ HWz.o.2.2.1)).trans HWz.o.2.2.1,(hw.cell (World.block_lt_of_cell? _ _ HWz.o.2.2.2.1)).trans HWz.o.2.2.2.1,(hw.cell (World.block_lt_of_cell? _ _ HWz.o.2.2.2.2)).trans HWz.o.2.2.2.2⟩:w'.cell? ⟨b1,off+k * 3+2,none⟩=some (.slice (some ⟨b2,off2,none⟩) y.zT.length uc2)∧w'.cell? ⟨b2,off2+q * 2+1,none⟩=some (.int .i64 z.yB)∧w'.cell? ⟨bi,toN,none⟩=some vrj∧w'.cell? ⟨bW,oW+k,none⟩=some (.slice (some ⟨bQ,oQ,none⟩) y.zT.length cQ)∧w'.cell? ⟨bQ,oQ+q,none⟩=some (.int .i64 (wN:Int))));clear s0 s1 lb2 cy0 cy1 cy2 lb1 p0 p1 p2 p3 p4 p5 lb;refine zEz (fun w'=>w'.cell? ⟨b1,off+k * 3+2,none⟩=some (.slice (some ⟨b2,off2,none⟩) y.zT.length uc2)∧w'.cell? ⟨b2,off2+q * 2+1,none⟩=some (.int .i64 z.yB)∧w'.cell? ⟨bi,toN,none⟩=some vrj∧w'.cell? ⟨bW,oW+k,none⟩=some (.slice (some ⟨bQ,oQ,none⟩) y.zT.length cQ)∧w'.cell? ⟨bQ,oQ+q,none⟩=some (.int .i64 (wN:Int))) 26 (by kernel_rfl) ?_ (fun hS0=>?_)
        ·exact HKZ.o _ HDz.o
        generalize hwdz:wr.drew=wz at *;clear hwdz;refine zE 0 hS0 ?_;refine zE 1 hS0 ?_;refine zE 2 hS0 ?_;refine zE 3 hS0 ?_;refine zE 4 hS0 ?_;refine zE 5 hS0 ?_;refine zE 6 hS0 ?_;refine zE 7 hS0 ?_;refine zE 8 hS0 ?_;refine zE 9 hS0 ?_;refine zE 10 hS0 ?_;refine zE 11 hS0 ?_;refine zE 12 hS0 ?_;refine zE 13 hS0 ?_;refine zE 14 hS0 ?_;refine zE 16 hS0 ?_;refine zE 17 hS0 ?_;refine zE 18 hS0 ?_;refine zE 19 hS0 ?_;refine zE 20 hS0 ?_;refine zE 21 hS0 ?_;refine zE 22 hS0 ?_;refine zE 23 hS0 ?_;refine pE 15 (fun K hK=>?_);go_simp;go_wp2_with (go_at_call 113;refine(c_l27Late _ (zCz x nn (wR x nn k).1 k y) wN nn _ (RdI.below (OwI.rd HYq.o) HDz.o) (by rw[HYL.o.1];omega) zM zM).mono ?_;rintro e w9 ⟨v9,rfl,ho,hb⟩)
        have HY9:=xN (OwI.rd ho);have HD9:=xN (yO HDz.o HDz.o.size hb);clear ho hb;refine uE hK ?_ (fun hS1=>?_)
        ·exact HKZ.o _ HD9.o
        clear hK K hS0;refine pE 24 (fun K hK=>?_);go_simp;go_wp2_with (go_at_call 112;refine(c_l03Add _ _ l1 _ z.yB _ (RdI.below HRj.o HD9.o) HY9.o HL1s.o (smp_lateF HYL.o.2) HGNS.o zM (by rw[xNz];omega)).mono ?_;rintro e w10 ⟨v10,rfl,ho,hb⟩)
        have HO10:=xN ho;have HD10:=xN (yO HD9.o HD9.o.size hb);have HZ10:=xN HD9.o.size;clear ho hb;refine uE hK ?_ (fun hS2=>?_)
        ·exact HKZ.o _ HD10.o
        clear hK K hS1;refine zE 25 hS2 ?_;refine qE ?_;obtain⟨zA,zl,zc,rfl⟩: ∃ A l c,v10= .slice A l c:=by obtain⟨A,c,e,_⟩:=(OwI.rd HO10.o).open_;exact⟨A,_,c,e⟩
        have HM10:=xN (HMq.o.below HD10.o);have HT10:=xN (HTq.o.trans (Trn.of_below HD10.o));have ck:=(HM10.o.cel.bk.cell toN);obtain⟨vq,hq1,-⟩:=HM10.o.cel.each _ _ HL1.o;rw[hq1] at ck;have fr:=HM10.o.cel.bk.free toN;have lc:=HM10.o.cel.bk.lt;clear hq1;go_wp2
        go_roundw
        case rel=>exact⟨q+1,_,by omega,by go_num,by rw[HSS.o];exact HM10.o.put HL1.o (OwI.rd HO10.o) (fun g hg e=>by have h:=(HO10.o.lt _ e).1;have h2:=HMq.o.alt g hg;have h3:=HZ10.o;omega) (fun g hg=>(HO10.o.lt g hg).2),HT10.o.trans (Trn.set_ (g:=bi) (by simp) toN (.slice zA zl zc))⟩
        case measure=>simp[intOf];omega
      have HTAIL:=xN @TAIL;clear TAIL hK2;refine(c_l27None pe bE (oE+k * 4) _ (T.at_below HApe.o HB.o)).mono ?_;rintro e w6 ⟨rfl,hb⟩;have HM6:=xN (HMk.o.below hb);have HR6:=xN (RdI.below HRi.o hb);have HB6:=xN (yO HB.o HB.o.size hb);clear hb ci lbi HMk HRi HCi cy0 cy1 cy2 lb1 p0 p1 p2 p3 p4 p5 lb;by_cases he:pe=uO
      ·
       rw[xI he];have HYE:=xN (show zCz x nn (wR x nn k).1 k y=xMz l0 lN nn by unfold zCz;rw[HED.o,HL0d.o,HLN.o,Int.toNat_natCast];unfold effF;rw[if_pos he]);go_wp2;exact HTAIL.o l0 _ HM6.o HR6.o HB6.o hl0n HYE.o
      rw[xH he];obtain⟨hpo,hpi,hpu⟩:vZ pe∧pe.zU=1∧pe.zX.length=1:=by rcases HEOK.o with h|h<;>first|exact absurd h he|exact h
      have HYE:=xN (show zCz x nn (wR x nn k).1 k y=xMz (rowF pe l0 nn) lN nn by unfold zCz;rw[HED.o,HL0d.o,HLN.o,Int.toNat_natCast,yWy hpu he]);have HPO:=xN hpo;have HPI:=xN hpi;have HPU:=xN hpu;clear hpo hpi hpu he;obtain⟨p0,p1,p2,p3,p4,p5⟩:=pc6 HB6.o HL.o HCC.o;have lb:b<w6.heap.size:=zW HL.o HB6.o.size;have HAl:=xN (show Below w6.heap.size w6 (w6.alloc (.cells #[.slice iA il ic] 26)) from zR.alloc zJ _);go_wp2_with fail
      refine(c_l08Render pe bE (oE+k * 4) _ l0 nn _ HPO.o HPI.o HPU.o HL0s.o zM (rd_row1 (Bk.born _ _ _) (RdI.below HR6.o HAl.o)) (T.at_below HApe.o (yO HB6.o HB6.o.size HAl.o))).mono ?_;rintro e w9 ⟨vR,rfl,hr,hb⟩;have HBl:=xN (yO HAl.o HAl.o.size hb);have HMt:=xN (HM6.o.below HBl.o);have HBt:=xN (yO HB6.o HB6.o.size HBl.o);have HT3s:=xN HMt.o.bel.size;clear hb HM6 HR6 HB6 p0 p1 p2 p3 p4 p5 lb;obtain⟨RA,rcap,rfl,-,-,rx⟩:=T.yS (xs:= [rowF pe l0 nn]) hr;obtain⟨bR,oR,csR,hAR,hbR,hcsR,hcellR⟩:=rx 0 _ rfl;subst hAR;obtain⟨vR,rfl⟩:=T.rd_one hcsR;have eR:=hcellR 0 vR rfl;simp only[Nat.zero_mul,Nat.add_zero] at eR;have HRt:=xN (T.xB.1 hcsR);have HAL:=xN (zHy pe l0 nn);clear hcsR hcellR rx hr;go_wp2;exact HTAIL.o (rowF pe l0 nn) _ HMt.o HRt.o HBt.o HAL.o HYE.o
    -- a round of the tracks
    have hgk:=gE hlt;obtain⟨b1,off,csy,hA,hb1,hcs,hcell⟩:=HX2.o k x.zG[k] hgk;subst hA;generalize x.zG[k]=y at *;have HG:=xN hgk;clear hgk;have HAy:=xN (T.at_elem (o:=off+k) hb1 (show T.rds w y.fs csy by simpa only[xS.t,T.rd] using hcs) hcell zM);clear hcs hcell;clear p0 p1 p2 p3 p4 p5 lb;have hlf:k<x.zL.length:=by have:=HFL.o;omega
    have hgf:=gE hlf;obtain⟨bF,oF,hAF,hbF,hcF⟩:=HX3.o k _ hgf;have hfd:=HSO.o.feeds k _ hgf;subst hAF;obtain⟨p0,p1,p2,p3,p4,p5⟩:=pc6 HB.o HL.o HCC.o;have lb:b<wr.heap.size:=zW HL.o HB.o.size;generalize x.zL[k]=fd at *;have HFD:=xN hgf;have cF:=(HB.o.cell hbF).trans hcF;have lF:bF<wr.heap.size:=zW hbF HB.o.size;clear hgf hcF;have HTO:=xN (HSO.o.tracks k y HG.o);obtain⟨fN,hfN⟩: ∃ q:Nat,fd=(q:Int):=⟨fd.toNat,by omega⟩;subst hfN;have hfm:fN<x.zH.zC.length:=by omega
    have hkf:(k:Int)<(x.zL.length:Int):=by have:=HFL.o;omega
    obtain⟨lty,csy',hry,hcy⟩:=HAy.o;obtain⟨u0,rfl,hu0⟩:=xS.yT hry;have Ru0:=xN hu0;obtain⟨ua0,uc0,rfl,ul0,um0,ux0⟩:=T.yS hu0;have HXu0:=xN ux0;clear ux0 hu0;have HCy:=xN hcy;clear hry hcy;have cy0:=pc1 HB.o lty HCy.o;have lb1:b1<wr.heap.size:=zW hb1 HB.o.size;have HYR:=xN (show T.rds wr y.fs [.slice ua0 y.zS.length uc0] from xS.rd_mk (T.yJ Ru0.o HB.o));go_wp2;have HDr:=xN ((Below.refl wr.heap.size wr).drew);have HWr:=xN (show wr.cell? ⟨b,o,none⟩=some (.int .i64 x.zB)∧wr.cell? ⟨b,o+1,none⟩=some (.slice va1 x.zI.length vc1)∧wr.cell? ⟨b,o+2,none⟩=some (.slice (some ⟨b1,off,none⟩) x.zG.length vc2)∧wr.cell? ⟨b1,off+k,none⟩=some (.slice ua0 y.zS.length uc0) from⟨p0,p1,p2,cy0⟩);have HKP:=xN (fun(w':World) (hw:Below wr.heap.size wr w')=>(⟨(hw.cell lb).trans HWr.o.1,(hw.cell lb).trans HWr.o.2.1,(hw.cell lb).trans HWr.o.2.2.1,(hw.cell lb1).trans HWr.o.2.2.2⟩:w'.cell? ⟨b,o,none⟩=some (.int .i64 x.zB)∧w'.cell? ⟨b,o+1,none⟩=some (.slice va1 x.zI.length vc1)∧w'.cell? ⟨b,o+2,none⟩=some (.slice (some ⟨b1,off,none⟩) x.zG.length vc2)∧w'.cell? ⟨b1,off+k,none⟩=some (.slice ua0 y.zS.length uc0)));have HBr:=xN HB.o;have hlb:=lb;refine wG (fun w'=>w'.cell? ⟨b,o,none⟩=some (.int .i64 x.zB)∧w'.cell? ⟨b,o+1,none⟩=some (.slice va1 x.zI.length vc1)∧w'.cell? ⟨b,o+2,none⟩=some (.slice (some ⟨b1,off,none⟩) x.zG.length vc2)∧w'.cell? ⟨b1,off+k,none⟩=some (.slice ua0 y.zS.length uc0)) [] (by kernel_rfl) ?_ (fun hS0=>?_)
    ·exact HKP.o _ HDr.o
    generalize hwd:wr.drew=wd at *;clear hwd;have HBd:=xN (yO HBr.o HBr.o.size HDr.o);refine zN 0 hS0 ?_;refine zN 1 hS0 ?_;refine zN 2 hS0 ?_;refine zN 3 hS0 ?_;refine zN 4 hS0 ?_;refine zN 5 hS0 ?_;refine zN 6 hS0 ?_;refine zN 7 hS0 ?_;refine zN 8 hS0 ?_;refine zN 9 hS0 ?_;refine zN 10 hS0 ?_;refine zN 11 hS0 ?_;refine zN 12 hS0 ?_;refine zN 13 hS0 ?_;refine zN 14 hS0 ?_;refine pN 15 (fun K hK=>?_);go_simp;go_wp2_with (go_at_call 111;refine(c_sRenderTrack' y _ x.zI _ lenN _ HLEN.o HTO.o.1 HSRC.o HTO.o.2 zM (T.yJ R1.o HBd.o) (T.rds_below HYR.o HDr.o)).mono ?_;rintro e w6 ⟨v6,rfl,ho,hb⟩)
    have HT6:=xN ho;have HD6:=xN (yO HDr.o HDr.o.size hb);clear ho hb;refine uN hK ?_ (fun hS1=>?_)
    ·exact HKP.o _ HD6.o
    clear hK K hS0;refine pN 16 (fun K hK=>?_);go_simp;refine uN hK ?_ (fun hS2=>?_)
    ·exact HKP.o _ HD6.o
    clear hK K hS1;refine zN 17 hS2 ?_;refine zN 18 hS2 ?_;refine pN 19 (fun K hK=>?_);go_simp;refine uN hK ?_ (fun hS3=>?_)
    ·exact HKP.o _ HD6.o
    clear hK K hS2;refine pN 20 (fun K hK=>?_);go_simp;refine uN hK ?_ (fun hS4=>?_)
    ·exact HKP.o _ HD6.o
    clear hK K hS3;refine qN ?_;clear hS4;have cF6:=(HD6.o.cell lF).trans cF;have lF6:bF<w6.heap.size:=zW lF HD6.o.size;have p3w:=(HD6.o.cell lb).trans p3;clear p0 p1 p2 p3 p4 p5 lb cF lF cy0;have lb:b<w6.heap.size:=zW hlb HD6.o.size;have htl:(yEz x.zI y lenN).length=lenN:=yOz _;have HTS:=xN (show ∀ q ∈ yEz x.zI y lenN,Smp q from fun q hq=>vGz _ q hq);obtain⟨l0,hl0,hl0d,hl0n,hl0s⟩:=(wYz HSO.o nn k).get hfm;obtain⟨tf,gtf,dtf,tf0,tf1⟩:=HENT.o fN hfm;obtain⟨tn,htn⟩: ∃ q:Nat,tf=(q:Int):=⟨tf.toNat,by omega⟩;subst htn;have HFS:=xN (show zIz x nn (k+1)=(zIz x nn k).set fN (addS l0 (xMz (yEz x.zI y lenN) tn nn) 1) by rw[zIy HG.o HFD.o,Int.toNat_natCast,hl0d,dtf,Int.toNat_natCast,HLEN.o,Int.toNat_natCast]);clear hl0d dtf;generalize yEz x.zI y lenN=sg at *;have HL0:=xN hl0;have HL0s:=xN hl0s;clear hl0 hl0s;have HM6:=xN (HMk.o.below HD6.o);obtain⟨vri,hci,hri,-,-⟩:=HM6.o.cel.each _ _ HL0.o;have HRi:=xN hri;have HCi:=xN ((HM6.o.cel.bk.cell fN).trans hci);clear hri hci;have HTF:=xN ((HM6.o.bel.cell hbT3).trans (HTC3.o _ _ gtf));clear gtf;go_wp2;have HDs:=xN ((Below.refl w6.heap.size w6).drew);have HW8:=xN (And.intro HCi.o HTF.o);have HKQ:=xN (fun(w':World) (hw:Below w6.heap.size w6 w')=>(⟨(hw.cell (World.block_lt_of_cell? _ _ HW8.o.1)).trans HW8.o.1,(hw.cell (World.block_lt_of_cell? _ _ HW8.o.2)).trans HW8.o.2⟩:w'.cell? ⟨bi,fN,none⟩=some vri∧w'.cell? ⟨bT,oT+fN,none⟩=some (.int .i64 (tn:Int))));refine zEz (fun w'=>w'.cell? ⟨bi,fN,none⟩=some vri∧w'.cell? ⟨bT,oT+fN,none⟩=some (.int .i64 (tn:Int))) 15 (by kernel_rfl) ?_ (fun hS0=>?_)
    ·exact HKQ.o _ HDs.o
    generalize hwd2:w6.drew=we at *;clear hwd2;clear lb p3w cF6 lF6;refine zE 0 hS0 ?_;refine zE 1 hS0 ?_;refine zE 2 hS0 ?_;refine zE 3 hS0 ?_;refine zE 4 hS0 ?_;refine zE 5 hS0 ?_;refine zE 6 hS0 ?_;refine zE 7 hS0 ?_;refine zE 8 hS0 ?_;refine zE 9 hS0 ?_;refine zE 10 hS0 ?_;refine zE 11 hS0 ?_;refine pE 12 (fun K hK=>?_);go_simp;go_wp2_with (go_at_call 113;refine(c_l27Late _ sg tn nn _ (RdI.below (OwI.rd HT6.o) HDs.o) zM zM zM).mono ?_;rintro e w9 ⟨v9,rfl,ho,hb⟩)
    have HY9:=xN (OwI.rd ho);have HD9:=xN (yO HDs.o HDs.o.size hb);clear ho hb;refine uE hK ?_ (fun hS1=>?_)
    ·exact HKQ.o _ HD9.o
    clear hK K hS0;refine pE 13 (fun K hK=>?_);go_simp;go_wp2_with (go_at_call 112;refine(c_l03Add _ _ l0 _ 1 _ (RdI.below HRi.o HD9.o) HY9.o HL0s.o (smp_lateF HTS.o) ⟨by decide,by decide⟩ zM (by rw[xNz];omega)).mono ?_;rintro e w10 ⟨v10,rfl,ho,hb⟩)
    have HO10:=xN ho;have HD10:=xN (yO HD9.o HD9.o.size hb);have hs10:=HD9.o.size;clear ho hb;refine uE hK ?_ (fun hS2=>?_)
    ·exact HKQ.o _ HD10.o
    clear hK K hS1;refine zE 14 hS2 ?_;refine qE ?_;obtain⟨zA,zl,zc,rfl⟩: ∃ A l c,v10= .slice A l c:=by obtain⟨A,c,e,_⟩:=(OwI.rd HO10.o).open_;exact⟨A,_,c,e⟩
    have HM10:=xN (HM6.o.below HD10.o);have ck:=(HM10.o.cel.bk.cell fN);obtain⟨vq,hq1,-⟩:=HM10.o.cel.each _ _ HL0.o;rw[hq1] at ck;have fr:=HM10.o.cel.bk.free fN;have lc:=HM10.o.cel.bk.lt;clear hq1;have hlb8:=HM6.o.cel.bk.lt;go_wp2
    go_roundw
    case rel=>exact⟨k+1,_,by omega,by go_num,by rw[HFS.o];exact HM10.o.put HL0.o (OwI.rd HO10.o) (fun q hq e=>by simp at hq;subst hq;have h:=(HO10.o.lt _ e).1;omega) (fun q hq=>(HO10.o.lt q hq).2)⟩
    case measure=>simp[intOf];omega
  -- a round of the inputs
  go_wp2_with (first|(go_at_call 110;refine(vIz nn _ zM).mono ?_;rintro e w6 ⟨v6,rfl,ho,hb⟩;obtain⟨zA,zl,zc,rfl⟩: ∃ A l c,v6= .slice A l c:=(by obtain⟨A,c,e,_⟩:=(OwI.rd ho).open_;exact⟨A,_,c,e⟩);have HN6:=xN (Nv.ints ho hb);have HO6:=xN (HO.o.all hb);have HBw6:=xN (yO HBw.o HBw.o.size hb);have hb6:=hb.size;clear ho hb)|(at_builtin;refine yJz rfl _ _ _ rfl w3.heap.size 26 _ 1 24 Tryz.underlying24 zDz rfl zM rfl HO6.o HN6.o.ow HN6.o.nodup (fun b hb=>by have h:=HN6.o.lo b hb;omega) (fun b hb hb2=>by have h1:=HO.o.lt b hb;have h2:=HN6.o.lo b hb2;omega) rfl rfl (by rw[List.length_map,List.length_replicate];omega) (by rw[List.length_map,List.length_replicate];omega) HBw6.o.size ?_;intro v8 w8 F8 ho8 hg8 hv8;have HO8:=xN ho8;have HB8:=xN (HO6.o.below HBw6.o HBw6.o.size hg8);clear ho8 hg8 hv8))
  go_roundw
  case rel=>exact⟨k+1,F8,by omega,by go_num,by rw[List.replicate_succ',List.map_append];exact HO8.o,HB8.o⟩
  case measure=>simp[intOf];omega
end
section
open Go.RowKit
theorem c_l03Slice' (v:Value) (xs:List Int) (f:Int) (n:Nat) (w:World) {N:Int} (hN:N=(n:Int)) (h0: -1048576≤f) (h1:f≤1048576) (hn:n≤1048576) (hr:RdI w v xs):Calls Tryz.prog 74 #[v,.int .i64 f,.int .i64 N] w fun e w'=> ∃ v',e= .returned v'∧OwI 2 w' w.heap.size v' (cutL xs f n)∧Below w.heap.size w w':=by
 subst hN;exact c_l03Slice v xs f n w h0 h1 hn hr
theorem c_l27Mix (x:xO) (b o:Nat) (w:World) (hS:xW x) (hg:x.good) (h:T.at w x.fs b o):Calls Tryz.prog 34 #[.pointer (some ⟨b,o,none⟩)] w fun e w'=> ∃ v,e= .returned v∧OwI 2 w' w.heap.size v (mixF x)∧Below w.heap.size w w':=by
 have HAT:=xN h;obtain⟨hlt0,cs,hr,hc⟩:=h;obtain⟨v1,v2,v3,v4,v5,rfl,h1,h2,h3,h4,h5⟩:=xO.yT hr;clear hr;obtain⟨va1,vc1,rfl,vl1,vm1,R1,HX1⟩:=oG h1;clear h1;obtain⟨va2,vc2,rfl,vl2,vm2,R2,HX2⟩:=oG h2;clear h2;obtain⟨va3,vc3,rfl,vl3,vm3,R3,HX3⟩:=oI h3;clear h3;obtain⟨va4,vc4,rfl,vl4,vm4,R4,HX4⟩:=oG h4;clear h4;obtain⟨va5,vc5,rfl,vl5,vm5,R5,HX5⟩:=oG h5;clear h5;have HL:=xN hlt0;have HCC:=xN hc;have HB0:=xN (Below.refl w.heap.size w);clear hlt0 hc;have HSO:=xN hS;have hn8:x.zH.zC.length≤8:=hS.mixer.few;have hn1:1≤x.zH.zC.length:=hS.mixer.some_;have htot:=total_ok hS.mixer;have hle:=xK.1 hS.length;have HGD:=xN hg;obtain⟨lenN,hlen⟩: ∃ q:Nat,x.zB=(q:Int):=⟨x.zB.toNat,by omega⟩;have hl0:lenN≤1000:=by omega
 obtain⟨row,hrow,hrowd,-,-⟩:=(outsF_ok hS).get (show x.zH.zC.length - 1<x.zH.zC.length by omega);have HMX:=xN (show cutL row (zHz x.zH) lenN=mixF x by unfold mixF;rw[hrowd,hlen,Int.toNat_natCast]);have hol:=(outsF_ok hS).len;have HRY:=xN (ready_last hS.mixer);have hryl:=length_readyF x.zH;have HROW:=xN hrow;have HLEN:=xN hlen;clear hS hg hrow hrowd hlen;obtain⟨m1,hm1⟩: ∃ m1:Nat,x.zH.zC.length - 1=m1:=⟨_,rfl⟩;rw[hm1] at HROW HRY;have hm2:x.zH.zC.length=m1+1:=by omega
 have hwm:IntKind.i64.wrap ((x.zH.zC.length:Int) - 1)=(m1:Int):=by rw[IntWalk.i64_in _ zM];omega
 have HM2:=xN hm2;have hm3:m1<x.zH.zC.length:=by omega
 clear hm1 hm2;have HATM:=xN (show T.at w x.zH.fs b (o+5) from T.at_sub [.int .i64 x.zB,.slice va1 x.zI.length vc1,.slice va2 x.zG.length vc2,.slice va3 x.zL.length vc3,.slice va4 x.zK.length vc4] [.slice va5 x.zH.zC.length vc5] [] HL.o HCC.o (vF.rd_mk R5.o));obtain⟨p0,p1,p2,p3,p4,p5⟩:=pc6 HB0.o HL.o HCC.o;have lb:b<w.heap.size:=zW HL.o HB0.o.size
 go_enter Tryz.func34,Tryz.ntmps34
 go_wp2_with fail
 refine(c_l27Outputs x b o _ HSO.o HGD.o HAT.o).mono ?_;rintro e w1 ⟨vo,rfl,ho,hb⟩;have HB1:=xN hb;clear hb p0 p1 p2 p3 p4 p5 lb;obtain⟨oA,ocap,rfl,-,-,ox⟩:=T.yS ho;rw[hol] at *;obtain⟨bo,oo,cso,hAo,hbo,hcso,hcello⟩:=ox _ _ HROW.o;subst hAo;obtain⟨vrow,rfl⟩:=T.rd_one hcso;have eo:=hcello 0 vrow rfl;rw[Nat.mul_one,Nat.add_zero] at eo;have HRR:=xN (T.xB.1 hcso);have HEO:=xN eo;clear hcso hcello eo ox ho;obtain⟨p0,p1,p2,p3,p4,p5⟩:=pc6 HB1.o HL.o HCC.o;have lb:b<w1.heap.size:=zW HL.o HB1.o.size;go_wp2;have HDr:=xN ((Below.refl w1.heap.size w1).drew);have HWd:=xN (show w1.cell? ⟨b,o,none⟩=some (.int .i64 x.zB)∧w1.cell? ⟨bo,oo+m1,none⟩=some vrow from⟨p0,HEO.o⟩);have HKP:=xN (fun(w':World) (hw:Below w1.heap.size w1 w')=>(⟨(hw.cell (World.block_lt_of_cell? _ _ HWd.o.1)).trans HWd.o.1,(hw.cell (World.block_lt_of_cell? _ _ HWd.o.2)).trans HWd.o.2⟩:w'.cell? ⟨b,o,none⟩=some (.int .i64 x.zB)∧w'.cell? ⟨bo,oo+m1,none⟩=some vrow));clear p0 p1 p2 p3 p4 p5 lb;refine wG (fun w'=>w'.cell? ⟨b,o,none⟩=some (.int .i64 x.zB)∧w'.cell? ⟨bo,oo+m1,none⟩=some vrow) [] (by kernel_rfl) ?_ (fun hS0=>?_)
 ·exact HKP.o _ HDr.o
 generalize hwd:w1.drew=wd at *;clear hwd;refine zN 0 hS0 ?_;refine zN 1 hS0 ?_;refine zN 2 hS0 ?_;refine zN 3 hS0 ?_;refine zN 4 hS0 ?_;refine zN 5 hS0 ?_;refine zN 6 hS0 ?_;refine zN 7 hS0 ?_;refine zN 8 hS0 ?_;refine zN 10 hS0 ?_;refine zN 11 hS0 ?_;refine zN 12 hS0 ?_;refine zN 13 hS0 ?_;refine pN 9 (fun K hK=>?_);go_simp;go_wp2_with (go_at_call 75;refine(c_l26Total x.zH b (o+5) _ HSO.o.mixer (show x.zH.good from HGD.o.2.2.2.2.2) (T.at_below HATM.o (yO HB1.o HB1.o.size HDr.o))).mono ?_;rintro e w2 ⟨rfl,hb⟩)
 have HD2:=xN (yO HDr.o HDr.o.size hb);clear hb;refine uN hK ?_ (fun hS1=>?_)
 ·exact HKP.o _ HD2.o
 clear hK K hS0;refine pN 14 (fun K hK=>?_);go_simp;go_wp2_with (go_at_call 74;refine(c_l03Slice' _ row (zHz x.zH) lenN _ HLEN.o zM zM zM (RdI.below HRR.o HD2.o)).mono ?_;rintro e w3 ⟨v2,rfl,ho,hb⟩)
 have HO3:=xN (OwI.more ho (Nat.le_trans HB1.o.size HD2.o.size));have HD3:=xN (yO HD2.o HD2.o.size hb);clear ho hb;refine uN hK ?_ (fun hS2=>?_)
 ·exact HKP.o _ HD3.o
 clear hK K hS1;refine pN 15 (fun K hK=>?_);go_simp;refine uN hK ?_ (fun hS3=>?_)
 ·exact HKP.o _ HD3.o
 clear hK K hS2;refine qN ?_;clear hS3;go_wp2;go_ret
 exact⟨_,rfl,by rw[←HMX.o];exact HO3.o,yO HB1.o HB1.o.size HD3.o⟩
end
section
open Go.RowKit
def Agr (D:Int→Prop) (d:Int) (a b:List Int):Prop:= ∀ i,¬ D (i - d)→wM a i=wM b i
theorem Agr.refl (D:Int→Prop) (d:Int) (a:List Int):Agr D d a a:=fun _ _=>rfl
theorem smpAt_map {n:Nat} {f:Nat→Int} {i:Int} :wM ((List.range n).map f) i=if 0≤i∧i<(n:Int) then f i.toNat else 0:=by
 unfold wM;rw[List.length_map,List.length_range]
 split
 ·next h=>rw[List.getD_eq_getElem?_getD,List.getElem?_map,List.getElem?_range zM];rfl
 ·rfl
theorem smpAt_get {a:List Int} {i:Nat} :wM a (i:Int)=a.getD i 0:=by
 by_cases h:i<a.length
 ·unfold wM;rw[if_pos ⟨by omega,by omega⟩,Int.toNat_natCast]
 ·rw[vUz zM,List.getD_eq_getElem?_getD,List.getElem?_eq_none zM];rfl
theorem yNy (a:List Int) (f:Int) (n:Nat) (i:Int):wM (cutL a f n) i=if 0≤i∧i<(n:Int) then wM a (f+i) else 0:=by
 unfold cutL;rw[smpAt_map]
 split
 ·next h=>rw[show f+((i.toNat:Nat):Int)=f+i by omega]
 ·rfl
theorem smpAt_lead (a:List Int) (b:Nat) (i:Int):wM (List.replicate b 0++a) i=wM a (i - (b:Int)):=by
 unfold wM;rw[List.length_append,List.length_replicate];by_cases h0:0≤i
 ·by_cases h1:i<(b:Int)
  ·rw[if_neg (show ¬ (0≤i - (b:Int)∧i - (b:Int)<(a.length:Int)) by omega)]
   split
   ·rw[List.getD_eq_getElem?_getD,List.getElem?_append_left (by rw[List.length_replicate];omega),List.getElem?_replicate]
    split<;>rfl
   ·rfl
  ·by_cases h2:i - (b:Int)<(a.length:Int)
   ·rw[if_pos ⟨h0,by omega⟩,if_pos ⟨by omega,h2⟩,List.getD_eq_getElem?_getD,List.getElem?_append_right (by rw[List.length_replicate];omega),List.length_replicate,List.getD_eq_getElem?_getD,show i.toNat - b=(i - (b:Int)).toNat by omega]
   ·rw[if_neg zM,if_neg zM]
 ·rw[if_neg zM,if_neg zM]
theorem zLy (a:List Int) (b n:Nat) (i:Int):wM (xMz a b n) i=if 0≤i∧i<(n:Int) then wM a (i - (b:Int)) else 0:=by
 unfold xMz;rw[yNy,Int.zero_add,smpAt_lead]
theorem wrp_zero:wrp 0=0:=xVz vCz
theorem yOy (a b:List Int) (g:Int) (i:Int):wM (addS a b g) i=wrp (wM a i+g * wM b i):=by
 unfold addS;rw[smpAt_map]
 split
 ·next h=>rw[show ((i.toNat:Nat):Int)=i by omega]
 ·next h=>rw[vUz zM,vUz zM,Int.mul_zero,Int.add_zero,wrp_zero]
section
variable {D:Int→Prop} {d:Int} {a b a' b':List Int}
theorem Agr.add (h:Agr D d a a') (h2:Agr D d b b') (g:Int):Agr D d (addS a b g) (addS a' b' g):=fun i hi=>by
 rw[yOy,yOy,h i hi,h2 i hi]
theorem Agr.late (h:Agr D d a a') (w n:Nat):Agr D (d+(w:Int)) (xMz a w n) (xMz a' w n):=fun i hi=>by
 rw[zLy,zLy]
 split
 ·exact h _ (by rwa [show i - (w:Int) - d=i - (d+(w:Int)) by omega])
 ·rfl
theorem Agr.mono {D':Int→Prop} (h:Agr D d a b) (hd: ∀ i,D i→D' i):Agr D' d a b:=fun i hi=>h i (fun e=>hi (hd _ e))
end
theorem xBy {p:xQ} {y z:List Int} (t:Nat): ∀ k,k≤t+1→(∀ u:Nat,u≤t→wM y (u:Int)=wM z (u:Int))→zUz p [y] k=zUz p [z] k
 |0,_,_=>rfl
 |k+1,hk,h=>by
  have ih:=xBy (p:=p) t k zM h;have hf:yDz [y] k=yDz [z] k:=by unfold yDz;simp only[List.map_cons,List.map_nil];rw[h k zM]
  simp only[zUz,ih,hf]
theorem vals_causal {p:xQ} {y z:List Int} {t:Nat} (h: ∀ u:Nat,u≤t→wM y (u:Int)=wM z (u:Int)):yKz p [y] t=yKz p [z] t:=by
 have hf:yDz [y] t=yDz [z] t:=by unfold yDz;simp only[List.map_cons,List.map_nil];rw[h t zJ]
 unfold yKz;rw[xBy t t zM h,hf]
theorem zMy {p:xQ} (hp:vZ p) (hs:uU p=false) {i:Nat} {x:xR} (hx:p.zF[i]?=some x):wW x= []∧ ∀ ins s o,wF x ins s o= []:=by
 have h1:(vI x).length=0:=by
  unfold uU at hs;rw[List.any_eq_false] at hs;have:=hs x (List.mem_of_getElem? hx);simp only[decide_eq_true_eq] at this
  omega
 have h2:wW x=vI x:=rfl;have h3:wW x= []:=by rw[h2];exact List.eq_nil_of_length_eq_zero h1
 refine⟨h3,fun ins s o=>?_⟩;obtain⟨ok,_,_⟩:=hp.formed.nodes i x hx;unfold wW at h3;unfold wF;by_cases e6:x.zD=6
 ·have h1:=xEz ok 6 e6 (lo:=1) (hi:=16) rfl rfl (by decide)
  rw[if_pos e6] at h3;have:=congrArg List.length h3;rw[List.length_replicate] at this;simp at this
  omega
 by_cases e17:x.zD=17
 ·have hb:=ok.b
  rw[e17,if_pos (by rfl)] at hb;have hb:=xK.1 hb;rw[if_neg e6,if_pos e17] at h3;have:=congrArg List.length h3;rw[List.length_replicate] at this;simp at this
  omega
 rw[if_neg e6,if_neg e17] at h3
 split at h3
 ·exact absurd h3 (by simp)
 ·next e=>
  split at h3
  ·exact absurd h3 (by simp)
  ·next e2=>
   rw[if_neg e6,if_neg e17,if_neg (fun h=>e (.inl h)),if_neg (fun h=>e (.inr (.inr h))),if_neg (fun h=>e (.inr (.inl h))),if_neg (fun h=>e2 (.inl h)),if_neg (fun h=>e2 (.inr h))]
theorem uRz {p:xQ} (hp:vZ p) (hs:uU p=false) (ins:List (List Int)): ∀ t,zUz p ins t=p.zF.map fun _=> []
 |0=>by
  show p.zF.map wW=_
  apply List.map_congr_left
  intro x hx;obtain⟨i,hi⟩:=List.mem_iff_getElem?.1 hx;exact(zMy hp hs hi).1
 |t+1=>by
  simp only[zUz]
  apply List.ext_getElem?
  intro i;unfold yUz;rw[List.getElem?_mapIdx,List.getElem?_map]
  cases hx:p.zF[i]? with
  |none=>rfl
  |some x=>simp only[Option.map_some];unfold cellN;rw[(zMy hp hs hx).2]
theorem vals_stateless {p:xQ} (hp:vZ p) (hs:uU p=false) {y z:List Int} {t:Nat} (h:wM y (t:Int)=wM z (t:Int)):yKz p [y] t=yKz p [z] t:=by
 have hf:yDz [y] t=yDz [z] t:=by unfold yDz;simp only[List.map_cons,List.map_nil];rw[h]
 unfold yKz;rw[uRz hp hs,uRz hp hs,hf]
theorem smpAt_rowF (p:xQ) (y:List Int) (n:Nat) (i:Int):wM (rowF p y n) i=if 0≤i∧i<(n:Int) then (yKz p [y] i.toNat).getD (p.zX.getD 0 0).toNat 0 else 0:=by
 unfold rowF;rw[smpAt_map]
def Ups (D:Int→Prop):Prop:= ∀ i j,D i→i≤j→D j
theorem Agr.eff {D:Int→Prop} {d:Int} {p:xQ} {y z:List Int} {n:Nat} (h:wEz p) (hd:Ups D∨uU p=false) (ha:Agr D d y z):Agr D d (effF p y n) (effF p z n):=by
 by_cases e:p=uO
 ·unfold effF;rw[if_pos e,if_pos e];exact ha
 ·rcases h with h|⟨h1,_,h3⟩
  ·exact absurd h e
  ·rw[yWy h3 e,yWy h3 e]
   intro i hi;rw[smpAt_rowF,smpAt_rowF]
   split
   ·next c=>
    rcases hd with hd|hd
    ·rw[vals_causal (fun u hu=>ha _ (fun e=>hi (hd _ _ e zM)))]
    ·rw[vals_stateless h1 hd (y:=y) (z:=z) (by rw[show ((i.toNat:Nat):Int)=i by omega];exact ha i hi)]
   ·rfl
end
end Go.Proofs.YtdcofkabaigjpaaGreat
