/- The law DiffSessions. -/
import Derived.Test.YtbgedljbgkcpiaaGreatDoorQBiExactDiffSessions
import Derived.Test.YtbgedljbgkcpiaaGreatDoorQAkExactDiffSessions
import Derived.Test.YtbgedljbgkcpiaaGreatDoorQAdExactDiffSessions
import Derived.LaidMore
import Derived.ProofKit
import Derived.OpenShut
import Derived.Deep.RegionHeld3
set_option linter.unusedVariables false
set_option linter.unusedSimpArgs false
set_option maxHeartbeats 8000000
set_option maxRecDepth 100000
namespace Go.Proofs.YtbgedljbgkcpiaaGreatDoor
open Go.RowKit
theorem c_szPatchS2 (v:Value) (xs:List GPatch) (n:Int) (w:World) (h0:0≤n) (h1:n≤1048576) (hg: ∀ y ∈ xs,GPatch.good y) (hr:T.rd w (T.sl 102 4 (xs.map GPatch.t)) [v]):
  Calls Tryz.prog 16 #[v,.int .i64 n] w fun e w'=> ∃ m:Int,e= .returned (.int .i64 m)∧ -1≤m∧m≤n∧(0≤m→smL GPatch.small xs∧m≤n - xs.length)∧Below w.heap.size w w':=by
 obtain⟨A,cap,rfl,hl,hc,hx⟩:=T.yM hr
 rw[List.length_map] at hl ⊢
 have HX:=hide hx;clear hx hr
 have HG:=hide hg;clear hg
 by_cases h4:n<xs.length
 ·go_enter Tryz.func16,Tryz.ntmps16
  go_wp2
  go_ret
  exact⟨-1,rfl,by omega,by omega,fun h=>by omega,Below.refl _ _⟩
 ·go_enter Tryz.func16,Tryz.ntmps16
  go_wp2
  go_loopw [1,5] (fun t iv wr=> ∃ (k:Nat) (m:Int),k≤xs.length∧iv= .int .i64 (k:Int)∧t= .int .i64 m∧0≤m∧m≤n - xs.length∧(∀ y ∈ xs.take k,(GPatch.small) y)∧Below w.heap.size w wr) (fun _ iv _=>xs.length - (intOf iv).toNat)
  case atStart=>exact⟨0,_,Nat.zero_le _,rfl,rfl,by omega,by omega,by simp,Below.refl _ _⟩
  case round=>
   obtain⟨k,m,hk,rfl,rfl,hm0,hm1,ha,hb⟩:=hrel
   have HA:=hide ha;have HB:=hide hb;clear ha hb
   by_cases hlt:k<xs.length
   ·have hgk:=List.getElem?_eq_getElem hlt
    obtain⟨b,off,cs,rfl,hbw,hcs,hcell⟩:=HX.out k (GPatch.t xs[k]) (by rw[List.getElem?_map,hgk];rfl)
    have hgd:=HG.out _ (List.getElem_mem hlt)
    generalize xs[k]=x at *
    have HGK:=hide hgk;clear hgk
    obtain⟨v1,v2,v3,rfl,hR1,hR2,hR3⟩:=GPatch.yM (show T.rds _ _ _ by simpa only[GPatch.t,T.rd] using hcs)
    have d0:=(HB.out.cell hbw).trans (hcell 0 (.int .i64 x.zJ) rfl)
    have d1:=(HB.out.cell hbw).trans (hcell 1 (v1) rfl)
    have d2:=(HB.out.cell hbw).trans (hcell 2 (v2) rfl)
    have d3:=(HB.out.cell hbw).trans (hcell 3 (v3) rfl)
    rw[show off+(k * 4+0)=off+k * 4 by omega] at d0
    rw[show off+(k * 4+1)=off+k * 4+1 by omega] at d1
    rw[show off+(k * 4+2)=off+k * 4+2 by omega] at d2
    rw[show off+(k * 4+3)=off+k * 4+3 by omega] at d3
    have R1:=hide (T.yD hR1 HB.out);clear hR1
    have R2:=hide (T.yD hR2 HB.out);clear hR2
    have R3:=hide (T.yD hR3 HB.out);clear hR3
    clear hcs hcell
    go_wp2_with fail
    refine(c_szPatch x v1 v2 v3 m _ hm0 (by omega) hgd R1.out R2.out R3.out).mono ?_;rintro e w3 ⟨q,rfl,hq0,hq1,hq2,hb3⟩
    have HB3:=hide (yH HB.out HB.out.size hb3);clear hb3
    rcases Int.lt_or_le q 0 with hneg|hpos
    ·have hq:=hq2;clear hq2
     go_wp2
     go_ret
     exact⟨-1,rfl,by omega,by omega,fun h=>by omega,HB3.out⟩
    ·have HQ:=hide (hq2 hpos);clear hq2
     go_wp2
     go_roundw
     case rel=>exact⟨k+1,q,by omega,by go_num,rfl,by omega,by omega,all_take HA.out HGK.out HQ.out,HB3.out⟩
     case measure=>simp[intOf];omega
   ·obtain rfl:k=xs.length:=by omega
    go_wp2
    go_ret
    exact⟨m,rfl,by omega,by omega,fun _=>⟨⟨by omega,all_full HA.out⟩,by omega⟩,HB.out⟩
theorem c_szSession2 (x:GSession) (v1:Value) (v2:Value) (v3:Value) (v4:Value) (v5:Value) (n:Int) (w:World) (h0:0≤n) (h1:n≤1048576) (hg:x.good) (r1:T.rd w (T.sl 24 1 (x.zM.map (T.ints 2))) [v1]) (r2:T.rd w (T.sl 98 1 (x.zO.map GTrack.t)) [v2]) (r3:T.rd w (T.ints 2 x.zU) [v3]) (r4:T.rd w (T.sl 102 4 (x.zP.map GPatch.t)) [v4]) (r5:T.rd w (T.sl 117 3 (x.zW.zH.map GStrip.t)) [v5]):
  Calls Tryz.prog 4 #[.agg #[.int .i64 x.zE,v1,v2,v3,v4,v5],.int .i64 n] w fun e w'=> ∃ m:Int,e= .returned (.int .i64 m)∧ -1≤m∧m≤n∧(0≤m→x.small∧m≤n - x.zP.length)∧Below w.heap.size w w':=by
 have R1:=hide r1
 have R2:=hide r2
 have R3:=hide r3
 have R4:=hide r4
 have R5:=hide r5
 clear r1 r2 r3 r4 r5
 have HG:=hide hg;clear hg
 go_enter Tryz.func4,Tryz.ntmps4
 have HB0:=hide (show Below w.heap.size w (w.alloc (.cells #[.int .i64 x.zE,v1,v2,v3,v4,v5] 30)) from(Below.refl _ _).alloc (Nat.le_refl _) _)
 have HK0:=hide (Bk.born w 30 #[.int .i64 x.zE,v1,v2,v3,v4,v5])
 go_wp2_with fail
 refine(c_szInt64SS _ x.zM (n) _ (by omega) (by omega) (T.yD R1.out HB0.out)).mono ?_;rintro e w1 ⟨m1,rfl,a1,b1,s1,hb⟩
 have HK1:=hide (HK0.out.below hb (by simp));have HB1:=hide (yH HB0.out (by simp) hb);clear hb
 have k1:=HK1.out.cell
 rcases Int.lt_or_le m1 0 with hn1|hp1
 ·go_wp2
  go_ret
  exact⟨-1,rfl,by omega,by omega,fun h=>by omega,HB1.out⟩
 have S1:=hide (s1 hp1);clear s1
 go_wp2_with fail
 refine(c_szTrackS _ x.zO (m1) _ (by omega) (by omega) (HG.out.2.2.1) (T.yD R2.out HB1.out)).mono ?_;rintro e w2 ⟨m2,rfl,a2,b2,s2,hb⟩
 have HK2:=hide (HK1.out.below hb HK1.out.lt);have HB2:=hide (yH HB1.out HB1.out.size hb);clear hb
 have k2:=HK2.out.cell
 rcases Int.lt_or_le m2 0 with hn2|hp2
 ·go_wp2
  go_ret
  exact⟨-1,rfl,by omega,by omega,fun h=>by omega,HB2.out⟩
 have S2:=hide (s2 hp2);clear s2
 go_wp2_with fail
 refine(c_szInt64S _ x.zU (m2) _ (by omega) (by omega) (T.yD R3.out HB2.out)).mono ?_;rintro e w3 ⟨m3,rfl,a3,b3,s3,hb⟩
 have HK3:=hide (HK2.out.below hb HK2.out.lt);have HB3:=hide (yH HB2.out HB2.out.size hb);clear hb
 have k3:=HK3.out.cell
 rcases Int.lt_or_le m3 0 with hn3|hp3
 ·go_wp2
  go_ret
  exact⟨-1,rfl,by omega,by omega,fun h=>by omega,HB3.out⟩
 have S3:=hide (s3 hp3);clear s3
 go_wp2_with fail
 refine(c_szPatchS2 _ x.zP (m3) _ (by omega) (by omega) (HG.out.2.2.2.2.1) (T.yD R4.out HB3.out)).mono ?_;rintro e w4 ⟨m4,rfl,a4,b4,s4,hb⟩
 have HK4:=hide (HK3.out.below hb HK3.out.lt);have HB4:=hide (yH HB3.out HB3.out.size hb);clear hb
 have k4:=HK4.out.cell
 rcases Int.lt_or_le m4 0 with hn4|hp4
 ·go_wp2
  go_ret
  exact⟨-1,rfl,by omega,by omega,fun h=>by omega,HB4.out⟩
 have S4:=hide (s4 hp4).1;have z4:=(s4 hp4).2;clear s4
 go_wp2_with fail
 refine(c_szMixer x.zW v5 (m4) _ (by omega) (by omega) (HG.out.2.2.2.2.2) (T.yD R5.out HB4.out)).mono ?_;rintro e w5 ⟨m5,rfl,a5,b5,s5,hb⟩
 have HK5:=hide (HK4.out.below hb HK4.out.lt);have HB5:=hide (yH HB4.out HB4.out.size hb);clear hb
 have k5:=HK5.out.cell
 rcases Int.lt_or_le m5 0 with hn5|hp5
 ·go_wp2
  go_ret
  exact⟨-1,rfl,by omega,by omega,fun h=>by omega,HB5.out⟩
 have S5:=hide (s5 hp5);clear s5
 go_wp2
 go_ret
 exact⟨m5,rfl,by omega,by omega,fun _=>⟨⟨S1.out,S2.out,S3.out,S4.out,S5.out⟩,by omega⟩,HB5.out⟩
theorem b_szSession2 (x:GSession) (cs:List Value) (n:Int) (w:World) (hn:0≤n) (hm:n≤1048576) (hg:x.good) (h:T.rds w x.fs cs):Calls Tryz.prog 4 #[.agg cs.toArray,.int .i64 n] w fun e w'=> ∃ m:Int,e= .returned (.int .i64 m)∧ -1≤m∧m≤n∧(0≤m→x.small∧m≤n - x.zP.length)∧Below w.heap.size w w':=by
 obtain⟨v1,v2,v3,v4,v5,rfl,h1,h2,h3,h4,h5⟩:=GSession.yM h
 exact c_szSession2 x _ _ _ _ _ n w hn hm hg h1 h2 h3 h4 h5
theorem GSession.cntv_le2 {x:GSession} (h:x.small):x.cntv≤9000000000000+x.zP.length * 2199027449857:=by
 have b1:=cntL_le2 (c:=List.length) (B:=1048576) (N:=1048576) h.1.2 h.1.1
 have b2:=cntL_le2 (c:=GTrack.cnt) (B:=5242880) (N:=1048576) (fun y hy=>GTrack.cnt_le (h.2.1.2 y hy)) h.2.1.1
 have b3:x.zU.length≤1048576:=h.2.2.1
 have b4:=cntL_bd (c:=GPatch.cnt) (B:=2199027449857) (xs:=x.zP) (fun y hy=>GPatch.cnt_le (h.2.2.2.1.2 y hy))
 have b5:=cntL_le2 (c:=GStrip.cnt) (B:=2097154) (N:=1048576) (fun y hy=>GStrip.cnt_le (h.2.2.2.2.2 y hy)) h.2.2.2.2.1
 simp only[GSession.cntv,GMixer.cntv]
 omega
theorem FrG.trn {α:Type} {enc:α→List Value} {sz:Nat} {w w':World} {E:TypeId} {lo hi:Nat} {v:Value} {xs:List α} {F:List Nat} (h:FrG enc sz E w lo hi v xs) (k:Trn F w w') (hd: ∀ b ∈ F,b<lo∨hi≤b):FrG enc sz E w' lo hi v xs:=
 ⟨⟨h.1.1,ownsRow_keep (fun b hb=>k.block _ (h.1.lt b hb).2 (fun hm=>by have h1:=(h.1.lt b hb).1;have h2:=h.2 b hb;have:=hd b hm;omega)) h.1.2⟩,h.2⟩
theorem law_DiffSessions (x y:GSession) (cs ds:List Value) (w:World) (ht:TB w) (hx:T.rds w x.fs cs) (gx:x.good) (hy:T.rds w y.fs ds) (gy:y.good):Calls Tryz.prog 3 #[.agg cs.toArray,.agg ds.toArray] w fun e w'=>e= .returned (.bool true)∧Below w.heap.size w w':=by
 have HTB:=hide ht;clear ht
 have HX:=hide hx;have HY:=hide hy
 obtain⟨v1,v2,v3,v4,v5,rfl,vr1,vr2,vr3,vr4,vr5⟩:=GSession.yM hx
 obtain⟨va1,vl1,vc1,rfl⟩:=T.yS vr1;clear vr1
 obtain⟨va2,vl2,vc2,rfl⟩:=T.yS vr2;clear vr2
 obtain⟨va3,vl3,vc3,rfl⟩:=T.yS vr3;clear vr3
 obtain⟨va4,vl4,vc4,rfl⟩:=T.yS vr4;clear vr4
 obtain⟨va5,vl5,vc5,rfl⟩:=T.yS vr5;clear vr5
 obtain⟨u1,u2,u3,u4,u5,rfl,ur1,ur2,ur3,ur4,ur5⟩:=GSession.yM hy
 obtain⟨ua1,ul1,uc1,rfl⟩:=T.yS ur1;clear ur1
 obtain⟨ua2,ul2,uc2,rfl⟩:=T.yS ur2;clear ur2
 obtain⟨ua3,ul3,uc3,rfl⟩:=T.yS ur3;clear ur3
 obtain⟨ua4,ul4,uc4,rfl⟩:=T.yS ur4;clear ur4
 obtain⟨ua5,ul5,uc5,rfl⟩:=T.yS ur5;clear ur5
 clear hx hy
 have H0:=hide (show Below w.heap.size w ((w.alloc (.cells #[.int .i64 x.zE,(.slice va1 vl1 vc1),(.slice va2 vl2 vc2),(.slice va3 vl3 vc3),(.slice va4 vl4 vc4),(.slice va5 vl5 vc5)] 30)).alloc (.cells #[.int .i64 y.zE,(.slice ua1 ul1 uc1),(.slice ua2 ul2 uc2),(.slice ua3 ul3 uc3),(.slice ua4 ul4 uc4),(.slice ua5 ul5 uc5)] 30)) from((Below.refl _ _).alloc (Nat.le_refl _) _).alloc (by simp) _)
 have KA:=hide ((Bk.born w 30 #[.int .i64 x.zE,(.slice va1 vl1 vc1),(.slice va2 vl2 vc2),(.slice va3 vl3 vc3),(.slice va4 vl4 vc4),(.slice va5 vl5 vc5)]).alloc (.cells #[.int .i64 y.zE,(.slice ua1 ul1 uc1),(.slice ua2 ul2 uc2),(.slice ua3 ul3 uc3),(.slice ua4 ul4 uc4),(.slice ua5 ul5 uc5)] 30))
 have KB:=hide (Bk.born1' w (.cells #[.int .i64 x.zE,(.slice va1 vl1 vc1),(.slice va2 vl2 vc2),(.slice va3 vl3 vc3),(.slice va4 vl4 vc4),(.slice va5 vl5 vc5)] 30) 30 #[.int .i64 y.zE,(.slice ua1 ul1 uc1),(.slice ua2 ul2 uc2),(.slice ua3 ul3 uc3),(.slice ua4 ul4 uc4),(.slice ua5 ul5 uc5)])
 go_enter Tryz.func3,Tryz.ntmps3
 have kcKA:=KA.out.cell;have klKA:=KA.out.lt
 have kcKB:=KB.out.cell;have klKB:=KB.out.lt
 go_wp2_with fail
 refine(b_szSession2 x _ 1048576 _ (by omega) (by omega) gx (T.rds_below HX.out H0.out)).mono ?_;rintro e w1 ⟨m,rfl,hm0,hm1,hsx,hb⟩
 clear kcKA klKA kcKB klKB
 have H1:=hide (yH H0.out H0.out.size hb);have hs1:=hb.size
 replace KA:=hide (KA.out.below hb KA.out.lt)
 replace KB:=hide (KB.out.below hb KB.out.lt)
 clear hb
 have kcKA:=KA.out.cell;have klKA:=KA.out.lt
 have kcKB:=KB.out.cell;have klKB:=KB.out.lt
 by_cases cm:m<0
 ·go_wp2
  go_ret
  exact⟨rfl,H1.out⟩
 obtain⟨sx,zx⟩:=hsx (by omega);clear hsx
 go_wp2_with fail
 refine(b_szSession2 y _ m _ (by omega) (by omega) gy (T.rds_below HY.out H1.out)).mono ?_;rintro e w2 ⟨n,rfl,hn0,hn1,hsy,hb⟩
 clear kcKA klKA kcKB klKB
 have H2:=hide (yH H1.out H1.out.size hb);have hs2:=hb.size
 replace KA:=hide (KA.out.below hb KA.out.lt)
 replace KB:=hide (KB.out.below hb KB.out.lt)
 clear hb
 have kcKA:=KA.out.cell;have klKA:=KA.out.lt
 have kcKB:=KB.out.cell;have klKB:=KB.out.lt
 by_cases cn:n<0
 ·go_wp2
  go_ret
  exact⟨rfl,H2.out⟩
 obtain⟨sy,zy⟩:=hsy (by omega);clear hsy
 have hz1:w.heap.size+1<w2.heap.size:=KB.out.lt
 have hcx:=GSession.cntv_le2 sx;have hcy:=GSession.cntv_le2 sy;have hpl:=dsF_len x y
 obtain⟨p1,p2,hp⟩: ∃ a b,dsF x y=(a,b):=⟨_,_,rfl⟩
 have hne:(p2 != p2)=false:=by simp
 rw[hp] at hpl;have hpl':p1.length≤400:=hpl;clear hpl
 have SI:=hide (fun(W:World) (cs ds:List Value) (h:T.rds W x.fs cs) (k:T.rds W y.fs ds)=>(by have:=c_sDS x y cs ds W gx gy sx sy h k;rw[hp] at this;exact this:Calls Tryz.prog 5 #[.agg cs.toArray,.agg ds.toArray] W fun e w'=> ∃ v',e= .returned (.tuple #[v',.int .i64 p2])∧OwC 71 w' W.heap.size v' p1∧Below W.heap.size W w'))
 have II:=hide (fun(W:World) (cs ds:List Value) (ht:TB W) (h:T.rds W x.fs cs) (k:T.rds W y.fs ds)=>(by have:=c_iDS x y cs ds W ht gx gy sx sy h k;rw[hp] at this;exact this:Calls Tryz.prog 7 #[.agg cs.toArray,.agg ds.toArray] W fun e w'=> ∃ v',e= .returned (.tuple #[v',.int .i64 p2])∧OwC 71 w' W.heap.size v' p1∧Below W.heap.size W w'))
 clear hp
 clear kcKA klKA kcKB klKB
 go_wp2_with fail
 go_region_held3 (fun w'=>(∀ i,w'.cell? ⟨w.heap.size,i,none⟩= #[.int .i64 x.zE,(.slice va1 vl1 vc1),(.slice va2 vl2 vc2),(.slice va3 vl3 vc3),(.slice va4 vl4 vc4),(.slice va5 vl5 vc5)][i]?)∧(∀ i,w'.cell? ⟨(w.heap.size+1),i,none⟩= #[.int .i64 y.zE,(.slice ua1 ul1 uc1),(.slice ua2 ul2 uc2),(.slice ua3 ul3 uc3),(.slice ua4 ul4 uc4),(.slice ua5 ul5 uc5)][i]?)) ((((try simp only[World.cell?_drew]));first|with_reducible exact⟨KA.out.cell,KB.out.cell⟩|with_reducible exact⟨KA8_0.out.cell,KB8_0.out.cell⟩|with_reducible exact⟨KA8_1.out.cell,KB8_1.out.cell⟩|with_reducible exact⟨KA8_2.out.cell,KB8_2.out.cell⟩|(trace_state;fail))) (first|(go_at_call_of 6 (Value.agg #[.int .i64 x.zE,(.slice va1 vl1 vc1),(.slice va2 vl2 vc2),(.slice va3 vl3 vc3),(.slice va4 vl4 vc4),(.slice va5 vl5 vc5)]);refine(b_toSession x _ _ sx (T.rds_below HX.out (by first|with_reducible exact H2.out|with_reducible exact H2.out.drew|with_reducible exact(below_drewN H2.out _)|with_reducible exact(H2.out.alloc (H2.out.size) _)|with_reducible exact(H2.out.alloc (H2.out.size) _).drew|with_reducible exact((H2.out.drew).alloc (H2.out.size) _)|with_reducible exact(below_drewN (H2.out.alloc (H2.out.size) _) _)|with_reducible exact((below_drewN H2.out _).alloc (H2.out.size) _)))).mono ?_;rintro e wA8 ⟨dx,rfl,hdx,hb⟩;have E8_0:=hide (show Below w2.heap.size w2 wA8 from(by first|with_reducible exact hb|with_reducible exact undrew hb|with_reducible exact undrewN hb|with_reducible exact yK hb|with_reducible exact undrew (yK hb)|with_reducible exact yK (undrew hb)|with_reducible exact undrewN (yK hb)|with_reducible exact yK (undrewN hb)));have D8_0:=hide (show Below w2.heap.size w2 wA8 from E8_0.out);have KA8_0:=hide (KA.out.below D8_0.out KA.out.lt);have KB8_0:=hide (KB.out.below D8_0.out KB.out.lt);clear hb)|(go_at_call_of 6 (Value.agg #[.int .i64 y.zE,(.slice ua1 ul1 uc1),(.slice ua2 ul2 uc2),(.slice ua3 ul3 uc3),(.slice ua4 ul4 uc4),(.slice ua5 ul5 uc5)]);refine(b_toSession y _ _ sy (T.rds_below HY.out (by first|with_reducible exact(yH H2.out H2.out.size D8_0.out)|with_reducible exact(yH H2.out H2.out.size D8_0.out).drew|with_reducible exact(below_drewN (yH H2.out H2.out.size D8_0.out) _)|with_reducible exact((yH H2.out H2.out.size D8_0.out).alloc ((yH H2.out H2.out.size D8_0.out).size) _)|with_reducible exact((yH H2.out H2.out.size D8_0.out).alloc ((yH H2.out H2.out.size D8_0.out).size) _).drew|with_reducible exact(((yH H2.out H2.out.size D8_0.out).drew).alloc ((yH H2.out H2.out.size D8_0.out).size) _)|with_reducible exact(below_drewN ((yH H2.out H2.out.size D8_0.out).alloc ((yH H2.out H2.out.size D8_0.out).size) _) _)|with_reducible exact((below_drewN (yH H2.out H2.out.size D8_0.out) _).alloc ((yH H2.out H2.out.size D8_0.out).size) _)))).mono ?_;rintro e wB8 ⟨dy,rfl,hdy,hb⟩;have E8_1:=hide (show Below wA8.heap.size wA8 wB8 from(by first|with_reducible exact hb|with_reducible exact undrew hb|with_reducible exact undrewN hb|with_reducible exact yK hb|with_reducible exact undrew (yK hb)|with_reducible exact yK (undrew hb)|with_reducible exact undrewN (yK hb)|with_reducible exact yK (undrewN hb)));have D8_1:=hide (show Below w2.heap.size w2 wB8 from yH D8_0.out D8_0.out.size E8_1.out);have KA8_1:=hide (KA.out.below D8_1.out KA.out.lt);have KB8_1:=hide (KB.out.below D8_1.out KB.out.lt);clear hb)|(go_at_call 5;refine(SI.out _ _ _ (T.rds_below hdx (by first|with_reducible exact E8_1.out|with_reducible exact E8_1.out.drew|with_reducible exact(below_drewN E8_1.out _)|with_reducible exact(E8_1.out.alloc (E8_1.out.size) _)|with_reducible exact(E8_1.out.alloc (E8_1.out.size) _).drew|with_reducible exact((E8_1.out.drew).alloc (E8_1.out.size) _)|with_reducible exact(below_drewN (E8_1.out.alloc (E8_1.out.size) _) _)|with_reducible exact((below_drewN E8_1.out _).alloc (E8_1.out.size) _))) (T.rds_below hdy (by first|with_reducible exact(Below.refl _ _)|with_reducible exact(Below.refl _ _).drew|with_reducible exact(below_drewN (Below.refl _ _) _)|with_reducible exact((Below.refl _ _).alloc (Nat.le_refl _) _)|with_reducible exact((Below.refl _ _).alloc (Nat.le_refl _) _).drew|with_reducible exact(((Below.refl _ _).drew).alloc (Nat.le_refl _) _)|with_reducible exact(below_drewN ((Below.refl _ _).alloc (Nat.le_refl _) _) _)|with_reducible exact((below_drewN (Below.refl _ _) _).alloc (Nat.le_refl _) _)))).mono ?_;rintro e wC8 ⟨vv8,rfl,ow,hb⟩;have E8_2:=hide (show Below wB8.heap.size wB8 wC8 from(by first|with_reducible exact hb|with_reducible exact undrew hb|with_reducible exact undrewN hb|with_reducible exact yK hb|with_reducible exact undrew (yK hb)|with_reducible exact yK (undrew hb)|with_reducible exact undrewN (yK hb)|with_reducible exact yK (undrewN hb)));have D8_2:=hide (show Below w2.heap.size w2 wC8 from yH D8_1.out D8_1.out.size E8_2.out);have KA8_2:=hide (KA.out.below D8_2.out KA.out.lt);have KB8_2:=hide (KB.out.below D8_2.out KB.out.lt);have FW:=hide (show FrG chgV 3 71 wC8 w2.heap.size wC8.heap.size vv8 p1 from⟨ow.more D8_1.out.size,fun k hk=>(ow.lt k hk).2⟩);clear hb))
 have hb:=D8_2.out
 generalize wC8=w3 at *
 have H3:=hide (yH H2.out H2.out.size hb);have hs3:=hb.size
 replace KA:=hide (KA.out.below hb KA.out.lt)
 replace KB:=hide (KB.out.below hb KB.out.lt)
 clear hb
 have kcKA:=KA.out.cell;have klKA:=KA.out.lt
 have kcKB:=KB.out.cell;have klKB:=KB.out.lt
 go_wp2_with fail
 refine(bo_toSession x _ _ sx (T.rds_below HX.out H3.out)).mono ?_;rintro e w4 ⟨es,FX,rfl,hN⟩
 have OX:=hide hN.ows;have NX:=hide hN.nodup;have LX:=hide hN.lo;have IX:=hide hN.lt;have hb:=hN.below;have hes:=T.ows_rds _ _ _ hN.ows;clear hN
 replace FW:=hide (FW.out.below hb (by omega))
 clear kcKA klKA kcKB klKB
 have H4:=hide (yH H3.out H3.out.size hb);have hs4:=hb.size
 replace KA:=hide (KA.out.below hb KA.out.lt)
 replace KB:=hide (KB.out.below hb KB.out.lt)
 clear hb
 have kcKA:=KA.out.cell;have klKA:=KA.out.lt
 have kcKB:=KB.out.cell;have klKB:=KB.out.lt
 obtain⟨t1,t2,t3,t4,t5,rfl,tr1,tr2,tr3,tr4,tr5⟩:=GSession.yM hes
 obtain⟨ta1,tl1,tc1,rfl⟩:=T.yS tr1;clear tr1
 obtain⟨ta2,tl2,tc2,rfl⟩:=T.yS tr2;clear tr2
 obtain⟨ta3,tl3,tc3,rfl⟩:=T.yS tr3;clear tr3
 obtain⟨ta4,tl4,tc4,rfl⟩:=T.yS tr4;clear tr4
 obtain⟨ta5,tl5,tc5,rfl⟩:=T.yS tr5;clear tr5
 go_wp2_with fail
 clear kcKA klKA kcKB klKB
 have hb:Below w4.heap.size w4 (w4.alloc (.cells #[.int .i64 x.zE,(.slice ta1 tl1 tc1),(.slice ta2 tl2 tc2),(.slice ta3 tl3 tc3),(.slice ta4 tl4 tc4),(.slice ta5 tl5 tc5)] 41)):=(Below.refl _ _).alloc (Nat.le_refl _) _
 have KX:=hide (Bk.born w4 41 #[.int .i64 x.zE,(.slice ta1 tl1 tc1),(.slice ta2 tl2 tc2),(.slice ta3 tl3 tc3),(.slice ta4 tl4 tc4),(.slice ta5 tl5 tc5)])
 generalize (w4.alloc (.cells #[.int .i64 x.zE,(.slice ta1 tl1 tc1),(.slice ta2 tl2 tc2),(.slice ta3 tl3 tc3),(.slice ta4 tl4 tc4),(.slice ta5 tl5 tc5)] 41))=w5 at *
 have ghKX:w4.heap.size<w5.heap.size:=KX.out.lt
 replace FW:=hide (FW.out.below hb (by omega))
 have H5:=hide (yH H4.out H4.out.size hb);have hs5:=hb.size
 replace KA:=hide (KA.out.below hb KA.out.lt)
 replace KB:=hide (KB.out.below hb KB.out.lt)
 replace OX:=hide (T.ows_all OX.out hb)
 clear hb
 have kcKA:=KA.out.cell;have klKA:=KA.out.lt
 have kcKB:=KB.out.cell;have klKB:=KB.out.lt
 have kcKX:=KX.out.cell;have klKX:=KX.out.lt
 go_wp2_with fail
 refine(bo_toSession y _ _ sy (T.rds_below HY.out H5.out)).mono ?_;rintro e w6 ⟨es,FY,rfl,hN⟩
 have OY:=hide hN.ows;have NY:=hide hN.nodup;have LY:=hide hN.lo;have IY:=hide hN.lt;have hb:=hN.below;have hes:=T.ows_rds _ _ _ hN.ows;clear hN
 replace FW:=hide (FW.out.below hb (by omega))
 clear kcKA klKA kcKB klKB kcKX klKX
 have H6:=hide (yH H5.out H5.out.size hb);have hs6:=hb.size
 replace KA:=hide (KA.out.below hb KA.out.lt)
 replace KB:=hide (KB.out.below hb KB.out.lt)
 replace KX:=hide (KX.out.below hb KX.out.lt)
 replace OX:=hide (T.ows_all OX.out hb)
 clear hb
 have kcKA:=KA.out.cell;have klKA:=KA.out.lt
 have kcKB:=KB.out.cell;have klKB:=KB.out.lt
 have kcKX:=KX.out.cell;have klKX:=KX.out.lt
 obtain⟨q1,q2,q3,q4,q5,rfl,qr1,qr2,qr3,qr4,qr5⟩:=GSession.yM hes
 obtain⟨qa1,ql1,qc1,rfl⟩:=T.yS qr1;clear qr1
 obtain⟨qa2,ql2,qc2,rfl⟩:=T.yS qr2;clear qr2
 obtain⟨qa3,ql3,qc3,rfl⟩:=T.yS qr3;clear qr3
 obtain⟨qa4,ql4,qc4,rfl⟩:=T.yS qr4;clear qr4
 obtain⟨qa5,ql5,qc5,rfl⟩:=T.yS qr5;clear qr5
 go_wp2_with fail
 clear kcKA klKA kcKB klKB kcKX klKX
 have hb:Below w6.heap.size w6 (w6.alloc (.cells #[.int .i64 y.zE,(.slice qa1 ql1 qc1),(.slice qa2 ql2 qc2),(.slice qa3 ql3 qc3),(.slice qa4 ql4 qc4),(.slice qa5 ql5 qc5)] 41)):=(Below.refl _ _).alloc (Nat.le_refl _) _
 have KY:=hide (Bk.born w6 41 #[.int .i64 y.zE,(.slice qa1 ql1 qc1),(.slice qa2 ql2 qc2),(.slice qa3 ql3 qc3),(.slice qa4 ql4 qc4),(.slice qa5 ql5 qc5)])
 generalize (w6.alloc (.cells #[.int .i64 y.zE,(.slice qa1 ql1 qc1),(.slice qa2 ql2 qc2),(.slice qa3 ql3 qc3),(.slice qa4 ql4 qc4),(.slice qa5 ql5 qc5)] 41))=w7 at *
 have ghKY:w6.heap.size<w7.heap.size:=KY.out.lt
 replace FW:=hide (FW.out.below hb (by omega))
 have H7:=hide (yH H6.out H6.out.size hb);have hs7:=hb.size
 replace KA:=hide (KA.out.below hb KA.out.lt)
 replace KB:=hide (KB.out.below hb KB.out.lt)
 replace KX:=hide (KX.out.below hb KX.out.lt)
 replace OX:=hide (T.ows_all OX.out hb)
 replace OY:=hide (T.ows_all OY.out hb)
 clear hb
 have kcKA:=KA.out.cell;have klKA:=KA.out.lt
 have kcKB:=KB.out.cell;have klKB:=KB.out.lt
 have kcKX:=KX.out.cell;have klKX:=KX.out.lt
 have kcKY:=KY.out.cell;have klKY:=KY.out.lt
 go_wp2_with fail
 refine(II.out _ _ _ (HTB.out.below H7.out) (T.ows_rds _ _ _ OX.out) (T.ows_rds _ _ _ OY.out)).mono ?_;rintro e w8 ⟨vg,rfl,ow,hb⟩
 have FG:=hide (show FrG chgV 3 71 w8 w7.heap.size w8.heap.size vg p1 from FrG.born ow);clear ow
 replace FW:=hide (FW.out.below hb (by omega))
 clear kcKA klKA kcKB klKB kcKX klKX kcKY klKY
 have H8:=hide (yH H7.out H7.out.size hb);have hs8:=hb.size
 replace KA:=hide (KA.out.below hb KA.out.lt)
 replace KB:=hide (KB.out.below hb KB.out.lt)
 replace KX:=hide (KX.out.below hb KX.out.lt)
 replace KY:=hide (KY.out.below hb KY.out.lt)
 replace OX:=hide (T.ows_all OX.out hb)
 replace OY:=hide (T.ows_all OY.out hb)
 clear hb
 have kcKA:=KA.out.cell;have klKA:=KA.out.lt
 have kcKB:=KB.out.cell;have klKB:=KB.out.lt
 have kcKX:=KX.out.cell;have klKX:=KX.out.lt
 have kcKY:=KY.out.cell;have klKY:=KY.out.lt
 go_wp2_with fail
 refine(c_eqCS _ _ p1 _ FG.out.rd FW.out.rd).mono ?_;rintro e w9 ⟨rfl,hb⟩
 replace FW:=hide (FW.out.below hb (by omega))
 replace FG:=hide (FG.out.below hb (by omega))
 clear kcKA klKA kcKB klKB kcKX klKX kcKY klKY
 have H9:=hide (yH H8.out H8.out.size hb);have hs9:=hb.size
 replace KA:=hide (KA.out.below hb KA.out.lt)
 replace KB:=hide (KB.out.below hb KB.out.lt)
 replace KX:=hide (KX.out.below hb KX.out.lt)
 replace KY:=hide (KY.out.below hb KY.out.lt)
 replace OX:=hide (T.ows_all OX.out hb)
 replace OY:=hide (T.ows_all OY.out hb)
 clear hb
 have kcKA:=KA.out.cell;have klKA:=KA.out.lt
 have kcKB:=KB.out.cell;have klKB:=KB.out.lt
 have kcKX:=KX.out.cell;have klKX:=KX.out.lt
 have kcKY:=KY.out.cell;have klKY:=KY.out.lt
 clear kcKA klKA kcKB klKB kcKX klKX kcKY klKY
 go_wp2_with fail
 go_region_held3 (fun w'=>(∀ i,w'.cell? ⟨w4.heap.size,i,none⟩= #[.int .i64 x.zE,(.slice ta1 tl1 tc1),(.slice ta2 tl2 tc2),(.slice ta3 tl3 tc3),(.slice ta4 tl4 tc4),(.slice ta5 tl5 tc5)][i]?)∧(∀ i,w'.cell? ⟨w.heap.size,i,none⟩= #[.int .i64 x.zE,(.slice va1 vl1 vc1),(.slice va2 vl2 vc2),(.slice va3 vl3 vc3),(.slice va4 vl4 vc4),(.slice va5 vl5 vc5)][i]?)) ((((try simp only[World.cell?_drew]));first|with_reducible exact⟨KX.out.cell,KA.out.cell⟩|with_reducible exact⟨KX13_0.out.cell,KA13_0.out.cell⟩|with_reducible exact⟨KX13_1.out.cell,KA13_1.out.cell⟩|(trace_state;fail))) (first|(go_at_call_of 6 (Value.agg #[.int .i64 x.zE,(.slice va1 vl1 vc1),(.slice va2 vl2 vc2),(.slice va3 vl3 vc3),(.slice va4 vl4 vc4),(.slice va5 vl5 vc5)]);refine(b_toSession x _ _ sx (T.rds_below HX.out (by first|with_reducible exact H9.out|with_reducible exact H9.out.drew|with_reducible exact(below_drewN H9.out _)|with_reducible exact(H9.out.alloc (H9.out.size) _)|with_reducible exact(H9.out.alloc (H9.out.size) _).drew|with_reducible exact((H9.out.drew).alloc (H9.out.size) _)|with_reducible exact(below_drewN (H9.out.alloc (H9.out.size) _) _)|with_reducible exact((below_drewN H9.out _).alloc (H9.out.size) _)))).mono ?_;rintro e wA13 ⟨dx,rfl,hdx,hb⟩;have E13_0:=hide (show Below w9.heap.size w9 wA13 from(by first|with_reducible exact hb|with_reducible exact undrew hb|with_reducible exact undrewN hb|with_reducible exact yK hb|with_reducible exact undrew (yK hb)|with_reducible exact yK (undrew hb)|with_reducible exact undrewN (yK hb)|with_reducible exact yK (undrewN hb)));have D13_0:=hide (show Below w9.heap.size w9 wA13 from E13_0.out);have KX13_0:=hide (KX.out.below D13_0.out KX.out.lt);have KA13_0:=hide (KA.out.below D13_0.out KA.out.lt);clear hb)|(go_at_call 9;refine(b_eqSession x _ _ _ (T.rds_below (T.ows_rds _ _ _ OX.out) (by first|with_reducible exact D13_0.out|with_reducible exact D13_0.out.drew|with_reducible exact(below_drewN D13_0.out _)|with_reducible exact(D13_0.out.alloc (D13_0.out.size) _)|with_reducible exact(D13_0.out.alloc (D13_0.out.size) _).drew|with_reducible exact((D13_0.out.drew).alloc (D13_0.out.size) _)|with_reducible exact(below_drewN (D13_0.out.alloc (D13_0.out.size) _) _)|with_reducible exact((below_drewN D13_0.out _).alloc (D13_0.out.size) _))) (T.rds_below hdx (by first|with_reducible exact(Below.refl _ _)|with_reducible exact(Below.refl _ _).drew|with_reducible exact(below_drewN (Below.refl _ _) _)|with_reducible exact((Below.refl _ _).alloc (Nat.le_refl _) _)|with_reducible exact((Below.refl _ _).alloc (Nat.le_refl _) _).drew|with_reducible exact(((Below.refl _ _).drew).alloc (Nat.le_refl _) _)|with_reducible exact(below_drewN ((Below.refl _ _).alloc (Nat.le_refl _) _) _)|with_reducible exact((below_drewN (Below.refl _ _) _).alloc (Nat.le_refl _) _)))).mono ?_;rintro e wB13 ⟨rfl,hb⟩;have E13_1:=hide (show Below wA13.heap.size wA13 wB13 from(by first|with_reducible exact hb|with_reducible exact undrew hb|with_reducible exact undrewN hb|with_reducible exact yK hb|with_reducible exact undrew (yK hb)|with_reducible exact yK (undrew hb)|with_reducible exact undrewN (yK hb)|with_reducible exact yK (undrewN hb)));have D13_1:=hide (show Below w9.heap.size w9 wB13 from yH D13_0.out D13_0.out.size E13_1.out);have KX13_1:=hide (KX.out.below D13_1.out KX.out.lt);have KA13_1:=hide (KA.out.below D13_1.out KA.out.lt);clear hb))
 have hb:=D13_1.out
 generalize wB13=w10 at *
 replace FW:=hide (FW.out.below hb (by omega))
 replace FG:=hide (FG.out.below hb (by omega))
 have H10:=hide (yH H9.out H9.out.size hb);have hs10:=hb.size
 replace KA:=hide (KA.out.below hb KA.out.lt)
 replace KB:=hide (KB.out.below hb KB.out.lt)
 replace KX:=hide (KX.out.below hb KX.out.lt)
 replace KY:=hide (KY.out.below hb KY.out.lt)
 replace OX:=hide (T.ows_all OX.out hb)
 replace OY:=hide (T.ows_all OY.out hb)
 clear hb
 have kcKA:=KA.out.cell;have klKA:=KA.out.lt
 have kcKB:=KB.out.cell;have klKB:=KB.out.lt
 have kcKX:=KX.out.cell;have klKX:=KX.out.lt
 have kcKY:=KY.out.cell;have klKY:=KY.out.lt
 clear kcKA klKA kcKB klKB kcKX klKX kcKY klKY
 go_wp2_with fail
 go_region_held3 (fun w'=>(∀ i,w'.cell? ⟨w6.heap.size,i,none⟩= #[.int .i64 y.zE,(.slice qa1 ql1 qc1),(.slice qa2 ql2 qc2),(.slice qa3 ql3 qc3),(.slice qa4 ql4 qc4),(.slice qa5 ql5 qc5)][i]?)∧(∀ i,w'.cell? ⟨(w.heap.size+1),i,none⟩= #[.int .i64 y.zE,(.slice ua1 ul1 uc1),(.slice ua2 ul2 uc2),(.slice ua3 ul3 uc3),(.slice ua4 ul4 uc4),(.slice ua5 ul5 uc5)][i]?)) ((((try simp only[World.cell?_drew]));first|with_reducible exact⟨KY.out.cell,KB.out.cell⟩|with_reducible exact⟨KY14_0.out.cell,KB14_0.out.cell⟩|with_reducible exact⟨KY14_1.out.cell,KB14_1.out.cell⟩|(trace_state;fail))) (first|(go_at_call_of 6 (Value.agg #[.int .i64 y.zE,(.slice ua1 ul1 uc1),(.slice ua2 ul2 uc2),(.slice ua3 ul3 uc3),(.slice ua4 ul4 uc4),(.slice ua5 ul5 uc5)]);refine(b_toSession y _ _ sy (T.rds_below HY.out (by first|with_reducible exact H10.out|with_reducible exact H10.out.drew|with_reducible exact(below_drewN H10.out _)|with_reducible exact(H10.out.alloc (H10.out.size) _)|with_reducible exact(H10.out.alloc (H10.out.size) _).drew|with_reducible exact((H10.out.drew).alloc (H10.out.size) _)|with_reducible exact(below_drewN (H10.out.alloc (H10.out.size) _) _)|with_reducible exact((below_drewN H10.out _).alloc (H10.out.size) _)))).mono ?_;rintro e wA14 ⟨dy,rfl,hdy,hb⟩;have E14_0:=hide (show Below w10.heap.size w10 wA14 from(by first|with_reducible exact hb|with_reducible exact undrew hb|with_reducible exact undrewN hb|with_reducible exact yK hb|with_reducible exact undrew (yK hb)|with_reducible exact yK (undrew hb)|with_reducible exact undrewN (yK hb)|with_reducible exact yK (undrewN hb)));have D14_0:=hide (show Below w10.heap.size w10 wA14 from E14_0.out);have KY14_0:=hide (KY.out.below D14_0.out KY.out.lt);have KB14_0:=hide (KB.out.below D14_0.out KB.out.lt);clear hb)|(go_at_call 9;refine(b_eqSession y _ _ _ (T.rds_below (T.ows_rds _ _ _ OY.out) (by first|with_reducible exact D14_0.out|with_reducible exact D14_0.out.drew|with_reducible exact(below_drewN D14_0.out _)|with_reducible exact(D14_0.out.alloc (D14_0.out.size) _)|with_reducible exact(D14_0.out.alloc (D14_0.out.size) _).drew|with_reducible exact((D14_0.out.drew).alloc (D14_0.out.size) _)|with_reducible exact(below_drewN (D14_0.out.alloc (D14_0.out.size) _) _)|with_reducible exact((below_drewN D14_0.out _).alloc (D14_0.out.size) _))) (T.rds_below hdy (by first|with_reducible exact(Below.refl _ _)|with_reducible exact(Below.refl _ _).drew|with_reducible exact(below_drewN (Below.refl _ _) _)|with_reducible exact((Below.refl _ _).alloc (Nat.le_refl _) _)|with_reducible exact((Below.refl _ _).alloc (Nat.le_refl _) _).drew|with_reducible exact(((Below.refl _ _).drew).alloc (Nat.le_refl _) _)|with_reducible exact(below_drewN ((Below.refl _ _).alloc (Nat.le_refl _) _) _)|with_reducible exact((below_drewN (Below.refl _ _) _).alloc (Nat.le_refl _) _)))).mono ?_;rintro e wB14 ⟨rfl,hb⟩;have E14_1:=hide (show Below wA14.heap.size wA14 wB14 from(by first|with_reducible exact hb|with_reducible exact undrew hb|with_reducible exact undrewN hb|with_reducible exact yK hb|with_reducible exact undrew (yK hb)|with_reducible exact yK (undrew hb)|with_reducible exact undrewN (yK hb)|with_reducible exact yK (undrewN hb)));have D14_1:=hide (show Below w10.heap.size w10 wB14 from yH D14_0.out D14_0.out.size E14_1.out);have KY14_1:=hide (KY.out.below D14_1.out KY.out.lt);have KB14_1:=hide (KB.out.below D14_1.out KB.out.lt);clear hb))
 have hb:=D14_1.out
 generalize wB14=w11 at *
 replace FW:=hide (FW.out.below hb (by omega))
 replace FG:=hide (FG.out.below hb (by omega))
 have H11:=hide (yH H10.out H10.out.size hb);have hs11:=hb.size
 replace KA:=hide (KA.out.below hb KA.out.lt)
 replace KB:=hide (KB.out.below hb KB.out.lt)
 replace KX:=hide (KX.out.below hb KX.out.lt)
 replace KY:=hide (KY.out.below hb KY.out.lt)
 replace OX:=hide (T.ows_all OX.out hb)
 replace OY:=hide (T.ows_all OY.out hb)
 clear hb
 have kcKA:=KA.out.cell;have klKA:=KA.out.lt
 have kcKB:=KB.out.cell;have klKB:=KB.out.lt
 have kcKX:=KX.out.cell;have klKX:=KX.out.lt
 have kcKY:=KY.out.cell;have klKY:=KY.out.lt
 go_wp2_with fail
 refine(bo_markSession x _ FX 1 _ (by omega) (by omega) OX.out NX.out).mono ?_;rintro e w12 ⟨rfl,hO,hT⟩
 obtain⟨mx,hmx,pmx⟩: ∃ mm:Nat,1+x.cntv=mm∧0<mm:=⟨_,rfl,by omega⟩
 rw[hmx]
 replace FW:=hide (FW.out.trn hT (fun b hb=>by have h1:=LX.out b hb;have h2:=IX.out b hb;omega))
 replace FG:=hide (FG.out.trn hT (fun b hb=>by have h1:=LX.out b hb;have h2:=IX.out b hb;omega))
 clear kcKA klKA kcKB klKB kcKX klKX kcKY klKY
 have H12:=hide (hT.below H11.out (fun b hb=>by have h1:=LX.out b hb;omega) H11.out.size);have hs12:=hT.size
 replace KA:=hide (KA.out.trn hT (fun hm=>by have h1:=LX.out _ hm;have h2:=IX.out _ hm;omega))
 replace KB:=hide (KB.out.trn hT (fun hm=>by have h1:=LX.out _ hm;have h2:=IX.out _ hm;omega))
 replace KX:=hide (KX.out.trn hT (fun hm=>by have h1:=LX.out _ hm;have h2:=IX.out _ hm;omega))
 replace KY:=hide (KY.out.trn hT (fun hm=>by have h1:=LX.out _ hm;have h2:=IX.out _ hm;omega))
 replace OY:=hide (T.ows_trn OY.out hT (fun b hb hm=>by have h1:=LX.out _ hm;have h2:=IX.out _ hm;have h3:=LY.out b hb;have h4:=IY.out b hb;omega))
 clear hT
 have kcKA:=KA.out.cell;have klKA:=KA.out.lt
 have kcKB:=KB.out.cell;have klKB:=KB.out.lt
 have kcKX:=KX.out.cell;have klKX:=KX.out.lt
 have kcKY:=KY.out.cell;have klKY:=KY.out.lt
 clear OX hO
 go_wp2_with fail
 refine(bo_markSession y _ FY mx _ (by omega) (by omega) OY.out NY.out).mono ?_;rintro e w13 ⟨rfl,hO,hT⟩
 obtain⟨my,hmy,pmy⟩: ∃ mm:Nat,mx+y.cntv=mm∧0<mm:=⟨_,rfl,by omega⟩
 rw[hmy]
 replace FW:=hide (FW.out.trn hT (fun b hb=>by have h1:=LY.out b hb;have h2:=IY.out b hb;omega))
 replace FG:=hide (FG.out.trn hT (fun b hb=>by have h1:=LY.out b hb;have h2:=IY.out b hb;omega))
 clear kcKA klKA kcKB klKB kcKX klKX kcKY klKY
 have H13:=hide (hT.below H12.out (fun b hb=>by have h1:=LY.out b hb;omega) H12.out.size);have hs13:=hT.size
 replace KA:=hide (KA.out.trn hT (fun hm=>by have h1:=LY.out _ hm;have h2:=IY.out _ hm;omega))
 replace KB:=hide (KB.out.trn hT (fun hm=>by have h1:=LY.out _ hm;have h2:=IY.out _ hm;omega))
 replace KX:=hide (KX.out.trn hT (fun hm=>by have h1:=LY.out _ hm;have h2:=IY.out _ hm;omega))
 replace KY:=hide (KY.out.trn hT (fun hm=>by have h1:=LY.out _ hm;have h2:=IY.out _ hm;omega))
 clear hT
 have kcKA:=KA.out.cell;have klKA:=KA.out.lt
 have kcKB:=KB.out.cell;have klKB:=KB.out.lt
 have kcKX:=KX.out.cell;have klKX:=KX.out.lt
 have kcKY:=KY.out.cell;have klKY:=KY.out.lt
 clear OY hO
 have nmy: ¬ (my:Int)<0:=by omega
 go_wp2_with fail
 refine(c_eqCS _ _ p1 _ FG.out.rd FW.out.rd).mono ?_;rintro e w14 ⟨rfl,hb⟩
 replace FW:=hide (FW.out.below hb (by omega))
 replace FG:=hide (FG.out.below hb (by omega))
 clear kcKA klKA kcKB klKB kcKX klKX kcKY klKY
 have H14:=hide (yH H13.out H13.out.size hb);have hs14:=hb.size
 replace KA:=hide (KA.out.below hb KA.out.lt)
 replace KB:=hide (KB.out.below hb KB.out.lt)
 replace KX:=hide (KX.out.below hb KX.out.lt)
 replace KY:=hide (KY.out.below hb KY.out.lt)
 clear hb
 have kcKA:=KA.out.cell;have klKA:=KA.out.lt
 have kcKB:=KB.out.cell;have klKB:=KB.out.lt
 have kcKX:=KX.out.cell;have klKX:=KX.out.lt
 have kcKY:=KY.out.cell;have klKY:=KY.out.lt
 go_wp2_with fail
 refine(c_markCS _ _ p1 1 _ FG.out.1 (by omega) (by omega) (by omega)).mono ?_;rintro e w15 ⟨rfl,om,hg⟩
 clear kcKA klKA kcKB klKB kcKX klKX kcKY klKY
 have hs15:=hg.size
 have H15:=hide (FG.out.below_mark H14.out hg (by omega) H14.out.size)
 have hT:=Trn.of_grown hg
 replace KA:=hide (KA.out.trn hT (fun hm=>by have h1:=(FG.out.1.lt _ (by simpa using hm)).1;have h2:=FG.out.2 _ (by simpa using hm);omega))
 replace KB:=hide (KB.out.trn hT (fun hm=>by have h1:=(FG.out.1.lt _ (by simpa using hm)).1;have h2:=FG.out.2 _ (by simpa using hm);omega))
 replace KX:=hide (KX.out.trn hT (fun hm=>by have h1:=(FG.out.1.lt _ (by simpa using hm)).1;have h2:=FG.out.2 _ (by simpa using hm);omega))
 replace KY:=hide (KY.out.trn hT (fun hm=>by have h1:=(FG.out.1.lt _ (by simpa using hm)).1;have h2:=FG.out.2 _ (by simpa using hm);omega))
 replace FW:=hide (FW.out.other FG.out hg (by omega))
 replace FG:=hide (FG.out.mark om);clear om hg hT
 have kcKA:=KA.out.cell;have klKA:=KA.out.lt
 have kcKB:=KB.out.cell;have klKB:=KB.out.lt
 have kcKX:=KX.out.cell;have klKX:=KX.out.lt
 have kcKY:=KY.out.cell;have klKY:=KY.out.lt
 go_wp2_with fail
 refine(c_heldCS _ p1.length 1 _ FG.out.rd (by omega) (by omega)).mono ?_;rintro e w16 ⟨rfl,hb⟩
 replace FW:=hide (FW.out.below hb (by omega))
 replace FG:=hide (FG.out.below hb (by omega))
 clear kcKA klKA kcKB klKB kcKX klKX kcKY klKY
 have H16:=hide (yH H15.out H15.out.size hb);have hs16:=hb.size
 replace KA:=hide (KA.out.below hb KA.out.lt)
 replace KB:=hide (KB.out.below hb KB.out.lt)
 replace KX:=hide (KX.out.below hb KX.out.lt)
 replace KY:=hide (KY.out.below hb KY.out.lt)
 clear hb
 have kcKA:=KA.out.cell;have klKA:=KA.out.lt
 have kcKB:=KB.out.cell;have klKB:=KB.out.lt
 have kcKX:=KX.out.cell;have klKX:=KX.out.lt
 have kcKY:=KY.out.cell;have klKY:=KY.out.lt
 clear kcKA klKA kcKB klKB kcKX klKX kcKY klKY
 go_wp2_with fail
 go_region_held3 (fun w'=>(∀ i,w'.cell? ⟨w.heap.size,i,none⟩= #[.int .i64 x.zE,(.slice va1 vl1 vc1),(.slice va2 vl2 vc2),(.slice va3 vl3 vc3),(.slice va4 vl4 vc4),(.slice va5 vl5 vc5)][i]?)∧(∀ i,w'.cell? ⟨(w.heap.size+1),i,none⟩= #[.int .i64 y.zE,(.slice ua1 ul1 uc1),(.slice ua2 ul2 uc2),(.slice ua3 ul3 uc3),(.slice ua4 ul4 uc4),(.slice ua5 ul5 uc5)][i]?)) ((((try simp only[World.cell?_drew]));first|with_reducible exact⟨KA.out.cell,KB.out.cell⟩|with_reducible exact⟨KA27_0.out.cell,KB27_0.out.cell⟩|with_reducible exact⟨KA27_1.out.cell,KB27_1.out.cell⟩|with_reducible exact⟨KA27_2.out.cell,KB27_2.out.cell⟩|(trace_state;fail))) (first|(go_at_call_of 6 (Value.agg #[.int .i64 x.zE,(.slice va1 vl1 vc1),(.slice va2 vl2 vc2),(.slice va3 vl3 vc3),(.slice va4 vl4 vc4),(.slice va5 vl5 vc5)]);refine(b_toSession x _ _ sx (T.rds_below HX.out (by first|with_reducible exact H16.out|with_reducible exact H16.out.drew|with_reducible exact(below_drewN H16.out _)|with_reducible exact(H16.out.alloc (H16.out.size) _)|with_reducible exact(H16.out.alloc (H16.out.size) _).drew|with_reducible exact((H16.out.drew).alloc (H16.out.size) _)|with_reducible exact(below_drewN (H16.out.alloc (H16.out.size) _) _)|with_reducible exact((below_drewN H16.out _).alloc (H16.out.size) _)))).mono ?_;rintro e wA27 ⟨dx,rfl,hdx,hb⟩;have E27_0:=hide (show Below w16.heap.size w16 wA27 from(by first|with_reducible exact hb|with_reducible exact undrew hb|with_reducible exact undrewN hb|with_reducible exact yK hb|with_reducible exact undrew (yK hb)|with_reducible exact yK (undrew hb)|with_reducible exact undrewN (yK hb)|with_reducible exact yK (undrewN hb)));have D27_0:=hide (show Below w16.heap.size w16 wA27 from E27_0.out);have KA27_0:=hide (KA.out.below D27_0.out KA.out.lt);have KB27_0:=hide (KB.out.below D27_0.out KB.out.lt);clear hb)|(go_at_call_of 6 (Value.agg #[.int .i64 y.zE,(.slice ua1 ul1 uc1),(.slice ua2 ul2 uc2),(.slice ua3 ul3 uc3),(.slice ua4 ul4 uc4),(.slice ua5 ul5 uc5)]);refine(b_toSession y _ _ sy (T.rds_below HY.out (by first|with_reducible exact(yH H16.out H16.out.size D27_0.out)|with_reducible exact(yH H16.out H16.out.size D27_0.out).drew|with_reducible exact(below_drewN (yH H16.out H16.out.size D27_0.out) _)|with_reducible exact((yH H16.out H16.out.size D27_0.out).alloc ((yH H16.out H16.out.size D27_0.out).size) _)|with_reducible exact((yH H16.out H16.out.size D27_0.out).alloc ((yH H16.out H16.out.size D27_0.out).size) _).drew|with_reducible exact(((yH H16.out H16.out.size D27_0.out).drew).alloc ((yH H16.out H16.out.size D27_0.out).size) _)|with_reducible exact(below_drewN ((yH H16.out H16.out.size D27_0.out).alloc ((yH H16.out H16.out.size D27_0.out).size) _) _)|with_reducible exact((below_drewN (yH H16.out H16.out.size D27_0.out) _).alloc ((yH H16.out H16.out.size D27_0.out).size) _)))).mono ?_;rintro e wB27 ⟨dy,rfl,hdy,hb⟩;have E27_1:=hide (show Below wA27.heap.size wA27 wB27 from(by first|with_reducible exact hb|with_reducible exact undrew hb|with_reducible exact undrewN hb|with_reducible exact yK hb|with_reducible exact undrew (yK hb)|with_reducible exact yK (undrew hb)|with_reducible exact undrewN (yK hb)|with_reducible exact yK (undrewN hb)));have D27_1:=hide (show Below w16.heap.size w16 wB27 from yH D27_0.out D27_0.out.size E27_1.out);have KA27_1:=hide (KA.out.below D27_1.out KA.out.lt);have KB27_1:=hide (KB.out.below D27_1.out KB.out.lt);clear hb)|(go_at_call 7;refine(II.out _ _ _ (HTB.out.below (by first|with_reducible exact(yH H16.out H16.out.size D27_1.out)|with_reducible exact(yH H16.out H16.out.size D27_1.out).drew|with_reducible exact(below_drewN (yH H16.out H16.out.size D27_1.out) _)|with_reducible exact((yH H16.out H16.out.size D27_1.out).alloc ((yH H16.out H16.out.size D27_1.out).size) _)|with_reducible exact((yH H16.out H16.out.size D27_1.out).alloc ((yH H16.out H16.out.size D27_1.out).size) _).drew|with_reducible exact(((yH H16.out H16.out.size D27_1.out).drew).alloc ((yH H16.out H16.out.size D27_1.out).size) _)|with_reducible exact(below_drewN ((yH H16.out H16.out.size D27_1.out).alloc ((yH H16.out H16.out.size D27_1.out).size) _) _)|with_reducible exact((below_drewN (yH H16.out H16.out.size D27_1.out) _).alloc ((yH H16.out H16.out.size D27_1.out).size) _))) (T.rds_below hdx (by first|with_reducible exact E27_1.out|with_reducible exact E27_1.out.drew|with_reducible exact(below_drewN E27_1.out _)|with_reducible exact(E27_1.out.alloc (E27_1.out.size) _)|with_reducible exact(E27_1.out.alloc (E27_1.out.size) _).drew|with_reducible exact((E27_1.out.drew).alloc (E27_1.out.size) _)|with_reducible exact(below_drewN (E27_1.out.alloc (E27_1.out.size) _) _)|with_reducible exact((below_drewN E27_1.out _).alloc (E27_1.out.size) _))) (T.rds_below hdy (by first|with_reducible exact(Below.refl _ _)|with_reducible exact(Below.refl _ _).drew|with_reducible exact(below_drewN (Below.refl _ _) _)|with_reducible exact((Below.refl _ _).alloc (Nat.le_refl _) _)|with_reducible exact((Below.refl _ _).alloc (Nat.le_refl _) _).drew|with_reducible exact(((Below.refl _ _).drew).alloc (Nat.le_refl _) _)|with_reducible exact(below_drewN ((Below.refl _ _).alloc (Nat.le_refl _) _) _)|with_reducible exact((below_drewN (Below.refl _ _) _).alloc (Nat.le_refl _) _)))).mono ?_;rintro e wC27 ⟨vv27,rfl,ow,hb⟩;have E27_2:=hide (show Below wB27.heap.size wB27 wC27 from(by first|with_reducible exact hb|with_reducible exact undrew hb|with_reducible exact undrewN hb|with_reducible exact yK hb|with_reducible exact undrew (yK hb)|with_reducible exact yK (undrew hb)|with_reducible exact undrewN (yK hb)|with_reducible exact yK (undrewN hb)));have D27_2:=hide (show Below w16.heap.size w16 wC27 from yH D27_1.out D27_1.out.size E27_2.out);have KA27_2:=hide (KA.out.below D27_2.out KA.out.lt);have KB27_2:=hide (KB.out.below D27_2.out KB.out.lt);have FH:=hide (show FrG chgV 3 71 wC27 w16.heap.size wC27.heap.size vv27 p1 from⟨ow.more D27_1.out.size,fun k hk=>(ow.lt k hk).2⟩);clear hb))
 have hb:=D27_2.out
 generalize wC27=w17 at *
 replace FW:=hide (FW.out.below hb (by omega))
 replace FG:=hide (FG.out.below hb (by omega))
 have H17:=hide (yH H16.out H16.out.size hb);have hs17:=hb.size
 replace KA:=hide (KA.out.below hb KA.out.lt)
 replace KB:=hide (KB.out.below hb KB.out.lt)
 replace KX:=hide (KX.out.below hb KX.out.lt)
 replace KY:=hide (KY.out.below hb KY.out.lt)
 clear hb
 have kcKA:=KA.out.cell;have klKA:=KA.out.lt
 have kcKB:=KB.out.cell;have klKB:=KB.out.lt
 have kcKX:=KX.out.cell;have klKX:=KX.out.lt
 have kcKY:=KY.out.cell;have klKY:=KY.out.lt
 go_wp2_with fail
 refine(c_eqCS _ _ p1 _ FH.out.rd FW.out.rd).mono ?_;rintro e w18 ⟨rfl,hb⟩
 replace FW:=hide (FW.out.below hb (by omega))
 replace FG:=hide (FG.out.below hb (by omega))
 replace FH:=hide (FH.out.below hb (by omega))
 clear kcKA klKA kcKB klKB kcKX klKX kcKY klKY
 have H18:=hide (yH H17.out H17.out.size hb);have hs18:=hb.size
 replace KA:=hide (KA.out.below hb KA.out.lt)
 replace KB:=hide (KB.out.below hb KB.out.lt)
 replace KX:=hide (KX.out.below hb KX.out.lt)
 replace KY:=hide (KY.out.below hb KY.out.lt)
 clear hb
 have kcKA:=KA.out.cell;have klKA:=KA.out.lt
 have kcKB:=KB.out.cell;have klKB:=KB.out.lt
 have kcKX:=KX.out.cell;have klKX:=KX.out.lt
 have kcKY:=KY.out.cell;have klKY:=KY.out.lt
 go_wp2_with fail
 refine(c_heldCS _ p1.length 1 _ FG.out.rd (by omega) (by omega)).mono ?_;rintro e w19 ⟨rfl,hb⟩
 replace FW:=hide (FW.out.below hb (by omega))
 replace FG:=hide (FG.out.below hb (by omega))
 replace FH:=hide (FH.out.below hb (by omega))
 clear kcKA klKA kcKB klKB kcKX klKX kcKY klKY
 have H19:=hide (yH H18.out H18.out.size hb);have hs19:=hb.size
 replace KA:=hide (KA.out.below hb KA.out.lt)
 replace KB:=hide (KB.out.below hb KB.out.lt)
 replace KX:=hide (KX.out.below hb KX.out.lt)
 replace KY:=hide (KY.out.below hb KY.out.lt)
 clear hb
 have kcKA:=KA.out.cell;have klKA:=KA.out.lt
 have kcKB:=KB.out.cell;have klKB:=KB.out.lt
 have kcKX:=KX.out.cell;have klKX:=KX.out.lt
 have kcKY:=KY.out.cell;have klKY:=KY.out.lt
 go_wp2
 go_ret
 exact⟨rfl,H19.out⟩
end Go.Proofs.YtbgedljbgkcpiaaGreatDoor
