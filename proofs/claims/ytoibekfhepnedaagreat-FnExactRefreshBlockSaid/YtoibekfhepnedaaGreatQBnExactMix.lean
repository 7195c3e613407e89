/- Contract: a cache refreshed, by the reference. -/
import Derived.Test.YtoibekfhepnedaaGreatQBmExactMix
import Derived.Test.YtoibekfhepnedaaGreatQBiExactMix
import Derived.Test.YtoibekfhepnedaaGreatQAqExactMix
set_option linter.unusedVariables false
set_option linter.unusedSimpArgs false
set_option maxHeartbeats 8000000
set_option maxRecDepth 100000
namespace Go.Proofs.YtoibekfhepnedaaGreat
open Go.RowKit
theorem uEz (x:xX) (b o:Nat) (v:Value) (l:List Int) (w:World) (hs:x.small) (hv:uV x) (hgd:x.good) (hl:RdI w v l) (h:T.at w x.fs b o):Calls Tryz.prog 84 #[.pointer (some ⟨b,o,none⟩),v] w fun e w'=> ∃ v1 v2 v3 v4 v5 v6 v7 F,e= .returned (.agg #[.int .i64 x.zB.zF,v1,v2,v3,v4,v5,v6,v7])∧Nw w w' (refF x l).fs F [.int .i64 x.zB.zF,v1,v2,v3,v4,v5,v6,v7]:=by
 have HAT:=xN h;obtain⟨hlt0,cs,hr,hc⟩:=h;obtain⟨v1,v2,v3,v4,v5,v6,v7,rfl,h1,h2,h3,h4,h5,h6,h7⟩:=xX.yV hr;clear hr;obtain⟨va1,vc1,rfl,vl1,vm1,R1,HX1⟩:=oG h1;clear h1;obtain⟨va2,vc2,rfl,vl2,vm2,R2,HX2⟩:=oG h2;clear h2;obtain⟨va3,vc3,rfl,vl3,vm3,R3,HX3⟩:=oI h3;clear h3;obtain⟨va4,vc4,rfl,vl4,vm4,R4,HX4⟩:=oG h4;clear h4;obtain⟨va5,vc5,rfl,vl5,vm5,R5,HX5⟩:=oG h5;clear h5;obtain⟨va6,vc6,rfl,vl6,vm6,R6,HX6⟩:=oI h6;clear h6;obtain⟨va7,vc7,rfl,vl7,vm7,R7,HX7⟩:=oI h7;clear h7;have HL:=xN hlt0;have HCC:=xN hc;have HB0:=xN (Below.refl w.heap.size w);clear hlt0 hc;have HSS:=xN (show x.zB.small from⟨hs.1,hs.2.1,hs.2.2.1,hs.2.2.2.1,hs.2.2.2.2.1⟩);have HML:=xN (show x.yF.length≤1048576 from hs.2.2.2.2.2.1);have HV:=xN hv;have HGS:=xN (show x.zB.good from⟨hgd.1,hgd.2.1,hgd.2.2.1,hgd.2.2.2.1,hgd.2.2.2.2.1,hgd.2.2.2.2.2.1⟩);have hdl:x.yC.length≤1048576:=hs.2.2.2.2.2.2;clear hs hgd;have i1:=xK.1 hv.session.length;have hml:=hv.length;have hmb:x.yF.length≤1000:=zM;have HXL:=xN (show (zLz x.zB).length=x.yF.length by rw[uWz];omega);have HLQ:=xN hml;clear hv hml i1;have HL9:=xN hl;clear hl;have HATS:=xN (show T.at w x.zB.fs b o from T.at_sub [] [.int .i64 x.zB.zF,(.slice va1 x.zB.zI.length vc1),(.slice va2 x.zB.zL.length vc2),(.slice va3 x.zB.zX.length vc3),(.slice va4 x.zB.zO.length vc4),(.slice va5 x.zB.zH.zD.length vc5)] [(.slice va6 x.yF.length vc6),(.slice va7 x.yC.length vc7)] HL.out HCC.out (xS.rd_mk R1.out R2.out (T.xB.2 R3.out) R4.out R5.out));have HBa:=xN (show Below w.heap.size w (w.alloc (.cells #[.int .i64 0,.slice none 0 0,.slice none 0 0,.slice none 0 0,.slice none 0 0,.slice none 0 0,.slice none 0 0,.slice none 0 0] 65)) from zR.alloc zJ _);have HR:=xN (Bk.born w 65 #[.int .i64 0,.slice none 0 0,.slice none 0 0,.slice none 0 0,.slice none 0 0,.slice none 0 0,.slice none 0 0,.slice none 0 0]);generalize hW:(w.alloc (.cells #[.int .i64 0,.slice none 0 0,.slice none 0 0,.slice none 0 0,.slice none 0 0,.slice none 0 0,.slice none 0 0,.slice none 0 0] 65))=W0 at *;have HW:=xN hW;clear hW
 go_enter Tryz.func84,Tryz.ntmps84
 have p6:W0.cell? ⟨b,o+6,none⟩=some (.slice va6 x.yF.length vc6):=(HBa.out.cell HL.out).trans (HCC.out 6 _ rfl);have lb:b<W0.heap.size:=zW HL.out HBa.out.size;have cR:=HR.out.cell;have lR:=HR.out.lt;go_wp2_with fail
 rw[HW.out];rename_i Q1 K1 hK1
 have REST: ∀ (g bd:Nat) (u9 u10 u11 u12 u13 u14 u15 u16 u17 u18 u19:Value) (A1 A2 A3 A4 A5 A6:Option Addr) (L1 C1 L2 C2 L3 C3 L4 C4 L5 C5 L6 C6:Nat) (F:List Nat) (W1:World),RfM W0 W1 x.zB F [.int .i64 x.zB.zF,.slice A1 L1 C1,.slice A2 L2 C2,.slice A3 L3 C3,.slice A4 L4 C4,.slice A5 L5 C5] g #[.int .i64 x.zB.zF,.slice A1 L1 C1,.slice A2 L2 C2,.slice A3 L3 C3,.slice A4 L4 C4,.slice A5 L5 C5,.slice A6 L6 C6,.slice (some ⟨bd,0,none⟩) 0 0] (.slice A6 L6 C6) (.slice (some ⟨bd,0,none⟩) 0 0) x.yF []→K1 { tmps:= #[.pointer (some ⟨b,o,none⟩),v,undef,undef,.pointer (some ⟨w.heap.size,0,none⟩),.pointer (some ⟨g,0,none⟩),undef,undef,undef,u9,u10,u11,u12,u13,u14,u15,u16,u17,u18,u19,undef,undef,undef,undef,undef,undef,undef,undef,undef,undef,undef,undef,undef,undef,undef,undef,undef,undef,undef,undef,undef,undef,undef,undef,undef,undef,undef,undef,undef,undef,undef,undef,undef,undef,undef,undef,undef,undef,undef,undef,undef,undef,undef,undef,undef,undef,undef,undef,undef,undef,undef,undef,undef,undef,undef,undef,undef],defers:= [] } W1:=by
  intro g bd u9 u10 u11 u12 u13 u14 u15 u16 u17 u18 u19 A1 A2 A3 A4 A5 A6 L1 C1 L2 C2 L3 C3 L4 C4 L5 C5 L6 C6 F w1 hm;refine hK1 _ _ ?_;clear hK1 K1 p6 lb cR lR;have HM1:=xN hm;have HB1:=xN (yQ HBa.out HBa.out.size hm.bel);clear hm;go_wp2_with fail
  refine(c_l27Mix x.zB b o _ HV.out.session HGS.out (T.at_below HATS.out HB1.out)).mono ?_;rintro e w2 ⟨vm,rfl,ho,hb⟩;obtain⟨mA,mc,hvm,-,-,-⟩:=(OwI.rd ho).open_;rw[HXL.out] at hvm;subst hvm;have HMX:=xN ho;have HM2:=xN (HM1.out.below hb);have hs12:=hb.size;clear ho hb;have HMQ:=xN (fun b hb=>(HM1.out.mix.lt b hb).2);go_wp2
  go_loopw [7] (fun i wr=> ∃ k:Nat,k≤x.yF.length∧i= .int .i64 (k:Int)∧RfM W0 wr x.zB F [.int .i64 x.zB.zF,.slice A1 L1 C1,.slice A2 L2 C2,.slice A3 L3 C3,.slice A4 L4 C4,.slice A5 L5 C5] g #[.int .i64 x.zB.zF,.slice A1 L1 C1,.slice A2 L2 C2,.slice A3 L3 C3,.slice A4 L4 C4,.slice A5 L5 C5,.slice A6 L6 C6,.slice (some ⟨bd,0,none⟩) 0 0] (.slice A6 L6 C6) (.slice (some ⟨bd,0,none⟩) 0 0) (refM x.yF (zLz x.zB) l k) []∧OwI 2 wr w1.heap.size (.slice mA x.yF.length mc) (zLz x.zB)∧w1.heap.size≤wr.heap.size) (fun i _=>x.yF.length - (intOf i).toNat)
  case atStart=>exact⟨0,Nat.zero_le _,rfl,by rw[refM_zero];exact HM2.out,HMX.out,hs12⟩
  case round=>
   obtain⟨k,hk,rfl,hm,hx,hz⟩:=hrel;have HMk:=xN hm;have HXk:=xN hx;have HB:=xN (yQ HBa.out HBa.out.size hm.bel);clear hm hx;have e2:IntKind.i64.wrap ((k:Int)+1)=(k:Int)+1:=IntWalk.i64_in _ zM;have p0:wr.cell? ⟨b,o,none⟩=some (.int .i64 x.zB.zF):=(HB.out.cell HL.out).trans (HCC.out 0 _ rfl);have lb:b<wr.heap.size:=zW HL.out HB.out.size;by_cases hlt:k<x.yF.length
   rotate_left
   ·
    obtain rfl:k=x.yF.length:=by omega
    have hnl: ¬ ((x.yF.length:Int)<x.zB.zF):=by have:=HLQ.out;omega
    have HM3:=xN HMk.out;have hz3:W0.heap.size≤wr.heap.size:=HMk.out.bel.size;clear HMk HXk HM2 HMX;generalize hR:refM x.yF (zLz x.zB) l x.yF.length=RM at *;have HRM:=xN hR;clear hR;go_wp2;clear p0 lb
    go_loopw [8] (fun i wr=> ∃ (k:Nat) (tA:Option Addr) (tL tC:Nat),k≤x.yC.length∧i= .int .i64 (k:Int)∧RfM W0 wr x.zB F [.int .i64 x.zB.zF,.slice A1 L1 C1,.slice A2 L2 C2,.slice A3 L3 C3,.slice A4 L4 C4,.slice A5 L5 C5] g #[.int .i64 x.zB.zF,.slice A1 L1 C1,.slice A2 L2 C2,.slice A3 L3 C3,.slice A4 L4 C4,.slice A5 L5 C5,.slice A6 L6 C6,.slice tA tL tC] (.slice A6 L6 C6) (.slice tA tL tC) RM (refD x.yC l k)) (fun i _=>x.yC.length - (intOf i).toNat)
    case atStart=>exact⟨0,_,_,_,Nat.zero_le _,rfl,HM3.out⟩
    case round=>
     obtain⟨k,tA,tL,tC,hk,rfl,hm⟩:=hrel;have HMd:=xN hm;have HBd:=xN (yQ HBa.out HBa.out.size hm.bel);have HRd:=xN (HR.out.below hm.bel HR.out.lt);clear hm;have p7:wr.cell? ⟨b,o+7,none⟩=some (.slice va7 x.yC.length vc7):=(HBd.out.cell HL.out).trans (HCC.out 7 _ rfl);have lb:b<wr.heap.size:=zW HL.out HBd.out.size;have kG:=HMd.out.box.cell;have mG:=HMd.out.box.lt;have fG:=HMd.out.box.free;have kR:=HRd.out.cell;have mR:=HRd.out.lt;have fR:=HRd.out.free;by_cases hlt:k<x.yC.length
     rotate_left
     ·
      obtain rfl:k=x.yC.length:=by omega
      go_wp2;refine bodyPost_ret (v:= .agg #[.int .i64 x.zB.zF,.slice A1 L1 C1,.slice A2 L2 C2,.slice A3 L3 C3,.slice A4 L4 C4,.slice A5 L5 C5,.slice A6 L6 C6,.slice tA tL tC]) (by simp[results,Tryz.results84,go_sem,kR,fR,mR]) rfl ?_;obtain⟨k1,k2,k3⟩:=HMd.out.own;generalize F++(Value.slice A6 L6 C6).ownBlock.toList++(Value.slice tA tL tC).ownBlock.toList=FF at *;have hz1:=HR.out.lt;have hz0:=HBa.out.size;have hzR:w.heap.size ∉ FF:=fun hm=>by have:=k3 _ hm;omega
      have e9:refF x l=⟨x.zB,RM,refD x.yC l x.yC.length⟩:=by unfold refF;rw[HRM.out]
      rw[e9];exact⟨_,_,_,_,_,_,_,FF,rfl,⟨(T.yX (T.yX (T.yX (T.yX (T.yX (T.yX (T.yX (T.yX k1 hzR _ _) hzR _ _) hzR _ _) hzR _ _) hzR _ _) hzR _ _) hzR _ _) hzR _ _),k2,fun q hq=>by have:=k3 q hq;omega,((((((((HBd.out.setCell zQ _).setCell zQ _).setCell zQ _).setCell zQ _).setCell zQ _).setCell zQ _).setCell zQ _).setCell zQ _)⟩⟩
     have hgx:=gE hlt;obtain⟨bX,oX,hAX,hbX,hcX⟩:=HX7.out k _ hgx;subst hAX;generalize x.yC[k]=ax at *;have HGX:=xN hgx;clear hgx;have cX:=(HBd.out.cell hbX).trans hcX;have lX:bX<wr.heap.size:=zW hbX HBd.out.size;have HCX:=xN hcX;have HBX:=xN hbX;clear hcX hbX;have e2:IntKind.i64.wrap ((k:Int)+1)=(k:Int)+1:=IntWalk.i64_in _ zM;by_cases h5:ax ∈ l
     ·
      have q5:decide (ax ∈ l)=true:=decide_eq_true h5;have HQ:=xN (refD_no HGX.out h5);clear h5;go_wp2_with (go_at_call 58;refine(zRz _ l _ _ (Rd.below HL9.out HBd.out)).mono ?_;rintro e _ ⟨rfl,rfl⟩;rw[q5])
      go_roundw
      case rel=>exact⟨k+1,tA,tL,tC,by omega,by go_num,by rw[HQ.out];exact HMd.out⟩
      case measure=>simp[intOf];omega
     have q5:decide (ax ∈ l)=false:=decide_eq_false h5;have HQ:=xN (refD_yes HGX.out h5);clear h5;have hll:(refD x.yC l k).length+1≤8796093022208:=by have:=refD_len x.yC l k;omega
     have hsz:W0.heap.size≤wr.heap.size:=HMd.out.bel.size;go_wp2_with (go_at_call 58;refine(zRz _ l _ _ (Rd.below HL9.out HBd.out)).mono ?_;rintro e _ ⟨rfl,rfl⟩;rw[q5])
     have HKD:=xN (fun(w':World) (m:RfM W0 w' x.zB F [.int .i64 x.zB.zF,.slice A1 L1 C1,.slice A2 L2 C2,.slice A3 L3 C3,.slice A4 L4 C4,.slice A5 L5 C5] g #[.int .i64 x.zB.zF,.slice A1 L1 C1,.slice A2 L2 C2,.slice A3 L3 C3,.slice A4 L4 C4,.slice A5 L5 C5,.slice A6 L6 C6,.slice tA tL tC] (.slice A6 L6 C6) (.slice tA tL tC) RM (refD x.yC l k))=>(⟨m.box.cell,((yQ HBa.out HBa.out.size m.bel).cell HL.out).trans (HCC.out 7 _ rfl),((yQ HBa.out HBa.out.size m.bel).cell HBX.out).trans HCX.out⟩:(∀ i,w'.cell? ⟨g,i,none⟩= #[.int .i64 x.zB.zF,.slice A1 L1 C1,.slice A2 L2 C2,.slice A3 L3 C3,.slice A4 L4 C4,.slice A5 L5 C5,.slice A6 L6 C6,.slice tA tL tC][i]?)∧w'.cell? ⟨b,o+7,none⟩=some (.slice (some ⟨bX,oX,none⟩) x.yC.length vc7)∧w'.cell? ⟨bX,oX+k,none⟩=some (.int .i64 ax)));have HKE:=xN (fun(w':World) (v':Value) (d':List Int) (m:RfM W0 w' x.zB F [.int .i64 x.zB.zF,.slice A1 L1 C1,.slice A2 L2 C2,.slice A3 L3 C3,.slice A4 L4 C4,.slice A5 L5 C5] g #[.int .i64 x.zB.zF,.slice A1 L1 C1,.slice A2 L2 C2,.slice A3 L3 C3,.slice A4 L4 C4,.slice A5 L5 C5,.slice A6 L6 C6,.slice tA tL tC] (.slice A6 L6 C6) v' RM d')=>(⟨m.box.cell,((yQ HBa.out HBa.out.size m.bel).cell HL.out).trans (HCC.out 7 _ rfl),((yQ HBa.out HBa.out.size m.bel).cell HBX.out).trans HCX.out⟩:(∀ i,w'.cell? ⟨g,i,none⟩= #[.int .i64 x.zB.zF,.slice A1 L1 C1,.slice A2 L2 C2,.slice A3 L3 C3,.slice A4 L4 C4,.slice A5 L5 C5,.slice A6 L6 C6,.slice tA tL tC][i]?)∧w'.cell? ⟨b,o+7,none⟩=some (.slice (some ⟨bX,oX,none⟩) x.yC.length vc7)∧w'.cell? ⟨bX,oX+k,none⟩=some (.int .i64 ax)));clear kG mG fG kR mR fR cX lX p7 lb;have HMr:=xN (HMd.out.below ((Below.refl wr.heap.size wr).drew));refine wH (fun w'=>(∀ i,w'.cell? ⟨g,i,none⟩= #[.int .i64 x.zB.zF,.slice A1 L1 C1,.slice A2 L2 C2,.slice A3 L3 C3,.slice A4 L4 C4,.slice A5 L5 C5,.slice A6 L6 C6,.slice tA tL tC][i]?)∧w'.cell? ⟨b,o+7,none⟩=some (.slice (some ⟨bX,oX,none⟩) x.yC.length vc7)∧w'.cell? ⟨bX,oX+k,none⟩=some (.int .i64 ax)) [11,12] (by kernel_rfl) ?_ (fun hS0=>?_)
     ·exact HKD.out _ HMr.out
     generalize hwd:wr.drew=we at *;clear hwd;refine zN 0 hS0 ?_;refine zN 1 hS0 ?_;refine zN 2 hS0 ?_;refine zN 3 hS0 ?_;refine zN 4 hS0 ?_;refine zN 5 hS0 ?_;refine zN 6 hS0 ?_;refine zN 7 hS0 ?_;refine zN 8 hS0 ?_;have HA9:=xN (show Below we.heap.size we (we.alloc (.cells #[.int .i64 ax] 2)) from zR.alloc zJ _);have HM9:=xN (HMr.out.below HA9.out);have HL1:=xN (OwI.rd (lit1 we ax));refine pN 9 (fun K hK=>?_);go_simp;refine uN hK ?_ (fun hS1=>?_)
     ·exact HKD.out _ HM9.out
     clear hK K hS0;refine pN 10 (fun K hK=>?_);refine uL rfl _ _ rfl rfl HM9.out.drt (ys:= [ax]) rfl HL1.out (by simp only[List.length_cons,List.length_nil];omega) HM9.out.bel.size ?_;intro v8 w8 ho8 hg8 hv8;obtain⟨t8,l8,c8,rfl⟩:=T.xE (T.ow_ints.2 ⟨ho8.more (Nat.zero_le _),rfl⟩);have HM8:=xN (HM9.out.app ho8 hg8 hv8);clear ho8 hg8 hv8;refine uN hK ?_ (fun hS2=>?_)
     ·exact HKE.out _ _ _ HM8.out
     clear hK K hS1;refine q2N 11 12 ?_;have kG8:=HM8.out.box.cell;have mG8:=HM8.out.box.lt;have fG8:=HM8.out.box.free;go_wp2
     go_roundw
     case rel=>exact⟨k+1,t8,l8,c8,by omega,by go_num,by rw[HQ.out];have:=HM8.out.setB 7 (.slice t8 l8 c8);simpa using this⟩
     case measure=>simp[intOf];omega
   have hnl:(k:Int)<x.zB.zF:=by have:=HLQ.out;omega
   have hlm:k<(zLz x.zB).length:=by rw[HXL.out];exact hlt
   have hgm:=gE hlm;obtain⟨bM,cM,hAM,-⟩: ∃ bM cM,Value.slice mA x.yF.length mc= .slice (some ⟨bM,0,none⟩) (zLz x.zB).length cM∧True:=by obtain⟨g9,c9,e9,_⟩:=HXk.out.form zM;exact⟨g9,c9,e9,trivial⟩
   injection hAM with a1 a2 a3;subst a1 a3;clear a2;obtain⟨b6,c6,hA6,-⟩: ∃ b6 c6,Value.slice A6 L6 C6= .slice (some ⟨b6,0,none⟩) x.yF.length c6∧True:=by obtain⟨g9,c9,e9,_⟩:=HMk.out.mix.form (by rw[uD];omega);rw[uD] at e9;exact⟨g9,c9,e9,trivial⟩
   injection hA6 with a4 a5 a6;subst a4 a5 a6;have cX:=HXk.out.yJz hgm;have HGD:=xN (show (zLz x.zB).getD k 0=(zLz x.zB)[k] by rw[List.getD_eq_getElem?_getD,hgm];rfl);generalize (zLz x.zB)[k]=am at *;clear hgm;have hok:k<(refM x.yF (zLz x.zB) l k).length:=(by rw[uD];exact hlt);have hgo:=gE hok;have cO:=HMk.out.mix.yJz hgo;generalize (refM x.yF (zLz x.zB) l k)[k]=ao at *;clear hgo hok;have hdv:(k:Int).tdiv 16=(k:Int) / 16:=Int.tdiv_eq_ediv_of_nonneg zM;have HNB:=xN (show b6<w1.heap.size from HMQ.out b6 rfl);have HCX:=xN cX;have HCO:=xN cO;clear cX cO;by_cases h5:(k:Int) / 16 ∈ l
   ·
    have q5:decide ((k:Int) / 16 ∈ l)=true:=decide_eq_true h5;have HQ:=xN (refM_yes (m:=x.yF) (mix:=(zLz x.zB)) h5);clear h5;go_wp2_with (go_at_call 58;refine(zRz _ l _ _ (Rd.below HL9.out HB.out)).mono ?_;rintro e _ ⟨rfl,rfl⟩;rw[q5])
    clear p0 lb;have HMr:=xN (HMk.out.below ((Below.refl wr.heap.size wr).drew));have HXr:=xN (wX HXk.out ((Below.refl wr.heap.size wr).drew));have HCXr:=xN (show wr.drew.cell? ⟨bM,k,none⟩=some (.int .i64 am) from HCX.out);have HCOr:=xN (show wr.drew.cell? ⟨b6,k,none⟩=some (.int .i64 ao) from HCO.out);have hzr:w1.heap.size≤wr.drew.heap.size:=hz;refine wH (fun w'=>(∀ i,w'.cell? ⟨g,i,none⟩= #[.int .i64 x.zB.zF,.slice A1 L1 C1,.slice A2 L2 C2,.slice A3 L3 C3,.slice A4 L4 C4,.slice A5 L5 C5,.slice (some ⟨b6,0,none⟩) x.yF.length C6,.slice (some ⟨bd,0,none⟩) 0 0][i]?)∧w'.cell? ⟨bM,k,none⟩=some (.int .i64 am)) [8] (by kernel_rfl) ?_ (fun hS0=>?_)
    ·exact⟨HMr.out.box.cell,HCXr.out⟩
    generalize hwd:wr.drew=we at *;clear hwd;refine zN 0 hS0 ?_;refine zN 1 hS0 ?_;refine zN 2 hS0 ?_;refine zN 3 hS0 ?_;refine zN 4 hS0 ?_;refine zN 5 hS0 ?_;refine zN 6 hS0 ?_;refine zN 7 hS0 ?_;refine vJ (i:=8) (o:=_) (by kernel_rfl) rfl (by kernel_rfl) (by decide) ?_;have cO:=HCOr.out;have fO:=HMr.out.mix.freeN k;have lO:=(HMr.out.mix.lt b6 rfl).2;go_wp2
    go_roundw
    case rel=>exact⟨k+1,by omega,by go_num,by rw[HQ.out,HGD.out];exact HMr.out.setM k am,OwI.far (E:=2) (xs:=(zLz x.zB)) HXr.out (fun q hq e=>by have h1:=(OwI.lt (E:=2) (xs:=(zLz x.zB)) HXr.out q hq).1;have h2:=HNB.out;have h3:q=b6:=e;omega) _,by simpa[World.setCell] using hzr⟩
    case measure=>simp[intOf];omega
   have q5:decide ((k:Int) / 16 ∈ l)=false:=decide_eq_false h5;have HQ:=xN (refM_no (m:=x.yF) (mix:=(zLz x.zB)) h5);clear h5;go_wp2_with (go_at_call 58;refine(zRz _ l _ _ (Rd.below HL9.out HB.out)).mono ?_;rintro e _ ⟨rfl,rfl⟩;rw[q5])
   go_roundw
   case rel=>exact⟨k+1,by omega,by go_num,by rw[HQ.out];exact HMk.out,HXk.out,hz⟩
   case measure=>simp[intOf];omega
 have HREST:=xN REST;clear REST hK1;clear p6 lb cR lR;have HDr:=xN ((Below.refl W0.heap.size W0).drew);have HKP:=xN (fun(w':World) (hw:Below W0.heap.size W0 w')=>(((yQ HBa.out HBa.out.size hw).cell HL.out).trans (HCC.out 6 _ rfl):w'.cell? ⟨b,o+6,none⟩=some (.slice va6 x.yF.length vc6)));refine wH (fun w'=>w'.cell? ⟨b,o+6,none⟩=some (.slice va6 x.yF.length vc6)) [12] (by kernel_rfl) ?_ (fun hS0=>?_)
 ·exact HKP.out _ HDr.out
 generalize hwd:W0.drew=wd at *;clear hwd;refine zN 0 hS0 ?_;refine zN 1 hS0 ?_;refine zN 2 hS0 ?_;refine zN 4 hS0 ?_;refine zN 5 hS0 ?_;refine zN 6 hS0 ?_;refine zN 7 hS0 ?_;have H_0:=xN (show Acc W0 wd x.zB x.yF none none none none from Acc.start HDr.out);refine yVy (i:=3) (j:=9) (l:=11) (o:=_) (o2:=_) (o3:=_) (by kernel_rfl) rfl rfl rfl (fun K hK=>?_) (fun K hK=>?_) (fun K hK=>?_)
 ·
  go_simp;go_wp2_with (go_at_call 38;refine(vMz x.zB b o _ HSS.out (T.at_below HATS.out (yQ HBa.out HBa.out.size H_0.out.bel))).mono ?_;rintro e wS ⟨v1,v2,v3,v4,v5,F,rfl,hN⟩)
  obtain⟨⟨A1,L1,C1,rfl⟩,⟨A2,L2,C2,rfl⟩,⟨A3,L3,C3,rfl⟩,⟨A4,L4,C4,rfl⟩,⟨A5,L5,C5,rfl⟩⟩:=xS.sl5 (T.ows_rds _ _ _ hN.ows);have H_1:=xN (H_0.out.addSes hN);clear hN;refine uN hK ?_ (fun hS1=>?_)
  ·exact HKP.out _ H_1.out.bel
  clear hK K hS0;refine yVy (i:=8) (j:=9) (l:=11) (o:=_) (o2:=_) (o3:=_) (by kernel_rfl) rfl rfl rfl (fun K hK=>?_) (fun K hK=>?_) (fun K hK=>?_)
  ·
   go_simp;go_wp2_with (go_at_call 95;refine(uB _ x.yF _ (Rd.below R6.out (yQ HBa.out HBa.out.size H_1.out.bel)) HML.out).mono ?_;rintro e wM ⟨vm,rfl,ho,hb⟩)
   obtain⟨A6,L6,C6,rfl⟩:=T.xE (T.ow_ints.2 ⟨ho.more (Nat.zero_le _),rfl⟩);have H_2:=xN (H_1.out.addMix ho hb);clear ho hb;refine uN hK ?_ (fun hS2=>?_)
   ·exact HKP.out _ H_2.out.bel
   clear hK K hS1;refine vS (i:=9) (j:=11) (o:=_) (o2:=_) (by kernel_rfl) rfl rfl (fun K hK=>?_) (fun K hK=>?_)
   ·
    have H_3:=xN H_2.out.addBs;generalize hwb:(wM.alloc (.cells #[] 2))=wE at *;go_simp
    try rw[hwb]
    clear hwb;refine uN hK ?_ (fun hS3=>?_)
    ·exact HKP.out _ H_3.out.bel
    clear hK K hS2;refine zN 10 hS3 ?_;refine pN 11 (fun K hK=>?_);have H_4:=xN H_3.out.addBox;generalize hwb:(wE.alloc (.cells #[.int .i64 0,.slice none 0 0,.slice none 0 0,.slice none 0 0,.slice none 0 0,.slice none 0 0,.slice none 0 0,.slice none 0 0] 65))=wB at *;go_simp
    try rw[hwb]
    clear hwb;refine uN hK ?_ (fun hS4=>?_)
    ·exact HKP.out _ H_4.out.bel
    clear hK K hS3;refine vJ (i:=12) (o:=_) (by kernel_rfl) rfl (by kernel_rfl) (by decide) ?_;have hm0:=H_4.out.fin;have cG:=hm0.box.cell;have fG:=hm0.box.free;have lG:=hm0.box.lt;have HF:=xN hm0;clear hm0;go_wp2;exact HREST.out _ _ _ _ _ _ _ _ _ _ _ _ _ _ _ _ _ _ _ _ _ _ _ _ _ _ _ _ _ _ _ F _ HF.out.fill
   ·
    have H_5:=xN H_2.out.addBox;generalize hwb:(wM.alloc (.cells #[.int .i64 0,.slice none 0 0,.slice none 0 0,.slice none 0 0,.slice none 0 0,.slice none 0 0,.slice none 0 0,.slice none 0 0] 65))=wB at *;go_simp
    try rw[hwb]
    clear hwb;refine uN hK ?_ (fun hS3=>?_)
    ·exact HKP.out _ H_5.out.bel
    clear hK K hS2;refine pN 9 (fun K hK=>?_);have H_6:=xN H_5.out.addBs;generalize hwb:(wB.alloc (.cells #[] 2))=wE at *;go_simp
    try rw[hwb]
    clear hwb;refine uN hK ?_ (fun hS4=>?_)
    ·exact HKP.out _ H_6.out.bel
    clear hK K hS3;refine zN 10 hS4 ?_;refine vJ (i:=12) (o:=_) (by kernel_rfl) rfl (by kernel_rfl) (by decide) ?_;have hm0:=H_6.out.fin;have cG:=hm0.box.cell;have fG:=hm0.box.free;have lG:=hm0.box.lt;have HF:=xN hm0;clear hm0;go_wp2;exact HREST.out _ _ _ _ _ _ _ _ _ _ _ _ _ _ _ _ _ _ _ _ _ _ _ _ _ _ _ _ _ _ _ F _ HF.out.fill
  ·
   have H_7:=xN H_1.out.addBs;generalize hwb:(wS.alloc (.cells #[] 2))=wE at *;go_simp
   try rw[hwb]
   clear hwb;refine uN hK ?_ (fun hS2=>?_)
   ·exact HKP.out _ H_7.out.bel
   clear hK K hS1;refine vS (i:=8) (j:=11) (o:=_) (o2:=_) (by kernel_rfl) rfl rfl (fun K hK=>?_) (fun K hK=>?_)
   ·
    go_simp;go_wp2_with (go_at_call 95;refine(uB _ x.yF _ (Rd.below R6.out (yQ HBa.out HBa.out.size H_7.out.bel)) HML.out).mono ?_;rintro e wM ⟨vm,rfl,ho,hb⟩)
    obtain⟨A6,L6,C6,rfl⟩:=T.xE (T.ow_ints.2 ⟨ho.more (Nat.zero_le _),rfl⟩);have H_8:=xN (H_7.out.addMix ho hb);clear ho hb;refine uN hK ?_ (fun hS3=>?_)
    ·exact HKP.out _ H_8.out.bel
    clear hK K hS2;refine zN 10 hS3 ?_;refine pN 11 (fun K hK=>?_);have H_9:=xN H_8.out.addBox;generalize hwb:(wM.alloc (.cells #[.int .i64 0,.slice none 0 0,.slice none 0 0,.slice none 0 0,.slice none 0 0,.slice none 0 0,.slice none 0 0,.slice none 0 0] 65))=wB at *;go_simp
    try rw[hwb]
    clear hwb;refine uN hK ?_ (fun hS4=>?_)
    ·exact HKP.out _ H_9.out.bel
    clear hK K hS3;refine vJ (i:=12) (o:=_) (by kernel_rfl) rfl (by kernel_rfl) (by decide) ?_;have hm0:=H_9.out.fin;have cG:=hm0.box.cell;have fG:=hm0.box.free;have lG:=hm0.box.lt;have HF:=xN hm0;clear hm0;go_wp2;exact HREST.out _ _ _ _ _ _ _ _ _ _ _ _ _ _ _ _ _ _ _ _ _ _ _ _ _ _ _ _ _ _ _ F _ HF.out.fill
   ·
    have H_10:=xN H_7.out.addBox;generalize hwb:(wE.alloc (.cells #[.int .i64 0,.slice none 0 0,.slice none 0 0,.slice none 0 0,.slice none 0 0,.slice none 0 0,.slice none 0 0,.slice none 0 0] 65))=wB at *;go_simp
    try rw[hwb]
    clear hwb;refine uN hK ?_ (fun hS3=>?_)
    ·exact HKP.out _ H_10.out.bel
    clear hK K hS2;refine pN 8 (fun K hK=>?_);go_simp;go_wp2_with (go_at_call 95;refine(uB _ x.yF _ (Rd.below R6.out (yQ HBa.out HBa.out.size H_10.out.bel)) HML.out).mono ?_;rintro e wM ⟨vm,rfl,ho,hb⟩)
    obtain⟨A6,L6,C6,rfl⟩:=T.xE (T.ow_ints.2 ⟨ho.more (Nat.zero_le _),rfl⟩);have H_11:=xN (H_10.out.addMix ho hb);clear ho hb;refine uN hK ?_ (fun hS4=>?_)
    ·exact HKP.out _ H_11.out.bel
    clear hK K hS3;refine zN 10 hS4 ?_;refine vJ (i:=12) (o:=_) (by kernel_rfl) rfl (by kernel_rfl) (by decide) ?_;have hm0:=H_11.out.fin;have cG:=hm0.box.cell;have fG:=hm0.box.free;have lG:=hm0.box.lt;have HF:=xN hm0;clear hm0;go_wp2;exact HREST.out _ _ _ _ _ _ _ _ _ _ _ _ _ _ _ _ _ _ _ _ _ _ _ _ _ _ _ _ _ _ _ F _ HF.out.fill
  ·
   have H_12:=xN H_1.out.addBox;generalize hwb:(wS.alloc (.cells #[.int .i64 0,.slice none 0 0,.slice none 0 0,.slice none 0 0,.slice none 0 0,.slice none 0 0,.slice none 0 0,.slice none 0 0] 65))=wB at *;go_simp
   try rw[hwb]
   clear hwb;refine uN hK ?_ (fun hS2=>?_)
   ·exact HKP.out _ H_12.out.bel
   clear hK K hS1;refine vS (i:=8) (j:=9) (o:=_) (o2:=_) (by kernel_rfl) rfl rfl (fun K hK=>?_) (fun K hK=>?_)
   ·
    go_simp;go_wp2_with (go_at_call 95;refine(uB _ x.yF _ (Rd.below R6.out (yQ HBa.out HBa.out.size H_12.out.bel)) HML.out).mono ?_;rintro e wM ⟨vm,rfl,ho,hb⟩)
    obtain⟨A6,L6,C6,rfl⟩:=T.xE (T.ow_ints.2 ⟨ho.more (Nat.zero_le _),rfl⟩);have H_13:=xN (H_12.out.addMix ho hb);clear ho hb;refine uN hK ?_ (fun hS3=>?_)
    ·exact HKP.out _ H_13.out.bel
    clear hK K hS2;refine pN 9 (fun K hK=>?_);have H_14:=xN H_13.out.addBs;generalize hwb:(wM.alloc (.cells #[] 2))=wE at *;go_simp
    try rw[hwb]
    clear hwb;refine uN hK ?_ (fun hS4=>?_)
    ·exact HKP.out _ H_14.out.bel
    clear hK K hS3;refine zN 10 hS4 ?_;refine vJ (i:=12) (o:=_) (by kernel_rfl) rfl (by kernel_rfl) (by decide) ?_;have hm0:=H_14.out.fin;have cG:=hm0.box.cell;have fG:=hm0.box.free;have lG:=hm0.box.lt;have HF:=xN hm0;clear hm0;go_wp2;exact HREST.out _ _ _ _ _ _ _ _ _ _ _ _ _ _ _ _ _ _ _ _ _ _ _ _ _ _ _ _ _ _ _ F _ HF.out.fill
   ·
    have H_15:=xN H_12.out.addBs;generalize hwb:(wB.alloc (.cells #[] 2))=wE at *;go_simp
    try rw[hwb]
    clear hwb;refine uN hK ?_ (fun hS3=>?_)
    ·exact HKP.out _ H_15.out.bel
    clear hK K hS2;refine pN 8 (fun K hK=>?_);go_simp;go_wp2_with (go_at_call 95;refine(uB _ x.yF _ (Rd.below R6.out (yQ HBa.out HBa.out.size H_15.out.bel)) HML.out).mono ?_;rintro e wM ⟨vm,rfl,ho,hb⟩)
    obtain⟨A6,L6,C6,rfl⟩:=T.xE (T.ow_ints.2 ⟨ho.more (Nat.zero_le _),rfl⟩);have H_16:=xN (H_15.out.addMix ho hb);clear ho hb;refine uN hK ?_ (fun hS4=>?_)
    ·exact HKP.out _ H_16.out.bel
    clear hK K hS3;refine zN 10 hS4 ?_;refine vJ (i:=12) (o:=_) (by kernel_rfl) rfl (by kernel_rfl) (by decide) ?_;have hm0:=H_16.out.fin;have cG:=hm0.box.cell;have fG:=hm0.box.free;have lG:=hm0.box.lt;have HF:=xN hm0;clear hm0;go_wp2;exact HREST.out _ _ _ _ _ _ _ _ _ _ _ _ _ _ _ _ _ _ _ _ _ _ _ _ _ _ _ _ _ _ _ F _ HF.out.fill
 ·
  have H_17:=xN H_0.out.addBs;generalize hwb:(wd.alloc (.cells #[] 2))=wE at *;go_simp
  try rw[hwb]
  clear hwb;refine uN hK ?_ (fun hS1=>?_)
  ·exact HKP.out _ H_17.out.bel
  clear hK K hS0;refine vS (i:=3) (j:=11) (o:=_) (o2:=_) (by kernel_rfl) rfl rfl (fun K hK=>?_) (fun K hK=>?_)
  ·
   go_simp;go_wp2_with (go_at_call 38;refine(vMz x.zB b o _ HSS.out (T.at_below HATS.out (yQ HBa.out HBa.out.size H_17.out.bel))).mono ?_;rintro e wS ⟨v1,v2,v3,v4,v5,F,rfl,hN⟩)
   obtain⟨⟨A1,L1,C1,rfl⟩,⟨A2,L2,C2,rfl⟩,⟨A3,L3,C3,rfl⟩,⟨A4,L4,C4,rfl⟩,⟨A5,L5,C5,rfl⟩⟩:=xS.sl5 (T.ows_rds _ _ _ hN.ows);have H_18:=xN (H_17.out.addSes hN);clear hN;refine uN hK ?_ (fun hS2=>?_)
   ·exact HKP.out _ H_18.out.bel
   clear hK K hS1;refine vS (i:=8) (j:=11) (o:=_) (o2:=_) (by kernel_rfl) rfl rfl (fun K hK=>?_) (fun K hK=>?_)
   ·
    go_simp;go_wp2_with (go_at_call 95;refine(uB _ x.yF _ (Rd.below R6.out (yQ HBa.out HBa.out.size H_18.out.bel)) HML.out).mono ?_;rintro e wM ⟨vm,rfl,ho,hb⟩)
    obtain⟨A6,L6,C6,rfl⟩:=T.xE (T.ow_ints.2 ⟨ho.more (Nat.zero_le _),rfl⟩);have H_19:=xN (H_18.out.addMix ho hb);clear ho hb;refine uN hK ?_ (fun hS3=>?_)
    ·exact HKP.out _ H_19.out.bel
    clear hK K hS2;refine zN 10 hS3 ?_;refine pN 11 (fun K hK=>?_);have H_20:=xN H_19.out.addBox;generalize hwb:(wM.alloc (.cells #[.int .i64 0,.slice none 0 0,.slice none 0 0,.slice none 0 0,.slice none 0 0,.slice none 0 0,.slice none 0 0,.slice none 0 0] 65))=wB at *;go_simp
    try rw[hwb]
    clear hwb;refine uN hK ?_ (fun hS4=>?_)
    ·exact HKP.out _ H_20.out.bel
    clear hK K hS3;refine vJ (i:=12) (o:=_) (by kernel_rfl) rfl (by kernel_rfl) (by decide) ?_;have hm0:=H_20.out.fin;have cG:=hm0.box.cell;have fG:=hm0.box.free;have lG:=hm0.box.lt;have HF:=xN hm0;clear hm0;go_wp2;exact HREST.out _ _ _ _ _ _ _ _ _ _ _ _ _ _ _ _ _ _ _ _ _ _ _ _ _ _ _ _ _ _ _ F _ HF.out.fill
   ·
    have H_21:=xN H_18.out.addBox;generalize hwb:(wS.alloc (.cells #[.int .i64 0,.slice none 0 0,.slice none 0 0,.slice none 0 0,.slice none 0 0,.slice none 0 0,.slice none 0 0,.slice none 0 0] 65))=wB at *;go_simp
    try rw[hwb]
    clear hwb;refine uN hK ?_ (fun hS3=>?_)
    ·exact HKP.out _ H_21.out.bel
    clear hK K hS2;refine pN 8 (fun K hK=>?_);go_simp;go_wp2_with (go_at_call 95;refine(uB _ x.yF _ (Rd.below R6.out (yQ HBa.out HBa.out.size H_21.out.bel)) HML.out).mono ?_;rintro e wM ⟨vm,rfl,ho,hb⟩)
    obtain⟨A6,L6,C6,rfl⟩:=T.xE (T.ow_ints.2 ⟨ho.more (Nat.zero_le _),rfl⟩);have H_22:=xN (H_21.out.addMix ho hb);clear ho hb;refine uN hK ?_ (fun hS4=>?_)
    ·exact HKP.out _ H_22.out.bel
    clear hK K hS3;refine zN 10 hS4 ?_;refine vJ (i:=12) (o:=_) (by kernel_rfl) rfl (by kernel_rfl) (by decide) ?_;have hm0:=H_22.out.fin;have cG:=hm0.box.cell;have fG:=hm0.box.free;have lG:=hm0.box.lt;have HF:=xN hm0;clear hm0;go_wp2;exact HREST.out _ _ _ _ _ _ _ _ _ _ _ _ _ _ _ _ _ _ _ _ _ _ _ _ _ _ _ _ _ _ _ F _ HF.out.fill
  ·
   have H_23:=xN H_17.out.addBox;generalize hwb:(wE.alloc (.cells #[.int .i64 0,.slice none 0 0,.slice none 0 0,.slice none 0 0,.slice none 0 0,.slice none 0 0,.slice none 0 0,.slice none 0 0] 65))=wB at *;go_simp
   try rw[hwb]
   clear hwb;refine uN hK ?_ (fun hS2=>?_)
   ·exact HKP.out _ H_23.out.bel
   clear hK K hS1;refine pN 3 (fun K hK=>?_);go_simp;go_wp2_with (go_at_call 38;refine(vMz x.zB b o _ HSS.out (T.at_below HATS.out (yQ HBa.out HBa.out.size H_23.out.bel))).mono ?_;rintro e wS ⟨v1,v2,v3,v4,v5,F,rfl,hN⟩)
   obtain⟨⟨A1,L1,C1,rfl⟩,⟨A2,L2,C2,rfl⟩,⟨A3,L3,C3,rfl⟩,⟨A4,L4,C4,rfl⟩,⟨A5,L5,C5,rfl⟩⟩:=xS.sl5 (T.ows_rds _ _ _ hN.ows);have H_24:=xN (H_23.out.addSes hN);clear hN;refine uN hK ?_ (fun hS3=>?_)
   ·exact HKP.out _ H_24.out.bel
   clear hK K hS2;refine pN 8 (fun K hK=>?_);go_simp;go_wp2_with (go_at_call 95;refine(uB _ x.yF _ (Rd.below R6.out (yQ HBa.out HBa.out.size H_24.out.bel)) HML.out).mono ?_;rintro e wM ⟨vm,rfl,ho,hb⟩)
   obtain⟨A6,L6,C6,rfl⟩:=T.xE (T.ow_ints.2 ⟨ho.more (Nat.zero_le _),rfl⟩);have H_25:=xN (H_24.out.addMix ho hb);clear ho hb;refine uN hK ?_ (fun hS4=>?_)
   ·exact HKP.out _ H_25.out.bel
   clear hK K hS3;refine zN 10 hS4 ?_;refine vJ (i:=12) (o:=_) (by kernel_rfl) rfl (by kernel_rfl) (by decide) ?_;have hm0:=H_25.out.fin;have cG:=hm0.box.cell;have fG:=hm0.box.free;have lG:=hm0.box.lt;have HF:=xN hm0;clear hm0;go_wp2;exact HREST.out _ _ _ _ _ _ _ _ _ _ _ _ _ _ _ _ _ _ _ _ _ _ _ _ _ _ _ _ _ _ _ F _ HF.out.fill
 ·
  have H_26:=xN H_0.out.addBox;generalize hwb:(wd.alloc (.cells #[.int .i64 0,.slice none 0 0,.slice none 0 0,.slice none 0 0,.slice none 0 0,.slice none 0 0,.slice none 0 0,.slice none 0 0] 65))=wB at *;go_simp
  try rw[hwb]
  clear hwb;refine uN hK ?_ (fun hS1=>?_)
  ·exact HKP.out _ H_26.out.bel
  clear hK K hS0;refine vS (i:=3) (j:=9) (o:=_) (o2:=_) (by kernel_rfl) rfl rfl (fun K hK=>?_) (fun K hK=>?_)
  ·
   go_simp;go_wp2_with (go_at_call 38;refine(vMz x.zB b o _ HSS.out (T.at_below HATS.out (yQ HBa.out HBa.out.size H_26.out.bel))).mono ?_;rintro e wS ⟨v1,v2,v3,v4,v5,F,rfl,hN⟩)
   obtain⟨⟨A1,L1,C1,rfl⟩,⟨A2,L2,C2,rfl⟩,⟨A3,L3,C3,rfl⟩,⟨A4,L4,C4,rfl⟩,⟨A5,L5,C5,rfl⟩⟩:=xS.sl5 (T.ows_rds _ _ _ hN.ows);have H_27:=xN (H_26.out.addSes hN);clear hN;refine uN hK ?_ (fun hS2=>?_)
   ·exact HKP.out _ H_27.out.bel
   clear hK K hS1;refine vS (i:=8) (j:=9) (o:=_) (o2:=_) (by kernel_rfl) rfl rfl (fun K hK=>?_) (fun K hK=>?_)
   ·
    go_simp;go_wp2_with (go_at_call 95;refine(uB _ x.yF _ (Rd.below R6.out (yQ HBa.out HBa.out.size H_27.out.bel)) HML.out).mono ?_;rintro e wM ⟨vm,rfl,ho,hb⟩)
    obtain⟨A6,L6,C6,rfl⟩:=T.xE (T.ow_ints.2 ⟨ho.more (Nat.zero_le _),rfl⟩);have H_28:=xN (H_27.out.addMix ho hb);clear ho hb;refine uN hK ?_ (fun hS3=>?_)
    ·exact HKP.out _ H_28.out.bel
    clear hK K hS2;refine pN 9 (fun K hK=>?_);have H_29:=xN H_28.out.addBs;generalize hwb:(wM.alloc (.cells #[] 2))=wE at *;go_simp
    try rw[hwb]
    clear hwb;refine uN hK ?_ (fun hS4=>?_)
    ·exact HKP.out _ H_29.out.bel
    clear hK K hS3;refine zN 10 hS4 ?_;refine vJ (i:=12) (o:=_) (by kernel_rfl) rfl (by kernel_rfl) (by decide) ?_;have hm0:=H_29.out.fin;have cG:=hm0.box.cell;have fG:=hm0.box.free;have lG:=hm0.box.lt;have HF:=xN hm0;clear hm0;go_wp2;exact HREST.out _ _ _ _ _ _ _ _ _ _ _ _ _ _ _ _ _ _ _ _ _ _ _ _ _ _ _ _ _ _ _ F _ HF.out.fill
   ·
    have H_30:=xN H_27.out.addBs;generalize hwb:(wS.alloc (.cells #[] 2))=wE at *;go_simp
    try rw[hwb]
    clear hwb;refine uN hK ?_ (fun hS3=>?_)
    ·exact HKP.out _ H_30.out.bel
    clear hK K hS2;refine pN 8 (fun K hK=>?_);go_simp;go_wp2_with (go_at_call 95;refine(uB _ x.yF _ (Rd.below R6.out (yQ HBa.out HBa.out.size H_30.out.bel)) HML.out).mono ?_;rintro e wM ⟨vm,rfl,ho,hb⟩)
    obtain⟨A6,L6,C6,rfl⟩:=T.xE (T.ow_ints.2 ⟨ho.more (Nat.zero_le _),rfl⟩);have H_31:=xN (H_30.out.addMix ho hb);clear ho hb;refine uN hK ?_ (fun hS4=>?_)
    ·exact HKP.out _ H_31.out.bel
    clear hK K hS3;refine zN 10 hS4 ?_;refine vJ (i:=12) (o:=_) (by kernel_rfl) rfl (by kernel_rfl) (by decide) ?_;have hm0:=H_31.out.fin;have cG:=hm0.box.cell;have fG:=hm0.box.free;have lG:=hm0.box.lt;have HF:=xN hm0;clear hm0;go_wp2;exact HREST.out _ _ _ _ _ _ _ _ _ _ _ _ _ _ _ _ _ _ _ _ _ _ _ _ _ _ _ _ _ _ _ F _ HF.out.fill
  ·
   have H_32:=xN H_26.out.addBs;generalize hwb:(wB.alloc (.cells #[] 2))=wE at *;go_simp
   try rw[hwb]
   clear hwb;refine uN hK ?_ (fun hS2=>?_)
   ·exact HKP.out _ H_32.out.bel
   clear hK K hS1;refine pN 3 (fun K hK=>?_);go_simp;go_wp2_with (go_at_call 38;refine(vMz x.zB b o _ HSS.out (T.at_below HATS.out (yQ HBa.out HBa.out.size H_32.out.bel))).mono ?_;rintro e wS ⟨v1,v2,v3,v4,v5,F,rfl,hN⟩)
   obtain⟨⟨A1,L1,C1,rfl⟩,⟨A2,L2,C2,rfl⟩,⟨A3,L3,C3,rfl⟩,⟨A4,L4,C4,rfl⟩,⟨A5,L5,C5,rfl⟩⟩:=xS.sl5 (T.ows_rds _ _ _ hN.ows);have H_33:=xN (H_32.out.addSes hN);clear hN;refine uN hK ?_ (fun hS3=>?_)
   ·exact HKP.out _ H_33.out.bel
   clear hK K hS2;refine pN 8 (fun K hK=>?_);go_simp;go_wp2_with (go_at_call 95;refine(uB _ x.yF _ (Rd.below R6.out (yQ HBa.out HBa.out.size H_33.out.bel)) HML.out).mono ?_;rintro e wM ⟨vm,rfl,ho,hb⟩)
   obtain⟨A6,L6,C6,rfl⟩:=T.xE (T.ow_ints.2 ⟨ho.more (Nat.zero_le _),rfl⟩);have H_34:=xN (H_33.out.addMix ho hb);clear ho hb;refine uN hK ?_ (fun hS4=>?_)
   ·exact HKP.out _ H_34.out.bel
   clear hK K hS3;refine zN 10 hS4 ?_;refine vJ (i:=12) (o:=_) (by kernel_rfl) rfl (by kernel_rfl) (by decide) ?_;have hm0:=H_34.out.fin;have cG:=hm0.box.cell;have fG:=hm0.box.free;have lG:=hm0.box.lt;have HF:=xN hm0;clear hm0;go_wp2;exact HREST.out _ _ _ _ _ _ _ _ _ _ _ _ _ _ _ _ _ _ _ _ _ _ _ _ _ _ _ _ _ _ _ F _ HF.out.fill
end Go.Proofs.YtoibekfhepnedaaGreat
