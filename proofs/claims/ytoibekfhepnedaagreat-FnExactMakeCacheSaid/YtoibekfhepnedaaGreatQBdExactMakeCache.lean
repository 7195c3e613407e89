/- Contracts: an effect is rendered, by the reference. Contracts: the signal of a track, by the reference. -/
import Derived.Test.YtoibekfhepnedaaGreatQBcExactMakeCache
import Derived.Test.YtoibekfhepnedaaGreatQAyExactMakeCache
import Derived.Test.YtoibekfhepnedaaGreatQAuExactMakeCache
import Derived.Test.YtoibekfhepnedaaGreatQAzExactMakeCache
import Derived.Test.YtoibekfhepnedaaGreatQAfExactMakeCache
import Derived.Test.YtoibekfhepnedaaGreatQAtExactMakeCache
set_option linter.unusedVariables false
set_option linter.unusedSimpArgs false
set_option maxHeartbeats 8000000
set_option maxRecDepth 100000
namespace Go.Proofs.YtoibekfhepnedaaGreat
section
open Go.RowKit
theorem rd_row1c {w:World} {g cap:Nat} {t t' E:TypeId} {cs:Array Value} {v:Value} {xs:List Int} (hb:Bk w g t cs) (h0:cs[0]?=some v) (h1:1≤cap) (h2:cap≤9223372036854775807) (hr:RdI w v xs):T.rd w (T.sl t' 1 [T.ints E xs]) [.slice (some ⟨g,0,none⟩) 1 cap]:=by
 simp only[T.rd]
 refine⟨_,[v],rfl,by simp[T.ints,T.wide],⟨rfl,_,cap,rfl,h1,h2,fun _=>⟨g,0,rfl,hb.lt,fun j u hj=>?_⟩⟩,by simp only[T.rds];exact⟨[v],[],rfl,T.yT.2 hr,rfl⟩⟩
 cases j with
 |zero=>injection hj with hj;subst hj;exact(hb.cell _).trans h0
 |succ j=>simp at hj
/-- Memory behind some frames. -/
def RelB (x:xG) (a:List Int) (w1:World) (z2 bs bo:Nat) (wr:World) (k:Nat):Prop:= ∃ (cs:Array Value) (r vc:Value) (F:List Nat),Bk wr bs 270 #[vc]∧T.ow wr (T.sl 26 1 ((cellsAt x [a] k).map (T.ints 2))) F [vc]∧Bk wr bo 26 cs∧cs[0]?=some r∧OwI 2 wr w1.heap.size r (rowF x a k)∧r.ownBlock≠some bo∧bo ∉ F∧(∀ g,r.ownBlock=some g→g ∉ F)∧Trn [bs] w1 wr∧z2≤wr.heap.size
theorem c_l08Block (x:xG) (b o:Nat) (vin:Value) (bs:Nat) (vc:Value) (F0:List Nat) (a:List Int) (n:Nat) (W:World) (w:World) (hP:wZ x) (h1:x.zJ=1) (h2:x.zK.length=1) (hA: ∀ y ∈ a,Smp y) (hn:n≤1048576) (hin:T.rd w (T.sl 26 1 ([a].map (T.ints 2))) [vin]) (hW:Below w.heap.size w W) (hbs:w.heap.size≤bs) (hs_:Bk W bs 270 #[vc]) (hc_:T.ow W (T.sl 26 1 ((x.zB.map wD).map (T.ints 2))) F0 [vc]) (h:T.at w x.fs b o):Calls Tryz.prog 241 #[.pointer (some ⟨b,o,none⟩),.pointer (some ⟨bs,0,none⟩),vin,.int .i64 0,.int .i64 (n:Int)] W fun e w'=> ∃ v,e= .returned v∧T.rd w' (T.sl 26 1 ([rowF x a n].map (T.ints 2))) [v]∧Below w.heap.size w w':=by
 have HAT:=hide h
 obtain⟨hlt0,cs,hr,hc⟩:=h
 obtain⟨v1,v2,v3,rfl,h1,h2,h3⟩:=xG.yO hr
 clear hr
 have R1:=hide h1;obtain⟨va1,vc1,rfl,vl1,vm1,vx1⟩:=T.yN h1
 have HX1:=hide vx1;clear vx1 h1
 have R2:=hide h2;obtain⟨va2,vc2,rfl,vl2,vm2,vx2⟩:=T.yN h2
 have HX2:=hide vx2;clear vx2 h2
 have h3i:=T.yT.1 h3;obtain⟨va3,vc3,rfl,vl3,vm3,vx3⟩:=h3i.open_
 have R3:=hide h3i;have HX3:=hide vx3;clear vx3 h3 h3i
 have HL:=hide hlt0;have HCC:=hide hc;have HB0:=hide (Below.refl w.heap.size w);clear hlt0 hc
 have HPO:=hide hP;have hn24:=hP.formed.few;have hol:(xR x.zB).length=x.zB.length:=hP.order
 have HAS:=hide (show ∀ l ∈ [a],∀ y ∈ l,Smp y from fun l hl=>by simp at hl;subst hl;exact hA)
 have HCA:=hide (fun t=>cellsAt_ok hP HAS.out t);have HFS:=hide (fun t=>frameF_smp HAS.out t);have HVS:=hide (fun t=>valsAt_smp hP HAS.out t)
 obtain⟨o1,ho1⟩:=len1 h2
 have hO:=hP.formed.outputs;rw[ho1] at hO;have hO1:=hO 0 o1 rfl;have ho0:0≤o1:=hO1.1;have ho9:o1<(x.zB.length:Int):=(by have:=hO1.2;omega);clear hO
 have HROW:=hide (fun t=>rowF_snoc x a t);have HRW0:=hide (show rowF x a 0= [] from rfl)
 have HD0:=hide (show x.zK.getD 0 0=o1 by rw[ho1];rfl)
 have HBW:=hide hW;have HSB:=hide hs_;have HSC:=hide hc_;clear hP hA hW hs_ hc_
 obtain⟨b3,f3,hA3,hb3,hc3⟩:=HX3.out 0 o1 (by rw[ho1];rfl)
 have HO1:=hide (show w.cell? ⟨b3,f3,none⟩=some (.int .i64 o1) by simpa using hc3);clear hc3
 subst hA3;rw[h2] at *
 obtain⟨IA,ic,rfl,il,im,ix⟩:=T.yN hin
 obtain⟨bi,oi,c9,hAi,hbi,hcsi,hcelli⟩:=ix 0 a rfl
 subst hAi
 obtain⟨va,rfl⟩:=T.rd_one hcsi
 have e0:=hcelli 0 va rfl
 have RA:=hide (T.yT.1 hcsi);have HE0:=hide (show w.cell? ⟨bi,oi,none⟩=some va by simpa using e0);clear hcsi hcelli e0 ix hin
 have HATW:=hide (T.at_below HAT.out HBW.out)
 have p0:W.cell? ⟨b,o,none⟩=some (.int .i64 x.zJ):=(HBW.out.cell HL.out).trans (HCC.out 0 _ rfl)
 have p1:W.cell? ⟨b,o+1,none⟩=some (.slice va1 x.zN.length vc1):=(HBW.out.cell HL.out).trans (HCC.out 1 _ rfl)
 have p2:W.cell? ⟨b,o+2,none⟩=some (.slice va2 x.zB.length vc2):=(HBW.out.cell HL.out).trans (HCC.out 2 _ rfl)
 have p3:W.cell? ⟨b,o+3,none⟩=some (.slice (some ⟨b3,f3,none⟩) 1 vc3):=(HBW.out.cell HL.out).trans (HCC.out 3 _ rfl)
 have lb:b<W.heap.size:=lL HL.out HBW.out.size
 go_enter Tryz.func241,Tryz.ntmps241
 go_wp2_with fail
 refine(c_l07Order x b o _ (by omega) HATW.out).mono ?_;rintro e w1 ⟨vo,rfl,ho,hd⟩
 have HOR:=hide (ho hol);have HB1:=hide (yJ HBW.out HBW.out.size hd);have HSB1:=hide (HSB.out.below hd HSB.out.lt);have HSC1:=hide (T.ow_all HSC.out hd);have hs1:=hd.size;have hsb:=HSB.out.lt;clear ho hd HSB HSC p0 p1 p2 p3 lb
 have p0:w1.cell? ⟨b,o,none⟩=some (.int .i64 x.zJ):=(HB1.out.cell HL.out).trans (HCC.out 0 _ rfl)
 have p1:w1.cell? ⟨b,o+1,none⟩=some (.slice va1 x.zN.length vc1):=(HB1.out.cell HL.out).trans (HCC.out 1 _ rfl)
 have p2:w1.cell? ⟨b,o+2,none⟩=some (.slice va2 x.zB.length vc2):=(HB1.out.cell HL.out).trans (HCC.out 2 _ rfl)
 have p3:w1.cell? ⟨b,o+3,none⟩=some (.slice (some ⟨b3,f3,none⟩) 1 vc3):=(HB1.out.cell HL.out).trans (HCC.out 3 _ rfl)
 have lb:b<w1.heap.size:=lL HL.out HB1.out.size
 go_wp2
 refine wp_loop_rounds 2 ?_
 rw[rounds_succ]
 have HOa:=hide (Own.born (B:=w1.heap.size) (World.ownsRow_made w1 #[] 0 (Nat.le_refl _) (by decide) rfl:(w1.alloc (.cells #[] 26)).ownsRow w1.heap.size 26 1 (.slice (some ⟨w1.heap.size,0,none⟩) 0 0) 0 []))
 have hs1E:(w1.alloc (.cells #[] 26)).heap.size=w1.heap.size+1:=by simp
 have hs2E:((w1.alloc (.cells #[] 26)).alloc (.cells #[] 2)).heap.size=w1.heap.size+1+1:=by simp
 have HEa:=hide (show OwI 2 ((w1.alloc (.cells #[] 26)).alloc (.cells #[] 2)) (w1.heap.size+1) (.slice (some ⟨w1.heap.size+1,0,none⟩) 0 0) [] from by have h:=vC (w1.alloc (.cells #[] 26));rw[hs1E] at h;exact h)
 have HNo:=hide (show T.ow ((w1.alloc (.cells #[] 26)).alloc (.cells #[] 2)) (T.ints 2 []) [w1.heap.size+1] [.slice (some ⟨w1.heap.size+1,0,none⟩) 0 0] from T.ow_ints.2 ⟨OwI.more HEa.out (Nat.zero_le _),rfl⟩)
 have HBe:=hide (show Below w1.heap.size w1 ((w1.alloc (.cells #[] 26)).alloc (.cells #[] 2)) from((Below.refl _ _).alloc (Nat.le_refl _) _).alloc (by simp) _)
 have HOb:=hide (HOa.out.all ((Below.refl (w1.alloc (.cells #[] 26)).heap.size (w1.alloc (.cells #[] 26))).alloc (Nat.le_refl _) (.cells #[] 2)))
 go_wp2_with (at_builtin;refine app1_T rfl _ _ _ rfl w1.heap.size 26 _ 1 24 Tryz.underlying24 wU rfl (by omega) rfl HOb.out HNo.out (by simp) (fun b hb=>by simp at hb;omega) (fun b hb hb2=>by simp at hb2;simp[Value.ownBlock] at hb;omega) rfl (by show Value.slice (some ⟨w1.heap.size+1+1,0,none⟩) 1 1=_;rw[hs2E]) (by simp) (by simp) (by rw[hs2E];omega) ?_;intro v2 w2 F2 ho2 hg2 hv2;have HO2:=hide ho2;have HB2:=hide ((HOb.out).below (HBe.out) HBe.out.size hg2);clear ho2 hg2 hv2)
 have HB12:=hide (yJ HB1.out HB1.out.size HB2.out);clear p0 p1 p2 p3 lb
 have p0:w2.cell? ⟨b,o,none⟩=some (.int .i64 x.zJ):=(HB12.out.cell HL.out).trans (HCC.out 0 _ rfl)
 have p1:w2.cell? ⟨b,o+1,none⟩=some (.slice va1 x.zN.length vc1):=(HB12.out.cell HL.out).trans (HCC.out 1 _ rfl)
 have p2:w2.cell? ⟨b,o+2,none⟩=some (.slice va2 x.zB.length vc2):=(HB12.out.cell HL.out).trans (HCC.out 2 _ rfl)
 have p3:w2.cell? ⟨b,o+3,none⟩=some (.slice (some ⟨b3,f3,none⟩) 1 vc3):=(HB12.out.cell HL.out).trans (HCC.out 3 _ rfl)
 have lb:b<w2.heap.size:=lL HL.out HB12.out.size
 rw[rounds_succ]
 obtain⟨bo,oc,cs0,hv2,hoc,hbo,hbk,hrows⟩:=Own.rows (rows:= [[]]) (E:=2) HO2.out (by simp);replace hv2:v2= .slice (some ⟨bo,0,none⟩) 1 oc:=hv2;replace hoc:1≤oc:=hoc;subst hv2
 obtain⟨r0,hr0,hr1,hr2,hr3⟩:=hrows 0 [] rfl
 have hocm:oc≤9223372036854775807:=by obtain⟨_,_,e,_,h,_⟩:=T.yN (xs:= [[]]) (tr:=T.ints 2) (show T.rd w2 (T.sl 26 1 ([[]].map (T.ints 2))) _ from T.ow_rd _ _ _ HO2.out.ow);injection e with _ _ e;rw[e];exact h
 have HBK2:=hide hbk;have HR2:=hide hr1;have HRL:=hide (fun k hk=>(hr3 k hk).2);have HRN:=hide hr2;have HSB2:=hide (HSB1.out.below HB2.out HSB1.out.lt);have HSC2:=hide (T.ow_all HSC1.out HB2.out);have hlF:=T.ow_lt _ _ _ HSC1.out;have HLF:=hide hlF;have hs2:=HB2.out.size;have hlo2:=hbk.lt
 have HR0:=hide hr0;clear hrows hr0 hr1 hr2 hr3 hbk hlF
 have hwn:IntKind.i64.wrap (0+(n:Int))=(n:Int):=by rw[Int.zero_add];exact IntWalk.i64_in _ (by omega)
 clear HO2 HOa HOb HEa HNo HBe hs1E hs2E
 go_wp2
 go_loopw [15] (fun i wr=> ∃ k:Nat,k≤n∧i= .int .i64 (k:Int)∧RelB x a w1 w2.heap.size bs bo wr k) (fun i _=>n - (intOf i).toNat)
 case atStart=>exact⟨0,Nat.zero_le _,rfl,cs0,r0,_,F0,HSB2.out,HSC2.out,HBK2.out,HR0.out,by rw[HRW0.out];exact HR2.out,HRN.out,fun hm=>by have:=HLF.out _ hm;omega,fun g hg hm=>by have h1:=HLF.out _ hm;have h2:=(HR2.out.lt g hg).1;omega,Trn.of_below HB2.out,Nat.le_refl _⟩
 case round=>
  obtain⟨k,hk,rfl,cs,r,vc,F,hsbk,hsc,hbk,hr0,hro,hrn,hnF,hrF,htr,hsz⟩:=hrel
  have HSK:=hide hsbk;have HSO:=hide hsc;have HBO:=hide hbk;have HR:=hide hr0;have HRO:=hide hro;have HRN1:=hide hrn;have HRF:=hide hrF;have HTR:=hide htr;clear hsbk hsc hbk hr0 hro hrn hrF htr p0 p1 p2 p3 lb
  have HB:=hide (show Below w.heap.size w wr from HTR.out.below HB1.out (fun q hq=>by simp at hq;omega) HB1.out.size)
  have p0:wr.cell? ⟨b,o,none⟩=some (.int .i64 x.zJ):=(HB.out.cell HL.out).trans (HCC.out 0 _ rfl)
  have p1:wr.cell? ⟨b,o+1,none⟩=some (.slice va1 x.zN.length vc1):=(HB.out.cell HL.out).trans (HCC.out 1 _ rfl)
  have p2:wr.cell? ⟨b,o+2,none⟩=some (.slice va2 x.zB.length vc2):=(HB.out.cell HL.out).trans (HCC.out 2 _ rfl)
  have p3:wr.cell? ⟨b,o+3,none⟩=some (.slice (some ⟨b3,f3,none⟩) 1 vc3):=(HB.out.cell HL.out).trans (HCC.out 3 _ rfl)
  have lb:b<wr.heap.size:=lL HL.out HB.out.size
  have hwk:IntKind.i64.wrap ((k:Int)+1)=(k:Int)+1:=IntWalk.i64_in _ (by omega)
  by_cases hlt:k<n
  rotate_left
  ·
   obtain rfl:k=n:=by omega
   go_wp2
   go_ret
   exact⟨_,rfl,rd_row1c HBO.out HR.out (by omega) hocm (OwI.rd HRO.out),HB.out⟩
  have ei:=(HB.out.cell hbi).trans HE0.out;have li:bi<wr.heap.size:=lL hbi HB.out.size;have RAi:=hide (RdI.below RA.out HB.out)
  go_wp2
  refine wp_loop_rounds 2 ?_
  rw[rounds_succ]
  have HF0:=hide (vC wr)
  have hsA:(wr.alloc (.cells #[] 2)).heap.size=wr.heap.size+1:=by simp
  have hAf:=hide (show Below wr.heap.size wr (wr.alloc (.cells #[] 2)) from(Below.refl _ _).alloc (Nat.le_refl _) _)
  have RAj:=hide (RdI.below RAi.out hAf.out)
  go_wp2_with (first|(go_at_call 189;refine(c_l03At _ a (k:Int) _ RAj.out).mono ?_;rintro e _ ⟨rfl,rfl⟩)|(at_builtin;refine uQ (n:=wR a (k:Int)) rfl _ _ rfl rfl HF0.out (by show Value.slice (some ⟨wr.heap.size+1,0,none⟩) 1 1=_;rw[hsA]) (by simp) (by rw[hsA];omega) ?_;intro v3 w3 ho3 hg3 hv3;have HF3:=hide ho3;have HG3:=hide (show Below wr.heap.size wr w3 from wW hAf.out HF0.out hg3 (Nat.le_refl _) hAf.out.size);clear ho3 hg3 hv3))
  rw[rounds_succ]
  have HFR:=hide (show OwI 2 w3 wr.heap.size v3 (frameF [a] k) from HF3.out)
  have HB3:=hide (yJ HB.out HB.out.size HG3.out);have HSK3:=hide (HSK.out.below HG3.out HSK.out.lt);have HSO3:=hide (T.ow_all HSO.out HG3.out);have HBO3:=hide (HBO.out.below HG3.out HBO.out.lt);have HRO3:=hide (wO HRO.out HG3.out);have hs3:=HG3.out.size;have HTR3:=hide (HTR.out.trans (Trn.of_below HG3.out));clear p0 p1 p2 p3 lb ei li RAi RAj hAf HF0 HF3
  have HORw:=hide (own_trnF HOR.out HTR3.out (fun q hq=>by simp at hq;omega))
  have p0:w3.cell? ⟨b,o,none⟩=some (.int .i64 x.zJ):=(HB3.out.cell HL.out).trans (HCC.out 0 _ rfl)
  have p1:w3.cell? ⟨b,o+1,none⟩=some (.slice va1 x.zN.length vc1):=(HB3.out.cell HL.out).trans (HCC.out 1 _ rfl)
  have p2:w3.cell? ⟨b,o+2,none⟩=some (.slice va2 x.zB.length vc2):=(HB3.out.cell HL.out).trans (HCC.out 2 _ rfl)
  have p3:w3.cell? ⟨b,o+3,none⟩=some (.slice (some ⟨b3,f3,none⟩) 1 vc3):=(HB3.out.cell HL.out).trans (HCC.out 3 _ rfl)
  have lb:b<w3.heap.size:=lL HL.out HB3.out.size
  go_wp2_with fail
  refine(c_l08Values x b o (cellsAt x [a] k) (frameF [a] k) bs vc vo v3 _ HPO.out (HCA.out k) (HFS.out k) (by rw[h1];rfl) (OwI.rd HORw.out) (HSK3.out.cell 0) (T.ow_rd _ _ _ HSO3.out) (OwI.rd HFR.out) (T.at_below HAT.out HB3.out)).mono ?_;rintro e w4 ⟨v4,rfl,ho4,hb⟩
  have HV4:=hide (show OwI 2 w4 w3.heap.size v4 (valsAt x [a] k) from ho4);have HB4:=hide (yJ HB3.out HB3.out.size hb);have HSK4:=hide (HSK3.out.below hb HSK3.out.lt);have HSO4:=hide (T.ow_all HSO3.out hb);have HBO4:=hide (HBO3.out.below hb HBO3.out.lt);have HRO4:=hide (wO HRO3.out hb);have HFR4:=hide (wO HFR.out hb);have hs4:=hb.size;have HTR4:=hide (HTR3.out.trans (Trn.of_below hb));clear ho4 hb p0 p1 p2 p3 lb HSK3 HSO3 HBO3 HRO3 HFR
  have p0:w4.cell? ⟨b,o,none⟩=some (.int .i64 x.zJ):=(HB4.out.cell HL.out).trans (HCC.out 0 _ rfl)
  have p1:w4.cell? ⟨b,o+1,none⟩=some (.slice va1 x.zN.length vc1):=(HB4.out.cell HL.out).trans (HCC.out 1 _ rfl)
  have p2:w4.cell? ⟨b,o+2,none⟩=some (.slice va2 x.zB.length vc2):=(HB4.out.cell HL.out).trans (HCC.out 2 _ rfl)
  have p3:w4.cell? ⟨b,o+3,none⟩=some (.slice (some ⟨b3,f3,none⟩) 1 vc3):=(HB4.out.cell HL.out).trans (HCC.out 3 _ rfl)
  have lb:b<w4.heap.size:=lL HL.out HB4.out.size
  obtain⟨z,hz⟩: ∃ z,(valsAt x [a] k).getD o1.toNat 0=z:=⟨_,rfl⟩
  have HRK:=hide (show rowF x a (k+1)=rowF x a k++ [z] by rw[HROW.out k,HD0.out,hz])
  have hvl:=length_valsAt x [a] k
  obtain⟨bv,ov,cv4,rfl,hc9,hm9,hb9,hx9⟩:=xO (OwI.rd HV4.out) (by omega)
  rw[hvl] at *
  have e9:=hx9 o1.toNat z (by rw[←hz,List.getD_eq_getElem?_getD,gE (show o1.toNat<(valsAt x [a] k).length by rw[length_valsAt];omega)];rfl)
  have HEV:=hide e9;have HE3:=hide ((HB4.out.cell hb3).trans HO1.out);clear e9 hx9 hz
  have ko:=HBO4.out.cell;have lo:=HBO4.out.lt
  have hlen:(rowF x a k).length+1≤8796093022208:=by rw[uV];omega
  obtain⟨rA,rl,rc,rfl⟩: ∃ A l c,r= .slice A l c:=by obtain⟨A,c,e,_⟩:=(OwI.rd HRO4.out).open_;exact⟨A,_,c,e⟩
  go_wp2
  refine wp_loop_rounds 2 ?_
  rw[rounds_succ]
  go_wp2
  have HWd:=hide (show w4.cell? ⟨bo,0,none⟩=some (.slice rA rl rc)∧w4.cell? ⟨b,o+3,none⟩=some (.slice (some ⟨b3,f3,none⟩) 1 vc3)∧w4.cell? ⟨b3,f3,none⟩=some (.int .i64 o1)∧w4.cell? ⟨bv,ov+o1.toNat,none⟩=some (.int .i64 z) from⟨(ko 0).trans HR.out,p3,HE3.out,HEV.out⟩)
  have HDr:=hide ((Below.refl w4.heap.size w4).drew)
  have hsw4:w1.heap.size≤w4.heap.size:=by omega
  have HKP:=hide (fun(w':World) (hw:Below w4.heap.size w4 w')=>(⟨(hw.cell (World.block_lt_of_cell? _ _ HWd.out.1)).trans HWd.out.1,(hw.cell (World.block_lt_of_cell? _ _ HWd.out.2.1)).trans HWd.out.2.1,(hw.cell (World.block_lt_of_cell? _ _ HWd.out.2.2.1)).trans HWd.out.2.2.1,(hw.cell (World.block_lt_of_cell? _ _ HWd.out.2.2.2)).trans HWd.out.2.2.2⟩:w'.cell? ⟨bo,0,none⟩=some (.slice rA rl rc)∧w'.cell? ⟨b,o+3,none⟩=some (.slice (some ⟨b3,f3,none⟩) 1 vc3)∧w'.cell? ⟨b3,f3,none⟩=some (.int .i64 o1)∧w'.cell? ⟨bv,ov+o1.toNat,none⟩=some (.int .i64 z)))
  clear p0 p1 p2 p3 lb ko lo
  refine wK (fun w'=>w'.cell? ⟨bo,0,none⟩=some (.slice rA rl rc)∧w'.cell? ⟨b,o+3,none⟩=some (.slice (some ⟨b3,f3,none⟩) 1 vc3)∧w'.cell? ⟨b3,f3,none⟩=some (.int .i64 o1)∧w'.cell? ⟨bv,ov+o1.toNat,none⟩=some (.int .i64 z)) 19 (by kernel_rfl) ?_ (fun hS0=>?_)
  ·exact HKP.out _ HDr.out
  generalize hwd:w4.drew=wd at *;clear hwd
  refine tE 0 hS0 ?_
  refine tE 1 hS0 ?_
  refine tE 2 hS0 ?_
  refine tE 3 hS0 ?_
  refine tE 4 hS0 ?_
  refine tE 5 hS0 ?_
  refine tE 6 hS0 ?_
  refine tE 7 hS0 ?_
  refine tE 8 hS0 ?_
  refine tE 9 hS0 ?_
  refine tE 10 hS0 ?_
  refine tE 11 hS0 ?_
  refine tE 12 hS0 ?_
  refine tE 13 hS0 ?_
  refine tE 14 hS0 ?_
  refine tE 15 hS0 ?_
  have HA6:=hide (show Below wd.heap.size wd (wd.alloc (.cells #[.int .i64 z] 2)) from(Below.refl _ _).alloc (Nat.le_refl _) _);have HD6:=hide (yJ HDr.out HDr.out.size HA6.out)
  refine oE 16 (fun K hK=>?_)
  go_simp
  refine hK.out _ _ ?_ (fun hS1=>?_)
  ·exact HKP.out _ HD6.out
  clear hK K hS0
  have HR6:=hide (wO HRO4.out HD6.out);have hz6:=HD6.out.size
  refine oE 17 (fun K hK=>?_)
  refine vQ rfl _ _ rfl rfl HR6.out (ys:= [z]) rfl (OwI.rd (lit1 wd z)) (by simp only[List.length_cons,List.length_nil];omega) (by omega) ?_;intro v8 w8 ho hg hv
  have HO8:=hide ho;have HG8:=hide hg;have HV8:=hide hv
  have HBO8:=hide ((HBO4.out.below HD6.out HBO4.out.lt).grown hg (fun e=>HRN1.out e.symm))
  have HSO8:=hide (show T.ow w8 (T.sl 26 1 ((cellsAt x [a] k).map (T.ints 2))) F [vc] from T.ow_keep _ _ _ (fun q hq=>hg.block q (lL (T.ow_lt _ _ _ HSO4.out q hq) HD6.out.size) (fun e=>HRF.out q e.symm hq)) (T.ow_all HSO4.out HD6.out))
  have HT8:=hide (show Trn [bs] w1 w8 from⟨hg.os.trans (HTR4.out.trans (Trn.of_below HD6.out)).os,hg.tape.trans (HTR4.out.trans (Trn.of_below HD6.out)).tape,hg.output.trans (HTR4.out.trans (Trn.of_below HD6.out)).output,Nat.le_trans (HTR4.out.trans (Trn.of_below HD6.out)).size hg.size,fun q hq hn=>(hg.block q (lL hq (HTR4.out.trans (Trn.of_below HD6.out)).size) (fun e=>by have h:=(HR6.out.lt q e.symm).1;omega)).trans ((HTR4.out.trans (Trn.of_below HD6.out)).block q hq hn)⟩)
  have HB8:=hide (show Below w.heap.size w w8 from HT8.out.below HB1.out (fun q hq=>by simp at hq;omega) HB1.out.size)
  have HV8c:=hide (show w8.cell? ⟨bv,ov+o1.toNat,none⟩=some (.int .i64 z) from(World.cell?_of_block (hg.block bv (lL (World.block_lt_of_cell? _ _ HWd.out.2.2.2) HD6.out.size) (fun e=>by have h:=(HV4.out.lt bv rfl).1;have h2:=HRO.out.lt bv e.symm;omega))).trans ((HD6.out.cell (World.block_lt_of_cell? _ _ HWd.out.2.2.2)).trans HWd.out.2.2.2))
  clear ho hg hv
  refine hK.out _ _ ?_ (fun hS2=>?_)
  ·exact⟨(HBO8.out.cell 0).trans HR.out,(HB8.out.cell HL.out).trans (HCC.out 3 _ rfl),(HB8.out.cell hb3).trans HO1.out,HV8c.out⟩
  clear hK K hS1
  refine tE 18 hS2 ?_
  refine wJ (o:=_) (by kernel_rfl) rfl (by kernel_rfl) ?_
  have ko:=HBO8.out.cell;have fo:=HBO8.out.free;have lo:=HBO8.out.lt
  obtain⟨A8,l8,c8,rfl⟩: ∃ A l c,v8= .slice A l c:=by obtain⟨A,c,e,_⟩:=(OwI.rd HO8.out).open_;exact⟨A,_,c,e⟩
  have hcz:0<cs.size:=(Array.getElem?_eq_some_iff.1 HR.out).1
  go_wp2
  rw[rounds_succ]
  have HBO9:=hide (HBO8.out.set_ 0 (.slice A8 l8 c8));have HR9:=hide (show (cs.setIfInBounds 0 (.slice A8 l8 c8))[0]?=some (.slice A8 l8 c8) by rw[Array.getElem?_setIfInBounds_self_of_lt hcz])
  have HRN9:=hide (show (Value.slice A8 l8 c8).ownBlock≠some bo from fun e=>by rcases HV8.out bo e with h|h<;>first|exact HRN1.out h|(have:=HBO4.out.lt;have:=HD6.out.size;omega))
  have HRO9:=hide (show OwI 2 (w8.setCell ⟨bo,0,none⟩ (.slice A8 l8 c8)) w1.heap.size (.slice A8 l8 c8) (rowF x a (k+1)) from by rw[HRK.out];exact HO8.out.far (fun q hq e=>HRN9.out (by rw[hq];exact congrArg some e)) _)
  have HSO9:=hide (show T.ow (w8.setCell ⟨bo,0,none⟩ (.slice A8 l8 c8)) (T.sl 26 1 ((cellsAt x [a] k).map (T.ints 2))) F [vc] from T.ow_keep _ _ _ (fun q hq=>Below.heap_setCell w8 ⟨bo,0,none⟩ _ q (fun e=>hnF (by have e':q=bo:=e;rw[←e'];exact hq))) HSO8.out)
  have HT9:=hide (show Trn [bs] w1 (w8.setCell ⟨bo,0,none⟩ (.slice A8 l8 c8)) from⟨HT8.out.os,HT8.out.tape,HT8.out.output,by simpa[World.setCell] using HT8.out.size,fun q hq hn=>(Below.heap_setCell w8 ⟨bo,0,none⟩ _ q (fun e=>by have:q=bo:=e;omega)).trans (HT8.out.block q hq hn)⟩)
  have HB9:=hide (HT9.out.below HB1.out (fun q hq=>by simp at hq;omega) HB1.out.size)
  have hne9:bs≠bo:=by omega
  have HSK9:=hide (show Bk (w8.setCell ⟨bo,0,none⟩ (.slice A8 l8 c8)) bs 270 #[vc] from((((HSK4.out.below HD6.out HSK4.out.lt).grown HG8.out (fun e=>by have h:=(HR6.out.lt bs e.symm).1;omega)).far (p:=⟨bo,0,none⟩) hne9 _)))
  have HFR9:=hide (show RdI (w8.setCell ⟨bo,0,none⟩ (.slice A8 l8 c8)) v3 (frameF [a] k) from RdI.grown (RdI.grown (RdI.below (OwI.rd HFR4.out) HD6.out) HG8.out (fun q hq e=>by have h1:=(HFR4.out.lt q hq).1;have h2:=(HRO.out.lt q e.symm).2;omega)) (Gr.refl bo w8 |>.set_ 0 (.slice A8 l8 c8)).1 (fun q hq e=>by injection e with e;have h1:=(HFR4.out.lt q hq).1;have h2:=HBO.out.lt;omega))
  have HVV9:=hide (show RdI (w8.setCell ⟨bo,0,none⟩ (.slice A8 l8 c8)) (.slice (some ⟨bv,ov,none⟩) x.zB.length cv4) (valsAt x [a] k) from RdI.grown (RdI.grown (RdI.below (OwI.rd HV4.out) HD6.out) HG8.out (fun q hq e=>by have h1:=(HV4.out.lt q hq).1;have h2:=(HRO.out.lt q e.symm).2;omega)) (Gr.refl bo w8 |>.set_ 0 (.slice A8 l8 c8)).1 (fun q hq e=>by injection e with e;have h1:=(HV4.out.lt q hq).1;have h2:=HBO.out.lt;omega))
  have hs9:(w8.setCell ⟨bo,0,none⟩ (.slice A8 l8 c8)).heap.size=w8.heap.size:=by simp[World.setCell]
  have hs8:=HG8.out.size
  have hF9:=HSO9.out
  clear ko fo lo hF9 HSK4 HSO4 HBO4 HRO4 HSO8 HBO8 HR6
  generalize hw9:(w8.setCell ⟨bo,0,none⟩ (.slice A8 l8 c8))=w9 at *;clear hw9
  have p0:w9.cell? ⟨b,o,none⟩=some (.int .i64 x.zJ):=(HB9.out.cell HL.out).trans (HCC.out 0 _ rfl)
  have p1:w9.cell? ⟨b,o+1,none⟩=some (.slice va1 x.zN.length vc1):=(HB9.out.cell HL.out).trans (HCC.out 1 _ rfl)
  have p2:w9.cell? ⟨b,o+2,none⟩=some (.slice va2 x.zB.length vc2):=(HB9.out.cell HL.out).trans (HCC.out 2 _ rfl)
  have p3:w9.cell? ⟨b,o+3,none⟩=some (.slice (some ⟨b3,f3,none⟩) 1 vc3):=(HB9.out.cell HL.out).trans (HCC.out 3 _ rfl)
  have lb:b<w9.heap.size:=lL HL.out HB9.out.size
  go_wp2_with fail
  refine(c_l08Step x b o (cellsAt x [a] k) (frameF [a] k) (valsAt x [a] k) bs vc _ v3 _ HPO.out (HCA.out k) (HFS.out k) (by rw[h1];rfl) (HVS.out k) (length_valsAt x [a] k) HSK9.out (T.ow_rd _ _ _ HSO9.out) HFR9.out HVV9.out (T.at_below HAT.out HB9.out)).mono ?_;rintro e w10 ⟨vc2,F2',rfl,hbk,how,htr⟩
  have HSK10:=hide hbk;have HOW10:=hide how;have HT10:=hide htr;clear hbk how htr p0 p1 p2 p3 lb
  have hs10:=HT10.out.size;have hb9o:=HBO9.out.lt
  go_wp2
  have hcn:cellsAt x [a] (k+1)=vM x (cellsAt x [a] k) (frameF [a] k) (valsAt x [a] k):=rfl
  have HOWn:=hide (show T.ow w10 (T.sl 26 1 ((cellsAt x [a] (k+1)).map (T.ints 2))) F2' [vc2] from by rw[hcn];exact HOW10.out.ow)
  have hnm:bo ∉ [bs]:=by simp;omega
  have HBO10:=hide (HBO9.out.trn HT10.out hnm);have HRO10:=hide (own_trnF HRO9.out HT10.out (fun q hq=>by simp at hq;omega));have HT11:=hide (HT9.out.trans HT10.out)
  have hg1:bo ∉ F2':=fun hm=>by have:=HOW10.out.lo _ hm;omega
  have hg2: ∀ g,(Value.slice A8 l8 c8).ownBlock=some g→g ∉ F2':=fun g hg hm=>by have h1:=HOW10.out.lo _ hm;have h2:=(HRO9.out.lt g hg).2;omega
  have hz10:w2.heap.size≤w10.heap.size:=by omega
  go_roundw
  case rel=>exact⟨k+1,by omega,by go_num,cs.setIfInBounds 0 (.slice A8 l8 c8),.slice A8 l8 c8,vc2,F2',HSK10.out,HOWn.out,HBO10.out,HR9.out,HRO10.out,HRN9.out,hg1,hg2,HT11.out,hz10⟩
  case measure=>simp[intOf];omega
theorem c_l08Render (x:xG) (b o:Nat) (vin:Value) (a:List Int) (n:Nat) (w:World) (hP:wZ x) (h1:x.zJ=1) (h2:x.zK.length=1) (hA: ∀ y ∈ a,Smp y) (hn:n≤1048576) (hin:T.rd w (T.sl 26 1 ([a].map (T.ints 2))) [vin]) (h:T.at w x.fs b o):Calls Tryz.prog 188 #[.pointer (some ⟨b,o,none⟩),vin,.int .i64 (n:Int)] w fun e w'=> ∃ v,e= .returned v∧T.rd w' (T.sl 26 1 ([rowF x a n].map (T.ints 2))) [v]∧Below w.heap.size w w':=by
 have HAT:=hide h
 obtain⟨hlt0,cs,hr,hc⟩:=h
 obtain⟨v1,v2,v3,rfl,h1,h2,h3⟩:=xG.yO hr
 clear hr
 have R1:=hide h1;obtain⟨va1,vc1,rfl,vl1,vm1,vx1⟩:=T.yN h1
 have HX1:=hide vx1;clear vx1 h1
 have R2:=hide h2;obtain⟨va2,vc2,rfl,vl2,vm2,vx2⟩:=T.yN h2
 have HX2:=hide vx2;clear vx2 h2
 have h3i:=T.yT.1 h3;obtain⟨va3,vc3,rfl,vl3,vm3,vx3⟩:=h3i.open_
 have R3:=hide h3i;have HX3:=hide vx3;clear vx3 h3 h3i
 have HL:=hide hlt0;have HCC:=hide hc;have HB0:=hide (Below.refl w.heap.size w);clear hlt0 hc
 obtain⟨IA,il,ic,rfl⟩:=T.yV hin
 have HIN:=hide hin;have HPO:=hide hP;have HAA:=hide hA;clear hin hP hA
 have p0:w.cell? ⟨b,o,none⟩=some (.int .i64 x.zJ):=(HB0.out.cell HL.out).trans (HCC.out 0 _ rfl)
 have p1:w.cell? ⟨b,o+1,none⟩=some (.slice va1 x.zN.length vc1):=(HB0.out.cell HL.out).trans (HCC.out 1 _ rfl)
 have p2:w.cell? ⟨b,o+2,none⟩=some (.slice va2 x.zB.length vc2):=(HB0.out.cell HL.out).trans (HCC.out 2 _ rfl)
 have p3:w.cell? ⟨b,o+3,none⟩=some (.slice va3 x.zK.length vc3):=(HB0.out.cell HL.out).trans (HCC.out 3 _ rfl)
 have lb:b<w.heap.size:=lL HL.out HB0.out.size
 go_enter Tryz.func188,Tryz.ntmps188
 go_wp2_with fail
 refine(c_l08Start x b o _ HPO.out.formed HAT.out).mono ?_;rintro e w1 ⟨vs,F,rfl,ho,hd⟩
 obtain⟨A7,l7,c7,rfl⟩:=T.yV (T.ow_rd _ _ _ ho.ow)
 have HA1:=hide (show Below w1.heap.size w1 (w1.alloc (.cells #[.slice A7 l7 c7] 270)) from(Below.refl _ _).alloc (Nat.le_refl _) _)
 have HB1:=hide (yJ hd hd.size HA1.out);have HO1:=hide (T.ow_all ho.ow HA1.out);have HK1:=hide (Bk.born w1 270 #[.slice A7 l7 c7]);have hs1:=hd.size;clear ho hd p0 p1 p2 p3 lb
 go_wp2_with fail
 refine(c_l08Block x b o _ w1.heap.size _ F a n (w1.alloc (.cells #[.slice A7 l7 c7] 270)) w HPO.out h1 h2 HAA.out hn HIN.out HB1.out hs1 HK1.out HO1.out HAT.out).mono ?_;rintro e w2 ⟨v,rfl,hr,hb⟩
 have HR2:=hide hr;have HB2:=hide hb;clear hr hb
 go_wp2
 go_ret
 exact⟨_,rfl,HR2.out,HB2.out⟩
end
section
open Go.RowKit
theorem c_l23Sources (v:Value) (xs:List (List Int)) (w:World) (hS:zAz xs) (hr:T.rd w (T.sl 26 1 (xs.map (T.ints 2))) [v]):Calls Tryz.prog 236 #[v] w fun e w'=>e= .returned (.bool true)∧w=w':=by
 obtain⟨A,cap,rfl,hl,hc,hx⟩:=T.yN hr
 have HX:=hide hx;have HS:=hide hS.each;have h6:=hS.few;clear hx hr hS
 go_enter Tryz.func236,Tryz.ntmps236
 go_wp2
 go_loop [3] (fun i=> ∃ k:Nat,k≤xs.length∧i= .int .i64 k) (fun i=>xs.length - (intOf i).toNat)
 case atStart=>exact⟨0,Nat.zero_le _,rfl⟩
 case round=>
  obtain⟨k,hk,rfl⟩:=hrel
  by_cases hlt:k<xs.length
  ·have hgk:=gE hlt
   obtain⟨b,off,cs,rfl,hb,hcs,hcell⟩:=HX.out k xs[k] hgk
   have hq:=HS.out k _ hgk
   generalize xs[k]=l at *
   clear hgk
   obtain⟨v3,rfl⟩:=T.rd_one hcs
   have d0:=hcell 0 v3 rfl
   rw[Nat.mul_one,Nat.add_zero] at d0
   have R:=hide (T.yT.1 hcs);clear hcs hcell
   obtain⟨A3,c3,rfl,l3,m3,x3⟩:=R.out.open_
   clear x3
   have HQ:=hide hq;clear hq
   go_wp2_with (go_at_call 123;refine(c_l03Ok _ l _ R.out).mono ?_;rintro e w' ⟨rfl,rfl⟩;rw[HQ.out])
   go_round
   case rel=>exact⟨k+1,by omega,by go_num⟩
   case measure=>simp[intOf];omega
  ·obtain rfl:k=xs.length:=by omega
   go_wp2
   go_ret
   exact⟨yI (decide_eq_true (by omega)),rfl⟩
theorem c_l23Render (x:xI) (b o:Nat) (sources:List (List Int)) (sv:Value) (n:Nat) (w:World) (hT:TrackOk x) (hS:zAz sources) (hc:Each x.zR fun _ c=>c.zU<(sources.length:Int)) (hn:n≤4000) (hr_:T.rd w (T.sl 26 1 (sources.map (T.ints 2))) [sv]) (h:T.at w x.fs b o):Calls Tryz.prog 237 #[sv,.pointer (some ⟨b,o,none⟩),.int .i64 (n:Int)] w fun e w'=> ∃ v,e= .returned v∧OwI 2 w' w.heap.size v (uS sources x n)∧Below w.heap.size w w':=by
 have HAT:=hide h
 obtain⟨hlt0,cs,hr,hc⟩:=h
 obtain⟨v0,rfl,h0⟩:=xI.yO hr
 clear hr
 have R0:=hide h0;obtain⟨va0,vc0,rfl,vl0,vm0,vx0⟩:=T.yN h0
 have HX0:=hide vx0;clear vx0 h0
 have HL:=hide hlt0;have HCC:=hide hc;have HB0:=hide (Below.refl w.heap.size w);clear hlt0 hc
 have HTO:=hide hT;have HSO:=hide hS;have HCS:=hide hc;clear hT hS hc
 obtain⟨SA,sc,rfl,sl_,sm,sx⟩:=T.yN hr_
 have HSX:=hide sx;clear sx hr_
 have HALL:=hide (show wV sources x.zR n x.zR.length=uS sources x n from rfl)
 have p0:w.cell? ⟨b,o,none⟩=some (.slice va0 x.zR.length vc0):=(HB0.out.cell HL.out).trans (HCC.out 0 _ rfl)
 have lb:b<w.heap.size:=lL HL.out HB0.out.size
 go_enter Tryz.func237,Tryz.ntmps237
 go_wp2_with fail
 refine(c_l03Zeros0 n _ (by omega)).mono ?_;rintro e w1 ⟨v1,rfl,ho,hd⟩
 have HO1:=hide (show OwI 2 w1 w.heap.size v1 (wV sources x.zR n 0) from ho);have HB1:=hide hd;clear ho hd p0 lb
 have p0:w1.cell? ⟨b,o,none⟩=some (.slice va0 x.zR.length vc0):=(HB1.out.cell HL.out).trans (HCC.out 0 _ rfl)
 have lb:b<w1.heap.size:=lL HL.out HB1.out.size
 go_wp2
 go_loopw [8] (fun i wr=> ∃ k:Nat,k≤x.zR.length∧i= .int .i64 (k:Int)∧OwI 2 wr w.heap.size v1 (wV sources x.zR n k)∧Below w.heap.size w wr) (fun i _=>x.zR.length - (intOf i).toNat)
 case atStart=>exact⟨0,Nat.zero_le _,rfl,HO1.out,HB1.out⟩
 case round=>
  obtain⟨k,hk,rfl,ho,hbw⟩:=hrel
  have HO:=hide ho;have HB:=hide hbw;clear ho hbw p0 lb
  have p0:wr.cell? ⟨b,o,none⟩=some (.slice va0 x.zR.length vc0):=(HB.out.cell HL.out).trans (HCC.out 0 _ rfl)
  have lb:b<wr.heap.size:=lL HL.out HB.out.size
  by_cases hlt:k<x.zR.length
  rotate_left
  ·
   obtain rfl:k=x.zR.length:=by omega
   go_wp2
   go_ret
   exact⟨_,rfl,by rw[←HALL.out];exact HO.out,HB.out⟩
  have hgk:=gE hlt
  obtain⟨b1,off,csy,hA,hb1,hcs,hcell⟩:=HX0.out k x.zR[k] hgk
  subst hA
  generalize x.zR[k]=y at *
  have HG:=hide hgk;clear hgk
  have HAy:=hide (T.at_elem (o:=off+k * 5) hb1 (show T.rds w y.fs csy by simpa only[xL.t,T.rd] using hcs) hcell (by omega));clear hcs hcell
  clear p0 lb
  have p0:wr.cell? ⟨b,o,none⟩=some (.slice (some ⟨b1,off,none⟩) x.zR.length vc0):=(HB.out.cell HL.out).trans (HCC.out 0 _ rfl)
  have lb:b<wr.heap.size:=lL HL.out HB.out.size
  obtain⟨lty,csy',hry,hcy⟩:=HAy.out
  obtain rfl:=xL.yO hry
  have HCy:=hide hcy;clear hry hcy
  have cy0:wr.cell? ⟨b1,off+k * 5,none⟩=some (.int .i64 y.zU):=(HB.out.cell lty).trans (HCy.out 0 _ rfl)
  have cy1:wr.cell? ⟨b1,off+k * 5+1,none⟩=some (.int .i64 y.zH):=(HB.out.cell lty).trans (HCy.out 1 _ rfl)
  have cy2:wr.cell? ⟨b1,off+k * 5+2,none⟩=some (.int .i64 y.zF):=(HB.out.cell lty).trans (HCy.out 2 _ rfl)
  have cy3:wr.cell? ⟨b1,off+k * 5+3,none⟩=some (.int .i64 y.zX):=(HB.out.cell lty).trans (HCy.out 3 _ rfl)
  have cy4:wr.cell? ⟨b1,off+k * 5+4,none⟩=some (.int .i64 y.zS):=(HB.out.cell lty).trans (HCy.out 4 _ rfl)
  have lb1:b1<wr.heap.size:=lL hb1 HB.out.size
  have hok:=(HTO.out.clips k y HG.out).1;have hso:=HCS.out k y HG.out
  have i1:=xC.1 hok.source;have i2:=xC.1 hok.length;have i3:=xC.1 hok.from_;have i4:=xC.1 hok.at_;have HGN:=hide hok.gain;clear hok
  have hsj:y.zU.toNat<sources.length:=by omega
  have hgs:=gE hsj
  obtain⟨b5,o5,c5,rfl,hb5,hcs5,hcell5⟩:=HSX.out _ _ hgs
  have HSM:=hide (src_smp HSO.out hgs);have HSD:=hide (show sources.getD y.zU.toNat []=sources[y.zU.toNat] by rw[List.getD_eq_getElem?_getD,hgs];rfl)
  generalize sources[y.zU.toNat]=src at *
  obtain⟨v5,rfl⟩:=T.rd_one hcs5
  have e0:=hcell5 0 v5 rfl
  rw[Nat.mul_one,Nat.add_zero] at e0
  have RS:=hide (T.yT.1 hcs5);clear hcs5 hcell5 hgs
  obtain⟨A5,c5,rfl,l5,m5,x5⟩:=RS.out.open_;clear x5
  have HE0:=hide e0;clear e0
  have HUk:=hide (show wV sources x.zR n (k+1)=uH y src (wV sources x.zR n k) (clipN y n) by show (match x.zR[k]? with|some c=>_|none=>_)=_;rw[HG.out,←HSD.out])
  have hcn:clipN y n=min y.zF.toNat (n - y.zX.toNat):=rfl
  have HOX:=hide (show OwI 2 wr w.heap.size v1 (uH y src (wV sources x.zR n k) 0) from HO.out)
  go_wp2
  go_loopw [10] (fun i wr=> ∃ q:Nat,q≤clipN y n∧i= .int .i64 (q:Int)∧OwI 2 wr w.heap.size v1 (uH y src (wV sources x.zR n k) q)∧Below w.heap.size w wr) (fun i _=>clipN y n - (intOf i).toNat)
  case atStart=>exact⟨0,Nat.zero_le _,rfl,HOX.out,HB.out⟩
  case round=>
   obtain⟨q,hq,rfl,ho,hbw⟩:=hrel
   have HOi:=hide ho;have HBi:=hide hbw;clear ho hbw p0 lb cy0 cy1 cy2 cy3 cy4
   have p0:wr.cell? ⟨b,o,none⟩=some (.slice (some ⟨b1,off,none⟩) x.zR.length vc0):=(HBi.out.cell HL.out).trans (HCC.out 0 _ rfl)
   have lb:b<wr.heap.size:=lL HL.out HBi.out.size
   have cy0:wr.cell? ⟨b1,off+k * 5,none⟩=some (.int .i64 y.zU):=(HBi.out.cell lty).trans (HCy.out 0 _ rfl)
   have cy1:wr.cell? ⟨b1,off+k * 5+1,none⟩=some (.int .i64 y.zH):=(HBi.out.cell lty).trans (HCy.out 1 _ rfl)
   have cy2:wr.cell? ⟨b1,off+k * 5+2,none⟩=some (.int .i64 y.zF):=(HBi.out.cell lty).trans (HCy.out 2 _ rfl)
   have cy3:wr.cell? ⟨b1,off+k * 5+3,none⟩=some (.int .i64 y.zX):=(HBi.out.cell lty).trans (HCy.out 3 _ rfl)
   have cy4:wr.cell? ⟨b1,off+k * 5+4,none⟩=some (.int .i64 y.zS):=(HBi.out.cell lty).trans (HCy.out 4 _ rfl)
   have lb1':b1<wr.heap.size:=lL hb1 HBi.out.size
   have hwA:IntKind.i64.wrap (y.zX+(q:Int))=y.zX+(q:Int):=IntWalk.i64_in _ (by omega)
   by_cases hlq:q<clipN y n
   rotate_left
   ·
    obtain rfl:q=clipN y n:=by omega
    have HREL:=hide (show OwI 2 wr w.heap.size v1 (wV sources x.zR n (k+1)) by rw[HUk.out];exact HOi.out)
    generalize hcq:clipN y n=cq at *
    by_cases hlen:(cq:Int)<y.zF
    ·
     have hno: ¬ (y.zX+(cq:Int)<(n:Int)):=by omega
     go_wp2
     go_roundw
     case rel=>exact⟨k+1,by omega,by go_num,HREL.out,HBi.out⟩
     case measure=>simp[intOf];omega
    ·
     go_wp2
     go_roundw
     case rel=>exact⟨k+1,by omega,by go_num,HREL.out,HBi.out⟩
     case measure=>simp[intOf];omega
   have hl1:(q:Int)<y.zF:=by omega
   have hl2:y.zX+(q:Int)<(n:Int):=by omega
   obtain⟨j,hj⟩: ∃ j:Nat,y.zX+(q:Int)=(j:Int):=⟨(y.zX+(q:Int)).toNat,by omega⟩
   have hjA:y.zX.toNat+q=j:=by omega
   have hjn:(j:Int)<(n:Int):=by omega
   have hwj:IntKind.i64.wrap (j:Int)=(j:Int):=IntWalk.i64_in _ (by omega)
   have HCU:=hide (show uH y src (wV sources x.zR n k) (q+1)=(uH y src (wV sources x.zR n k) q).set j (wrp ((uH y src (wV sources x.zR n k) q).getD j 0+y.zS * wR src (y.zH+(q:Int)))) by rw[←hjA];rfl)
   have hRl:(uH y src (wV sources x.zR n k) q).length=n:=by rw[length_clipUp,uT]
   have HRS:=hide (smp_clipUp (c:=y) (src:=src) (smp_trackUp (ss:=sources) (l:=x.zR) (n:=n) k) q)
   generalize hR:uH y src (wV sources x.zR n k) q=R at *
   have hjl:j<R.length:=by omega
   obtain⟨g,cp,rfl,hcp,hgg,hgw⟩:=OwI.form HOi.out (by omega)
   rw[hRl] at *
   have hjl2:j<R.length:=by have h:=OwI.sizeN HOi.out;omega
   have HgA:=hide (gE hjl2)
   have ht0:=HRS.out (R[j]'hjl2) (List.getElem_mem hjl2)
   have HDA:=hide (show R.getD j 0=(R[j]'hjl2) by rw[List.getD_eq_getElem?_getD,HgA.out];rfl)
   generalize (R[j]'hjl2)=t0 at *
   have hwF:IntKind.i64.wrap (y.zH+(q:Int))=y.zH+(q:Int):=IntWalk.i64_in _ (by omega)
   have hs0:=smpAt_smp HSM.out (y.zH+(q:Int))
   obtain⟨s0,hse⟩: ∃ s0,wR src (y.zH+(q:Int))=s0:=⟨_,rfl⟩
   have HAT_:=hide (fun(W:World) (hr:RdI W (.slice A5 src.length c5) src)=>(by have:=c_l03At _ src (y.zH+(q:Int)) W hr;rw[hse] at this;exact this:Calls Tryz.prog 189 #[.slice A5 src.length c5,.int .i64 (y.zH+(q:Int))] W fun e w'=>e= .returned (.int .i64 s0)∧W=w'))
   rw[hse] at hs0 HCU;clear hse
   have HS0:=hide hs0;have HT0:=hide ht0;have HIN:=hide (wrp_inner t0 (y.zS * s0))
   have hsl2:y.zU<(sources.length:Int):=hso
   go_wp2
   have HCA:=hide (HOi.out.cellN HgA.out);have HE5:=hide ((HBi.out.cell hb5).trans HE0.out)
   have HWd:=hide (show wr.drew.cell? ⟨b1,off+k * 5,none⟩=some (.int .i64 y.zU)∧wr.drew.cell? ⟨b1,off+k * 5+1,none⟩=some (.int .i64 y.zH)∧wr.drew.cell? ⟨b1,off+k * 5+3,none⟩=some (.int .i64 y.zX)∧wr.drew.cell? ⟨b1,off+k * 5+4,none⟩=some (.int .i64 y.zS)∧wr.drew.cell? ⟨g,j,none⟩=some (.int .i64 t0)∧wr.drew.cell? ⟨b5,o5+y.zU.toNat,none⟩=some (.slice A5 src.length c5) from⟨cy0,cy1,cy3,cy4,HCA.out,HE5.out⟩)
   have HOd:=hide (show OwI 2 wr.drew w.heap.size (.slice (some ⟨g,0,none⟩) n cp) R from wO HOi.out (Below.refl wr.heap.size wr).drew);have HBd:=hide HBi.out.drew;have HSd:=hide (show RdI wr.drew (.slice A5 src.length c5) src from RdI.below (RdI.below RS.out HBi.out) (Below.refl wr.heap.size wr).drew)
   clear cy0 cy1 cy2 cy3 cy4 p0 lb
   refine wK (fun w'=>w'.cell? ⟨b1,off+k * 5,none⟩=some (.int .i64 y.zU)∧w'.cell? ⟨b1,off+k * 5+1,none⟩=some (.int .i64 y.zH)∧w'.cell? ⟨b1,off+k * 5+3,none⟩=some (.int .i64 y.zX)∧w'.cell? ⟨b1,off+k * 5+4,none⟩=some (.int .i64 y.zS)∧w'.cell? ⟨g,j,none⟩=some (.int .i64 t0)∧w'.cell? ⟨b5,o5+y.zU.toNat,none⟩=some (.slice A5 src.length c5)) 37 (by kernel_rfl) ?_ (fun hS0=>?_)
   ·exact HWd.out
   generalize hwd:wr.drew=wd at *;clear hwd
   refine tE 0 hS0 ?_
   refine tE 1 hS0 ?_
   refine tE 2 hS0 ?_
   refine tE 3 hS0 ?_
   refine tE 4 hS0 ?_
   refine tE 5 hS0 ?_
   refine tE 6 hS0 ?_
   refine tE 7 hS0 ?_
   refine tE 8 hS0 ?_
   refine tE 9 hS0 ?_
   refine tE 10 hS0 ?_
   refine tE 11 hS0 ?_
   refine tE 12 hS0 ?_
   refine tE 13 hS0 ?_
   refine tE 14 hS0 ?_
   refine tE 15 hS0 ?_
   refine tE 16 hS0 ?_
   refine tE 17 hS0 ?_
   refine tE 18 hS0 ?_
   refine tE 19 hS0 ?_
   refine tE 20 hS0 ?_
   refine tE 21 hS0 ?_
   refine tE 22 hS0 ?_
   refine tE 23 hS0 ?_
   refine tE 24 hS0 ?_
   refine tE 25 hS0 ?_
   refine tE 26 hS0 ?_
   refine tE 27 hS0 ?_
   refine tE 28 hS0 ?_
   refine tE 29 hS0 ?_
   refine tE 30 hS0 ?_
   refine tE 31 hS0 ?_
   refine tE 32 hS0 ?_
   refine oE 33 (fun K hK=>?_)
   go_simp
   go_wp2_with (go_at_call 189;refine(HAT_.out _ HSd.out).mono ?_;rintro e w' ⟨rfl,rfl⟩)
   refine uE hK ?_ (fun hS1=>?_)
   ·exact HWd.out
   clear hK K hS0
   refine oE 34 (fun K hK=>?_)
   go_simp
   go_wp2_with (go_at_call 239;refine(c_l01Mul _ _ _ HGN.out HS0.out).mono ?_;rintro e w' ⟨rfl,rfl⟩)
   refine uE hK ?_ (fun hS2=>?_)
   ·exact HWd.out
   clear hK K hS1
   refine oE 35 (fun K hK=>?_)
   go_simp
   go_wp2_with (go_at_call 238;refine(c_mAdd _ _ _ HT0.out (uM _)).mono ?_;rintro e w' ⟨rfl,rfl⟩;rw[HIN.out])
   refine uE hK ?_ (fun hS3=>?_)
   ·exact HWd.out
   clear hK K hS2
   refine tE 36 hS3 ?_
   refine wJ (o:=_) (by kernel_rfl) rfl (by kernel_rfl) ?_
   have ck:=HWd.out.2.2.2.2.1;have fr:=HOd.out.freeN j
   go_wp2
   have HO2:=hide (HOd.out.setN j (wrp (t0+y.zS * s0)));have HG2:=hide (HOd.out.grownN j (.int .i64 (wrp (t0+y.zS * s0))))
   have hgB:w.heap.size≤g:=hgg;have hsd:=HBd.out.size
   go_roundw
   case rel=>exact⟨q+1,by omega,by go_num,by rw[HCU.out,HDA.out];exact HO2.out,HBd.out.grown HG2.out hsd (fun j hj=>by injection hj with hj;omega)⟩
   case measure=>simp[intOf];omega
theorem c_sRenderTrack (x:xI) (cs:List Value) (sources:List (List Int)) (sv:Value) (n:Nat) (w:World) (hT:TrackOk x) (hS:zAz sources) (hc:Each x.zR fun _ c=>c.zU<(sources.length:Int)) (hn:n≤4000) (hr:T.rd w (T.sl 26 1 (sources.map (T.ints 2))) [sv]) (h:T.rds w x.fs cs):Calls Tryz.prog 185 #[sv,.agg cs.toArray,.int .i64 (n:Int)] w fun e w'=> ∃ v,e= .returned (.tuple #[v,.int .i64 0])∧OwI 2 w' w.heap.size v (uS sources x n)∧Below w.heap.size w w':=by
 obtain⟨v0,rfl,h0⟩:=xI.yO h
 clear h
 have R0:=hide h0;obtain⟨va0,vc0,rfl,vl0,vm0,vx0⟩:=T.yN h0
 have HX0:=hide vx0;clear vx0 h0
 have HB0:=hide (show Below w.heap.size w (w.alloc (.cells #[(.slice va0 x.zR.length vc0)] 96)) from(Below.refl _ _).alloc (Nat.le_refl _) _)
 have HK0:=hide (Bk.born w 96 #[(.slice va0 x.zR.length vc0)])
 have HTO:=hide hT;have HSO:=hide hS;have HCS:=hide hc;have HSR:=hide hr;have HTF:=hide (xA hT);clear hT hS hc
 obtain⟨SA,sc,rfl,sl_,sm,sx⟩:=T.yN hr;clear sx hr
 have hin:inB (n:Int) 0 4000=true:=xC.2 ⟨by omega,by omega⟩;have HIN:=hide hin;clear hin
 go_enter Tryz.func185,Tryz.ntmps185
 go_wp2_with fail
 refine(c_l23Sources _ sources _ HSO.out (T.yF HSR.out HB0.out)).mono ?_;rintro e w' ⟨rfl,rfl⟩
 go_wp2_with fail
 refine(c_l23Ok x _ _ _ (T.at_bk HK0.out (xI.rd_mk (T.yF R0.out HB0.out)))).mono ?_;rintro e w1 ⟨rfl,hd⟩;rw[HTF.out]
 have hb:Below (w.alloc (.cells #[(.slice va0 x.zR.length vc0)] 96)).heap.size (w.alloc (.cells #[(.slice va0 x.zR.length vc0)] 96)) w1:=by first|exact hd|exact hd.to_below _|exact hd ▸ Below.refl _ _
 have HK1:=hide (HK0.out.below hb HK0.out.lt);have HB1:=hide (yJ HB0.out HB0.out.size hb);clear hb hd;have ka:=HK1.out.cell;have la:=HK1.out.lt
 go_wp2_with fail
 refine(xX _ _ _ _).mono ?_;rintro e w' ⟨rfl,rfl⟩;rw[HIN.out]
 go_wp2
 go_loopw [8] (fun i wr=> ∃ k:Nat,k≤x.zR.length∧i= .int .i64 (k:Int)∧wr=w1) (fun i _=>x.zR.length - (intOf i).toNat)
 case atStart=>exact⟨0,Nat.zero_le _,rfl,rfl⟩
 case round=>
  obtain⟨k,hk,rfl,rfl⟩:=hrel
  by_cases hlt:k<x.zR.length
  rotate_left
  ·
   obtain rfl:k=x.zR.length:=by omega
   go_wp2_with fail
   refine(c_l23Render x _ _ sources _ n _ HTO.out HSO.out HCS.out hn (T.yF HSR.out HB1.out) (T.at_bk HK1.out (xI.rd_mk (T.yF R0.out HB1.out)))).mono ?_;rintro e w9 ⟨v9,rfl,ho,hb⟩
   have HO9:=hide (wH ho HB1.out.size);have HB9:=hide (yJ HB1.out HB1.out.size hb);clear ho hb ka la
   go_wp2
   go_ret2
   exact⟨_,rfl,HO9.out,HB9.out⟩
  have HB:=HB1
  have hgk:=gE hlt
  obtain⟨b1,off,cs1,hA,hb1,hcs,hcell⟩:=HX0.out k x.zR[k] hgk
  subst hA
  generalize x.zR[k]=y at *
  have HG:=hide hgk;clear hgk
  obtain rfl:=xL.yO (show T.rds _ _ _ by simpa only[xL.t,T.rd] using hcs)
  have d0:=(HB.out.cell hb1).trans (hcell 0 (.int .i64 y.zU) rfl)
  have d1:=(HB.out.cell hb1).trans (hcell 1 (.int .i64 y.zH) rfl)
  have d2:=(HB.out.cell hb1).trans (hcell 2 (.int .i64 y.zF) rfl)
  have d3:=(HB.out.cell hb1).trans (hcell 3 (.int .i64 y.zX) rfl)
  have d4:=(HB.out.cell hb1).trans (hcell 4 (.int .i64 y.zS) rfl)
  rw[show off+(k * 5+0)=off+k * 5 by omega] at d0
  rw[show off+(k * 5+1)=off+k * 5+1 by omega] at d1
  rw[show off+(k * 5+2)=off+k * 5+2 by omega] at d2
  rw[show off+(k * 5+3)=off+k * 5+3 by omega] at d3
  rw[show off+(k * 5+4)=off+k * 5+4 by omega] at d4
  clear hcs hcell
  have hq1:b1<wr.heap.size:=lL hb1 HB.out.size
  have hso:=HCS.out k y HG.out
  go_wp2
  go_roundw
  case rel=>exact⟨k+1,by omega,by go_num,by first|trivial|rfl⟩
  case measure=>simp[intOf];omega
end
end Go.Proofs.YtoibekfhepnedaaGreat
