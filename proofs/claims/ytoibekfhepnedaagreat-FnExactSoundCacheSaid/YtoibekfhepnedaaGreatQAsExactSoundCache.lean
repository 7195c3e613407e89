/- Contracts: valid sessions, both sides. -/
import Derived.Test.YtoibekfhepnedaaGreatQArExactSoundCache
set_option linter.unusedVariables false
set_option linter.unusedSimpArgs false
set_option maxHeartbeats 2000000
set_option maxRecDepth 20000
namespace Go.Proofs.YtoibekfhepnedaaGreat
open Go.RowKit
theorem c_isSession (x:GSession) (cs:List Value) (w:World) (hs:x.small) (h:T.rds w x.fs cs):Calls Tryz.prog 44 #[.agg cs.toArray] w fun e w'=>e= .returned (.bool (tf (SessionOk x)))∧Below w.heap.size w w':=by
 obtain⟨v1,v2,v3,v4,v5,rfl,h1,h2,h3,h4,h5⟩:=GSession.yN h
 clear h
 have R1:=hide h1;obtain⟨va1,vc1,rfl,vl1,vm1,vx1⟩:=T.yM h1
 have HX1:=hide vx1;clear vx1 h1
 have R2:=hide h2;obtain⟨va2,vc2,rfl,vl2,vm2,vx2⟩:=T.yM h2
 have HX2:=hide vx2;clear vx2 h2
 have h3i:=T.yR.1 h3;obtain⟨va3,vc3,rfl,vl3,vm3,vx3⟩:=h3i.open_
 have R3:=hide h3i;have HX3:=hide vx3;clear vx3 h3 h3i
 have R4:=hide h4;obtain⟨va4,vc4,rfl,vl4,vm4,vx4⟩:=T.yM h4
 have HX4:=hide vx4;clear vx4 h4
 have R5:=hide h5;obtain⟨va5,vc5,rfl,vl5,vm5,vx5⟩:=T.yM h5
 have HX5:=hide vx5;clear vx5 h5
 have HB0:=hide (show Below w.heap.size w (w.alloc (.cells #[.int .i64 x.zG,(.slice va1 x.zN.length vc1),(.slice va2 x.zO.length vc2),(.slice va3 x.zS.length vc3),(.slice va4 x.zP.length vc4),(.slice va5 x.zF.zC.length vc5)] 32)) from(Below.refl _ _).alloc (Nat.le_refl _) _)
 have HK0:=hide (Bk.born w 32 #[.int .i64 x.zG,(.slice va1 x.zN.length vc1),(.slice va2 x.zO.length vc2),(.slice va3 x.zS.length vc3),(.slice va4 x.zP.length vc4),(.slice va5 x.zF.zC.length vc5)])
 have hn5:x.zF.zC.length≤1048576:=hs.2.2.2.2.1
 have HEF:=hide hs.2.2.2.1.2;clear hs
 go_enter Tryz.func44,Tryz.ntmps44
 by_cases q1:inB x.zG 0 1000=true
 rotate_left
 ·have q1':inB x.zG 0 1000=false:=(by simpa using q1)
  go_wp2_with (first|(go_at_call 89;refine(c_within _ _ _ _).mono ?_;rintro e w' ⟨rfl,rfl⟩)|(go_at_call 102;refine(c_sizeStrip _ _ _ _ (by omega)).mono ?_;rintro e w' ⟨rfl,rfl⟩)|(go_at_call 106;refine(c_sizePatch _ _ _ _ (by omega)).mono ?_;rintro e w' ⟨rfl,rfl⟩)|(go_at_call 103;refine(c_areSources _ x.zN _ (T.yE R1.out HB0.out)).mono ?_;rintro e w' ⟨rfl,rfl⟩;rw[a2])|(go_at_call 105;refine(c_areIndices _ x.zS _ _ (Rd.below R3.out HB0.out) (by omega) (by omega)).mono ?_;rintro e w' ⟨rfl,rfl⟩;rw[a6]))
  go_ret
  exact⟨yH (yW fun h=>q1 h.length).symm,HB0.out⟩
 skip
 by_cases q2:SourcesOk x.zN
 rotate_left
 ·have a2:=yW q2;have Q2:=hide q2;clear q2
  go_wp2_with (first|(go_at_call 89;refine(c_within _ _ _ _).mono ?_;rintro e w' ⟨rfl,rfl⟩)|(go_at_call 102;refine(c_sizeStrip _ _ _ _ (by omega)).mono ?_;rintro e w' ⟨rfl,rfl⟩)|(go_at_call 106;refine(c_sizePatch _ _ _ _ (by omega)).mono ?_;rintro e w' ⟨rfl,rfl⟩)|(go_at_call 103;refine(c_areSources _ x.zN _ (T.yE R1.out HB0.out)).mono ?_;rintro e w' ⟨rfl,rfl⟩;rw[a2])|(go_at_call 105;refine(c_areIndices _ x.zS _ _ (Rd.below R3.out HB0.out) (by omega) (by omega)).mono ?_;rintro e w' ⟨rfl,rfl⟩;rw[a6]))
  go_ret
  exact⟨yH (yW fun h=>Q2.out h.sources).symm,HB0.out⟩
 have a2:=yX q2;have Q2:=hide q2;clear q2
 by_cases q3:x.zO.length≤6
 rotate_left
 ·skip
  go_wp2_with (first|(go_at_call 89;refine(c_within _ _ _ _).mono ?_;rintro e w' ⟨rfl,rfl⟩)|(go_at_call 102;refine(c_sizeStrip _ _ _ _ (by omega)).mono ?_;rintro e w' ⟨rfl,rfl⟩)|(go_at_call 106;refine(c_sizePatch _ _ _ _ (by omega)).mono ?_;rintro e w' ⟨rfl,rfl⟩)|(go_at_call 103;refine(c_areSources _ x.zN _ (T.yE R1.out HB0.out)).mono ?_;rintro e w' ⟨rfl,rfl⟩;rw[a2])|(go_at_call 105;refine(c_areIndices _ x.zS _ _ (Rd.below R3.out HB0.out) (by omega) (by omega)).mono ?_;rintro e w' ⟨rfl,rfl⟩;rw[a6]))
  go_ret
  exact⟨yH (yW fun h=>q3 h.few).symm,HB0.out⟩
 have Q3:=hide q3
 go_wp2_with (first|(go_at_call 89;refine(c_within _ _ _ _).mono ?_;rintro e w' ⟨rfl,rfl⟩)|(go_at_call 102;refine(c_sizeStrip _ _ _ _ (by omega)).mono ?_;rintro e w' ⟨rfl,rfl⟩)|(go_at_call 106;refine(c_sizePatch _ _ _ _ (by omega)).mono ?_;rintro e w' ⟨rfl,rfl⟩)|(go_at_call 103;refine(c_areSources _ x.zN _ (T.yE R1.out HB0.out)).mono ?_;rintro e w' ⟨rfl,rfl⟩;rw[a2])|(go_at_call 105;refine(c_areIndices _ x.zS _ _ (Rd.below R3.out HB0.out) (by omega) (by omega)).mono ?_;rintro e w' ⟨rfl,rfl⟩;rw[a6]))
 refine(c_isMixer x.zF _ _ hn5 (GMixer.rd_mk (T.yE R5.out HB0.out))).mono ?_;rintro e w1 ⟨rfl,hd⟩
 have hb:Below (w.alloc (.cells #[.int .i64 x.zG,(.slice va1 x.zN.length vc1),(.slice va2 x.zO.length vc2),(.slice va3 x.zS.length vc3),(.slice va4 x.zP.length vc4),(.slice va5 x.zF.zC.length vc5)] 32)).heap.size (w.alloc (.cells #[.int .i64 x.zG,(.slice va1 x.zN.length vc1),(.slice va2 x.zO.length vc2),(.slice va3 x.zS.length vc3),(.slice va4 x.zP.length vc4),(.slice va5 x.zF.zC.length vc5)] 32)) w1:=by first|exact hd|exact hd.to_below _|exact hd ▸ Below.refl _ _
 have HK1:=hide (HK0.out.below hb HK0.out.lt);have HB1:=hide (yI HB0.out HB0.out.size hb);clear hb hd;have ka:=HK1.out.cell;have la:=HK1.out.lt
 by_cases q4:MixerOk x.zF
 rotate_left
 ·rw[yW q4];have Q4:=hide q4;clear q4
  go_wp2
  go_ret
  exact⟨yH (yW fun h=>Q4.out h.mixer).symm,HB1.out⟩
 rw[yX q4];have Q4:=hide q4;clear q4 a2
 by_cases q5:x.zS.length=x.zO.length
 rotate_left
 ·have b5:((x.zS.length:Int) != (x.zO.length:Int))=true:=bneI_t (by omega);have Q5:=hide q5;clear q5
  go_wp2_with (first|(go_at_call 89;refine(c_within _ _ _ _).mono ?_;rintro e w' ⟨rfl,rfl⟩)|(go_at_call 102;refine(c_sizeStrip _ _ _ _ (by omega)).mono ?_;rintro e w' ⟨rfl,rfl⟩)|(go_at_call 106;refine(c_sizePatch _ _ _ _ (by omega)).mono ?_;rintro e w' ⟨rfl,rfl⟩)|(go_at_call 103;refine(c_areSources _ x.zN _ (T.yE R1.out HB1.out)).mono ?_;rintro e w' ⟨rfl,rfl⟩;rw[a2])|(go_at_call 105;refine(c_areIndices _ x.zS _ _ (Rd.below R3.out HB1.out) (by omega) (by omega)).mono ?_;rintro e w' ⟨rfl,rfl⟩;rw[a6]))
  go_ret
  exact⟨yH (yW fun h=>Q5.out h.feed).symm,HB1.out⟩
 have b5:((x.zS.length:Int) != (x.zO.length:Int))=false:=bneI_f (by omega);have Q5:=hide q5;clear q5
 by_cases q6:Idx x.zS (x.zF.zC.length:Int)
 rotate_left
 ·have a6:=yW q6;have Q6:=hide q6;clear q6
  go_wp2_with (first|(go_at_call 89;refine(c_within _ _ _ _).mono ?_;rintro e w' ⟨rfl,rfl⟩)|(go_at_call 102;refine(c_sizeStrip _ _ _ _ (by omega)).mono ?_;rintro e w' ⟨rfl,rfl⟩)|(go_at_call 106;refine(c_sizePatch _ _ _ _ (by omega)).mono ?_;rintro e w' ⟨rfl,rfl⟩)|(go_at_call 103;refine(c_areSources _ x.zN _ (T.yE R1.out HB1.out)).mono ?_;rintro e w' ⟨rfl,rfl⟩;rw[a2])|(go_at_call 105;refine(c_areIndices _ x.zS _ _ (Rd.below R3.out HB1.out) (by omega) (by omega)).mono ?_;rintro e w' ⟨rfl,rfl⟩;rw[a6]))
  go_ret
  exact⟨yH (yW fun h=>Q6.out h.feeds).symm,HB1.out⟩
 have a6:=yX q6;have Q6:=hide q6;clear q6
 by_cases q7:x.zP.length=x.zF.zC.length
 rotate_left
 ·have b7:((x.zP.length:Int) != (x.zF.zC.length:Int))=true:=bneI_t (by omega);have Q7:=hide q7;clear q7
  go_wp2_with (first|(go_at_call 89;refine(c_within _ _ _ _).mono ?_;rintro e w' ⟨rfl,rfl⟩)|(go_at_call 102;refine(c_sizeStrip _ _ _ _ (by omega)).mono ?_;rintro e w' ⟨rfl,rfl⟩)|(go_at_call 106;refine(c_sizePatch _ _ _ _ (by omega)).mono ?_;rintro e w' ⟨rfl,rfl⟩)|(go_at_call 103;refine(c_areSources _ x.zN _ (T.yE R1.out HB1.out)).mono ?_;rintro e w' ⟨rfl,rfl⟩;rw[a2])|(go_at_call 105;refine(c_areIndices _ x.zS _ _ (Rd.below R3.out HB1.out) (by omega) (by omega)).mono ?_;rintro e w' ⟨rfl,rfl⟩;rw[a6]))
  go_ret
  exact⟨yH (yW fun h=>Q7.out h.effect).symm,HB1.out⟩
 have b7:((x.zP.length:Int) != (x.zF.zC.length:Int))=false:=bneI_f (by omega);have Q7:=hide q7;clear q7
 go_wp2_with (first|(go_at_call 89;refine(c_within _ _ _ _).mono ?_;rintro e w' ⟨rfl,rfl⟩)|(go_at_call 102;refine(c_sizeStrip _ _ _ _ (by omega)).mono ?_;rintro e w' ⟨rfl,rfl⟩)|(go_at_call 106;refine(c_sizePatch _ _ _ _ (by omega)).mono ?_;rintro e w' ⟨rfl,rfl⟩)|(go_at_call 103;refine(c_areSources _ x.zN _ (T.yE R1.out HB1.out)).mono ?_;rintro e w' ⟨rfl,rfl⟩;rw[a2])|(go_at_call 105;refine(c_areIndices _ x.zS _ _ (Rd.below R3.out HB1.out) (by omega) (by omega)).mono ?_;rintro e w' ⟨rfl,rfl⟩;rw[a6]))
 clear a6 ka la
 go_loopw [60] (fun i wr=> ∃ k:Nat,k≤x.zO.length∧i= .int .i64 k∧Upto x.zO (fun _ t=>TrackOk t∧ ∀ c ∈ t.zQ,c.zT<(x.zN.length:Int)) k∧Below w1.heap.size w1 wr) (fun i _=>x.zO.length - (intOf i).toNat)
 case atStart=>exact⟨0,Nat.zero_le _,rfl,Upto.zero,Below.refl _ _⟩
 case round=>
  obtain⟨k,hk,rfl,hs,hbw⟩:=hrel
  have HS:=hide hs;have HW:=hide hbw;have HB:=hide (yI HB1.out HB1.out.size hbw);have HK:=hide (HK1.out.below hbw HK1.out.lt);clear hs hbw
  have ka:=HK.out.cell;have la:=HK.out.lt
  by_cases hlt:k<x.zO.length
  rotate_left
  ·have hall:=hide (HS.out.all (by omega));clear HS
   generalize wr=w2 at *
   have HB2:=HB;have HK2:=HK;clear HB HK
   go_wp2
   clear ka la
   go_loopw [79] (fun i wr=> ∃ k:Nat,k≤x.zP.length∧i= .int .i64 k∧Upto x.zP (fun _ p=>EffectOk p) k∧Below w2.heap.size w2 wr) (fun i _=>x.zP.length - (intOf i).toNat)
   case atStart=>exact⟨0,Nat.zero_le _,rfl,Upto.zero,Below.refl _ _⟩
   case round=>
    obtain⟨k,hk,rfl,hs,hbw⟩:=hrel
    have HS:=hide hs;have HW:=hide hbw;have HB:=hide (yI HB2.out HB2.out.size hbw);have HK:=hide (HK2.out.below hbw HK2.out.lt);clear hs hbw
    have ka:=HK.out.cell;have la:=HK.out.lt
    by_cases hlt:k<x.zP.length
    rotate_left
    ·have hall2:=hide (HS.out.all (by omega));clear HS
     go_wp2
     go_ret
     exact⟨yH (yX ⟨q1,Q2.out,Q3.out,Q4.out,Q5.out,Q6.out,Q7.out,fun i t ht=>⟨(hall.out i t ht).1,Each.of_mem.2 (hall.out i t ht).2⟩,hall2.out⟩).symm,HB.out⟩
    have hgk:=List.getElem?_eq_getElem hlt
    obtain⟨b1,off,cs1,hA,hb1,hcs,hcell⟩:=HX4.out k x.zP[k] hgk
    subst hA
    generalize x.zP[k]=y at *
    have HG:=hide hgk;clear hgk
    obtain⟨u1,u2,u3,rfl,hRY1,hRY2,hRY3⟩:=GPatch.yN (show T.rds _ _ _ by simpa only[GPatch.t,T.rd] using hcs)
    have d0:=(HB.out.cell hb1).trans (hcell 0 (.int .i64 y.zK) rfl)
    have d1:=(HB.out.cell hb1).trans (hcell 1 (u1) rfl)
    have d2:=(HB.out.cell hb1).trans (hcell 2 (u2) rfl)
    have d3:=(HB.out.cell hb1).trans (hcell 3 (u3) rfl)
    rw[show off+(k * 4+0)=off+k * 4 by omega] at d0
    rw[show off+(k * 4+1)=off+k * 4+1 by omega] at d1
    rw[show off+(k * 4+2)=off+k * 4+2 by omega] at d2
    rw[show off+(k * 4+3)=off+k * 4+3 by omega] at d3
    have RY1:=hide (T.yE hRY1 HB.out);clear hRY1
    have RY2:=hide (T.yE hRY2 HB.out);clear hRY2
    have RY3:=hide (T.yE hRY3 HB.out);clear hRY3
    clear hcs hcell
    obtain⟨ua1,uc1,rfl,ul1,um1,ux1⟩:=T.yM RY1.out;clear ux1
    obtain⟨ua2,uc2,rfl,ul2,um2,ux2⟩:=T.yM RY2.out;clear ux2
    have RY3i:=hide (T.yR.1 RY3.out);obtain⟨ua3,uc3,rfl,ul3,um3,ux3⟩:=RY3i.out.open_;clear ux3
    have hq1:b1<wr.heap.size:=Nat.lt_of_lt_of_le hb1 HB.out.size
    have hny:=(HEF.out y (List.mem_of_getElem? HG.out)).2.1.1
    have HWP:=hide (show Below wr.heap.size wr (wr.alloc (.cells #[.int .i64 y.zK,(.slice ua1 y.zM.length uc1),(.slice ua2 y.zB.length uc2),(.slice ua3 y.zL.length uc3)] 108)) from(Below.refl _ _).alloc (Nat.le_refl _) _)
    go_wp2_with fail
    refine(c_isEffect y _ _ hny (GPatch.rd_mk (T.yE RY1.out HWP.out) (T.yE RY2.out HWP.out) (T.yE RY3.out HWP.out))).mono ?_;rintro e w3 ⟨rfl,hb3⟩
    have H3:=hide (yI HWP.out HWP.out.size hb3);have HB3:=hide (yI HB.out HB.out.size H3.out);have HW3:=hide (yI HW.out HW.out.size H3.out);clear hb3
    by_cases q8:EffectOk y
    rotate_left
    ·rw[yW q8];have Q8:=hide q8;clear q8
     go_wp2
     go_ret
     exact⟨yH (yW fun h=>Q8.out (h.effects k y HG.out)).symm,HB3.out⟩
    rw[yX q8];have Q8:=hide q8;clear q8
    go_wp2
    go_roundw
    case rel=>exact⟨k+1,by omega,by go_num,HS.out.step HG.out Q8.out,HW3.out⟩
    case measure=>simp[intOf];omega
  have hgk:=List.getElem?_eq_getElem hlt
  obtain⟨b1,off,cs1,hA,hb1,hcs,hcell⟩:=HX2.out k x.zO[k] hgk
  subst hA
  generalize x.zO[k]=y at *
  have HG:=hide hgk;clear hgk
  obtain⟨u0,rfl,hRY0⟩:=GTrack.yN (show T.rds _ _ _ by simpa only[GTrack.t,T.rd] using hcs)
  have d0:=(HB.out.cell hb1).trans (hcell 0 (u0) rfl)
  rw[show off+(k * 1+0)=off+k by omega] at d0
  have RY0:=hide (T.yE hRY0 HB.out);clear hRY0
  clear hcs hcell
  obtain⟨ua0,uc0,rfl,ul0,um0,ux0⟩:=T.yM RY0.out;clear ux0
  have hq1:b1<wr.heap.size:=Nat.lt_of_lt_of_le hb1 HB.out.size
  by_cases q8:TrackOk y
  rotate_left
  ·have b8:=yW q8;have Q8:=hide q8;clear q8
   have hWb:Below wr.heap.size wr (wr.alloc (.cells #[(.slice ua0 y.zQ.length uc0)] 96)):=(Below.refl _ _).alloc (Nat.le_refl _) _
   have hNb:=Bk.born wr 96 #[(.slice ua0 y.zQ.length uc0)]
   go_wp2
   generalize wr.alloc (.cells #[(.slice ua0 y.zQ.length uc0)] 96)=W at *
   have HWb:=hide hWb;have HNb:=hide hNb;have HKW:=hide (HK.out.below hWb HK.out.lt)
   have g0:=xB hNb;have g1:=xB HKW.out
   clear hWb hNb
   refine xA (by kernel_rfl) (by kernel_rfl) ?_
   repeat(first|go_big_quiet_skip|(go_big_quiet_want;go_big_quiet_op;first|go_big_quiet_on|(apply Exists.intro;refine⟨fun _=>?_,?_⟩;(· (first|(go_at_call 107;exact Calls.yK ((c_isTrack y _ _ (GTrack.rd_mk (T.yE RY0.out (yI HWb.out HWb.out.size (yG W _))))).mono (fun e w' h=>by(first|rw[b8] at h|skip);exact h)))|(go_at_call 109;exact Calls.yJ (c_sizeLL _ _ _ _ (by omega)))|(go_at_call 108;exact Calls.yK ((c_hasSources y _ (x.zN.length:Int) _ (GTrack.rd_mk (T.yE RY0.out (yI HWb.out HWb.out.size (yG W _))))).mono (fun e w' h=>by(first|rw[b9] at h|skip);exact h)))));go_big_quiet_on)))
   refine wpQuiet_nil ?_
   rintro w9 ⟨uu,rfl⟩
   have hb9:=yG W uu
   generalize bel W uu=w9 at *
   have HC:=hide (yI HWb.out HWb.out.size hb9);have HC2:=hide (yI HB.out HB.out.size HC.out);have HC3:=hide (yI HW.out HW.out.size HC.out)
   clear hb9 g0 g1
   go_wp2
   go_ret
   exact⟨yH (yW fun h=>Q8.out (h.tracks k y HG.out).1).symm,HC2.out⟩
  have b8:=yX q8;have Q8:=hide q8;clear q8
  by_cases q9: ∀ c ∈ y.zQ,c.zT<(x.zN.length:Int)
  rotate_left
  ·have b9:=yW q9;have Q9:=hide q9;clear q9
   have hWb:Below wr.heap.size wr (wr.alloc (.cells #[(.slice ua0 y.zQ.length uc0)] 96)):=(Below.refl _ _).alloc (Nat.le_refl _) _
   have hNb:=Bk.born wr 96 #[(.slice ua0 y.zQ.length uc0)]
   go_wp2
   generalize wr.alloc (.cells #[(.slice ua0 y.zQ.length uc0)] 96)=W at *
   have HWb:=hide hWb;have HNb:=hide hNb;have HKW:=hide (HK.out.below hWb HK.out.lt)
   have g0:=xB hNb;have g1:=xB HKW.out
   clear hWb hNb
   refine xA (by kernel_rfl) (by kernel_rfl) ?_
   repeat(first|go_big_quiet_skip|(go_big_quiet_want;go_big_quiet_op;first|go_big_quiet_on|(apply Exists.intro;refine⟨fun _=>?_,?_⟩;(· (first|(go_at_call 107;exact Calls.yK ((c_isTrack y _ _ (GTrack.rd_mk (T.yE RY0.out (yI HWb.out HWb.out.size (yG W _))))).mono (fun e w' h=>by(first|rw[b8] at h|skip);exact h)))|(go_at_call 109;exact Calls.yJ (c_sizeLL _ _ _ _ (by omega)))|(go_at_call 108;exact Calls.yK ((c_hasSources y _ (x.zN.length:Int) _ (GTrack.rd_mk (T.yE RY0.out (yI HWb.out HWb.out.size (yG W _))))).mono (fun e w' h=>by(first|rw[b9] at h|skip);exact h)))));go_big_quiet_on)))
   refine wpQuiet_nil ?_
   rintro w9 ⟨uu,rfl⟩
   have hb9:=yG W uu
   generalize bel W uu=w9 at *
   have HC:=hide (yI HWb.out HWb.out.size hb9);have HC2:=hide (yI HB.out HB.out.size HC.out);have HC3:=hide (yI HW.out HW.out.size HC.out)
   clear hb9 g0 g1
   go_wp2
   go_ret
   exact⟨yH (yW fun h=>Q9.out (Each.of_mem.1 (h.tracks k y HG.out).2)).symm,HC2.out⟩
  have b9:=yX q9;have Q9:=hide q9;clear q9
  have hWb:Below wr.heap.size wr (wr.alloc (.cells #[(.slice ua0 y.zQ.length uc0)] 96)):=(Below.refl _ _).alloc (Nat.le_refl _) _
  have hNb:=Bk.born wr 96 #[(.slice ua0 y.zQ.length uc0)]
  go_wp2
  generalize wr.alloc (.cells #[(.slice ua0 y.zQ.length uc0)] 96)=W at *
  have HWb:=hide hWb;have HNb:=hide hNb;have HKW:=hide (HK.out.below hWb HK.out.lt)
  have g0:=xB hNb;have g1:=xB HKW.out
  clear hWb hNb
  refine xA (by kernel_rfl) (by kernel_rfl) ?_
  repeat(first|go_big_quiet_skip|(go_big_quiet_want;go_big_quiet_op;first|go_big_quiet_on|(apply Exists.intro;refine⟨fun _=>?_,?_⟩;(· (first|(go_at_call 107;exact Calls.yK ((c_isTrack y _ _ (GTrack.rd_mk (T.yE RY0.out (yI HWb.out HWb.out.size (yG W _))))).mono (fun e w' h=>by(first|rw[b8] at h|skip);exact h)))|(go_at_call 109;exact Calls.yJ (c_sizeLL _ _ _ _ (by omega)))|(go_at_call 108;exact Calls.yK ((c_hasSources y _ (x.zN.length:Int) _ (GTrack.rd_mk (T.yE RY0.out (yI HWb.out HWb.out.size (yG W _))))).mono (fun e w' h=>by(first|rw[b9] at h|skip);exact h)))));go_big_quiet_on)))
  refine wpQuiet_nil ?_
  rintro w9 ⟨uu,rfl⟩
  have hb9:=yG W uu
  generalize bel W uu=w9 at *
  have HC:=hide (yI HWb.out HWb.out.size hb9);have HC2:=hide (yI HB.out HB.out.size HC.out);have HC3:=hide (yI HW.out HW.out.size HC.out)
  clear hb9 g0 g1
  go_wp2
  go_roundw
  case rel=>exact⟨k+1,by omega,by go_num,HS.out.step HG.out ⟨Q8.out,Q9.out⟩,HC3.out⟩
  case measure=>simp[intOf];omega
end Go.Proofs.YtoibekfhepnedaaGreat
