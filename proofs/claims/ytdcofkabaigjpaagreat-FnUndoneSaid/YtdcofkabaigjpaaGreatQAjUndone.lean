/- Contracts: valid sessions, both sides. Contracts: valid sessions, by the reference. Contracts: valid caches, both sides. Contracts: reading a cache, both sides. Rendering a patch, in plain words. Contracts: rendering, small functions of both sides. Contract: what a node gives out, by the reference. -/
import Derived.Test.YtdcofkabaigjpaaGreatQAiUndone
import Derived.Test.YtdcofkabaigjpaaGreatQAaUndone
import Derived.Test.YtdcofkabaigjpaaGreatQAcUndone
import Derived.Test.YtdcofkabaigjpaaGreatQAhUndone
import Derived.Test.YtdcofkabaigjpaaGreatQAdUndone
set_option linter.unusedVariables false
set_option linter.unusedSimpArgs false
set_option maxHeartbeats 2000000
set_option maxRecDepth 20000
namespace Go.Proofs.YtdcofkabaigjpaaGreat
section
open Go.RowKit
theorem c_isSession (x:xM) (cs:List Value) (w:World) (hs:x.small) (h:T.rds w x.fs cs):Calls Tryz.prog 23 #[.agg cs.toArray] w fun e w'=>e= .returned (.bool (tf (xW x)))∧Below w.heap.size w w':=by
 obtain⟨v1,v2,v3,v4,v5,rfl,h1,h2,h3,h4,h5⟩:=xM.yR h;clear h;obtain⟨va1,vc1,rfl,vl1,vm1,R1,HX1⟩:=oG h1;clear h1;obtain⟨va2,vc2,rfl,vl2,vm2,R2,HX2⟩:=oG h2;clear h2;obtain⟨va3,vc3,rfl,vl3,vm3,R3,HX3⟩:=oI h3;clear h3;obtain⟨va4,vc4,rfl,vl4,vm4,R4,HX4⟩:=oG h4;clear h4;obtain⟨va5,vc5,rfl,vl5,vm5,R5,HX5⟩:=oG h5;clear h5;have HB0:=xL (show Below w.heap.size w (w.alloc (.cells #[.int .i64 x.zA,(.slice va1 x.zD.length vc1),(.slice va2 x.zB.length vc2),(.slice va3 x.zO.length vc3),(.slice va4 x.zG.length vc4),(.slice va5 x.zI.zF.length vc5)] 32)) from zR.alloc zJ _);have HK0:=xL (Bk.born w 32 #[.int .i64 x.zA,(.slice va1 x.zD.length vc1),(.slice va2 x.zB.length vc2),(.slice va3 x.zO.length vc3),(.slice va4 x.zG.length vc4),(.slice va5 x.zI.zF.length vc5)]);have hn5:x.zI.zF.length≤1048576:=hs.2.2.2.2.1;have HEF:=xL hs.2.2.2.1.2;clear hs
 go_enter Tryz.func23,Tryz.ntmps23
 by_cases q1:inB x.zA 0 1000=true
 rotate_left
 ·have q1':inB x.zA 0 1000=false:=(by simpa using q1)
  go_wp2_with (first|(go_at_call 47;refine(xU _ _ _ _).mono ?_;rintro e w' ⟨rfl,rfl⟩)|(go_at_call 46;refine(vI _ _ _ _ zM).mono ?_;rintro e w' ⟨rfl,rfl⟩)|(go_at_call 51;refine(uI _ _ _ _ zM).mono ?_;rintro e w' ⟨rfl,rfl⟩)|(go_at_call 48;refine(uB _ x.zD _ (T.yH R1.out HB0.out)).mono ?_;rintro e w' ⟨rfl,rfl⟩;rw[a2])|(go_at_call 50;refine(wO _ x.zO _ _ (Rd.below R3.out HB0.out) zM zM).mono ?_;rintro e w' ⟨rfl,rfl⟩;rw[a6]))
  go_ret
  exact⟨yK (xE fun h=>q1 h.length).symm,HB0.out⟩
 skip
 by_cases q2:SourcesOk x.zD
 rotate_left
 ·have a2:=xE q2;have Q2:=xL q2;clear q2
  go_wp2_with (first|(go_at_call 47;refine(xU _ _ _ _).mono ?_;rintro e w' ⟨rfl,rfl⟩)|(go_at_call 46;refine(vI _ _ _ _ zM).mono ?_;rintro e w' ⟨rfl,rfl⟩)|(go_at_call 51;refine(uI _ _ _ _ zM).mono ?_;rintro e w' ⟨rfl,rfl⟩)|(go_at_call 48;refine(uB _ x.zD _ (T.yH R1.out HB0.out)).mono ?_;rintro e w' ⟨rfl,rfl⟩;rw[a2])|(go_at_call 50;refine(wO _ x.zO _ _ (Rd.below R3.out HB0.out) zM zM).mono ?_;rintro e w' ⟨rfl,rfl⟩;rw[a6]))
  go_ret
  exact⟨yK (xE fun h=>Q2.out h.sources).symm,HB0.out⟩
 have a2:=xG q2;have Q2:=xL q2;clear q2;by_cases q3:x.zB.length≤6
 rotate_left
 ·skip
  go_wp2_with (first|(go_at_call 47;refine(xU _ _ _ _).mono ?_;rintro e w' ⟨rfl,rfl⟩)|(go_at_call 46;refine(vI _ _ _ _ zM).mono ?_;rintro e w' ⟨rfl,rfl⟩)|(go_at_call 51;refine(uI _ _ _ _ zM).mono ?_;rintro e w' ⟨rfl,rfl⟩)|(go_at_call 48;refine(uB _ x.zD _ (T.yH R1.out HB0.out)).mono ?_;rintro e w' ⟨rfl,rfl⟩;rw[a2])|(go_at_call 50;refine(wO _ x.zO _ _ (Rd.below R3.out HB0.out) zM zM).mono ?_;rintro e w' ⟨rfl,rfl⟩;rw[a6]))
  go_ret
  exact⟨yK (xE fun h=>q3 h.few).symm,HB0.out⟩
 have Q3:=xL q3;go_wp2_with (first|(go_at_call 47;refine(xU _ _ _ _).mono ?_;rintro e w' ⟨rfl,rfl⟩)|(go_at_call 46;refine(vI _ _ _ _ zM).mono ?_;rintro e w' ⟨rfl,rfl⟩)|(go_at_call 51;refine(uI _ _ _ _ zM).mono ?_;rintro e w' ⟨rfl,rfl⟩)|(go_at_call 48;refine(uB _ x.zD _ (T.yH R1.out HB0.out)).mono ?_;rintro e w' ⟨rfl,rfl⟩;rw[a2])|(go_at_call 50;refine(wO _ x.zO _ _ (Rd.below R3.out HB0.out) zM zM).mono ?_;rintro e w' ⟨rfl,rfl⟩;rw[a6]))
 refine(c_isMixer x.zI _ _ hn5 (uP.rd_mk (T.yH R5.out HB0.out))).mono ?_;rintro e w1 ⟨rfl,hd⟩;have hb:Below (w.alloc (.cells #[.int .i64 x.zA,(.slice va1 x.zD.length vc1),(.slice va2 x.zB.length vc2),(.slice va3 x.zO.length vc3),(.slice va4 x.zG.length vc4),(.slice va5 x.zI.zF.length vc5)] 32)).heap.size (w.alloc (.cells #[.int .i64 x.zA,(.slice va1 x.zD.length vc1),(.slice va2 x.zB.length vc2),(.slice va3 x.zO.length vc3),(.slice va4 x.zG.length vc4),(.slice va5 x.zI.zF.length vc5)] 32)) w1:=by first|exact hd|exact hd.to_below _|exact hd ▸ zR
 have HK1:=xL (HK0.out.below hb HK0.out.lt);have HB1:=xL (yM HB0.out HB0.out.size hb);clear hb hd;have ka:=HK1.out.cell;have la:=HK1.out.lt;by_cases q4:MixerOk x.zI
 rotate_left
 ·rw[xE q4];have Q4:=xL q4;clear q4
  go_wp2;go_ret
  exact⟨yK (xE fun h=>Q4.out h.mixer).symm,HB1.out⟩
 rw[xG q4];have Q4:=xL q4;clear q4 a2;by_cases q5:x.zO.length=x.zB.length
 rotate_left
 ·have b5:((x.zO.length:Int) != (x.zB.length:Int))=true:=uQ zM;have Q5:=xL q5;clear q5
  go_wp2_with (first|(go_at_call 47;refine(xU _ _ _ _).mono ?_;rintro e w' ⟨rfl,rfl⟩)|(go_at_call 46;refine(vI _ _ _ _ zM).mono ?_;rintro e w' ⟨rfl,rfl⟩)|(go_at_call 51;refine(uI _ _ _ _ zM).mono ?_;rintro e w' ⟨rfl,rfl⟩)|(go_at_call 48;refine(uB _ x.zD _ (T.yH R1.out HB1.out)).mono ?_;rintro e w' ⟨rfl,rfl⟩;rw[a2])|(go_at_call 50;refine(wO _ x.zO _ _ (Rd.below R3.out HB1.out) zM zM).mono ?_;rintro e w' ⟨rfl,rfl⟩;rw[a6]))
  go_ret
  exact⟨yK (xE fun h=>Q5.out h.feed).symm,HB1.out⟩
 have b5:((x.zO.length:Int) != (x.zB.length:Int))=false:=uT zM;have Q5:=xL q5;clear q5;by_cases q6:Idx x.zO (x.zI.zF.length:Int)
 rotate_left
 ·have a6:=xE q6;have Q6:=xL q6;clear q6
  go_wp2_with (first|(go_at_call 47;refine(xU _ _ _ _).mono ?_;rintro e w' ⟨rfl,rfl⟩)|(go_at_call 46;refine(vI _ _ _ _ zM).mono ?_;rintro e w' ⟨rfl,rfl⟩)|(go_at_call 51;refine(uI _ _ _ _ zM).mono ?_;rintro e w' ⟨rfl,rfl⟩)|(go_at_call 48;refine(uB _ x.zD _ (T.yH R1.out HB1.out)).mono ?_;rintro e w' ⟨rfl,rfl⟩;rw[a2])|(go_at_call 50;refine(wO _ x.zO _ _ (Rd.below R3.out HB1.out) zM zM).mono ?_;rintro e w' ⟨rfl,rfl⟩;rw[a6]))
  go_ret
  exact⟨yK (xE fun h=>Q6.out h.feeds).symm,HB1.out⟩
 have a6:=xG q6;have Q6:=xL q6;clear q6;by_cases q7:x.zG.length=x.zI.zF.length
 rotate_left
 ·have b7:((x.zG.length:Int) != (x.zI.zF.length:Int))=true:=uQ zM;have Q7:=xL q7;clear q7
  go_wp2_with (first|(go_at_call 47;refine(xU _ _ _ _).mono ?_;rintro e w' ⟨rfl,rfl⟩)|(go_at_call 46;refine(vI _ _ _ _ zM).mono ?_;rintro e w' ⟨rfl,rfl⟩)|(go_at_call 51;refine(uI _ _ _ _ zM).mono ?_;rintro e w' ⟨rfl,rfl⟩)|(go_at_call 48;refine(uB _ x.zD _ (T.yH R1.out HB1.out)).mono ?_;rintro e w' ⟨rfl,rfl⟩;rw[a2])|(go_at_call 50;refine(wO _ x.zO _ _ (Rd.below R3.out HB1.out) zM zM).mono ?_;rintro e w' ⟨rfl,rfl⟩;rw[a6]))
  go_ret
  exact⟨yK (xE fun h=>Q7.out h.effect).symm,HB1.out⟩
 have b7:((x.zG.length:Int) != (x.zI.zF.length:Int))=false:=uT zM;have Q7:=xL q7;clear q7;go_wp2_with (first|(go_at_call 47;refine(xU _ _ _ _).mono ?_;rintro e w' ⟨rfl,rfl⟩)|(go_at_call 46;refine(vI _ _ _ _ zM).mono ?_;rintro e w' ⟨rfl,rfl⟩)|(go_at_call 51;refine(uI _ _ _ _ zM).mono ?_;rintro e w' ⟨rfl,rfl⟩)|(go_at_call 48;refine(uB _ x.zD _ (T.yH R1.out HB1.out)).mono ?_;rintro e w' ⟨rfl,rfl⟩;rw[a2])|(go_at_call 50;refine(wO _ x.zO _ _ (Rd.below R3.out HB1.out) zM zM).mono ?_;rintro e w' ⟨rfl,rfl⟩;rw[a6]))
 clear a6 ka la
 go_loopw [60] (fun i wr=> ∃ k:Nat,k≤x.zB.length∧i= .int .i64 k∧vF x.zB (fun _ t=>uJ t∧ ∀ c ∈ t.zL,c.zX<(x.zD.length:Int)) k∧Below w1.heap.size w1 wr) (fun i _=>x.zB.length - (intOf i).toNat)
 case atStart=>exact⟨0,Nat.zero_le _,rfl,vF.zero,zR⟩
 case round=>
  obtain⟨k,hk,rfl,hs,hbw⟩:=hrel;have HS:=xL hs;have HW:=xL hbw;have HB:=xL (yM HB1.out HB1.out.size hbw);have HK:=xL (HK1.out.below hbw HK1.out.lt);clear hs hbw;have ka:=HK.out.cell;have la:=HK.out.lt;by_cases hlt:k<x.zB.length
  rotate_left
  ·have hall:=xL (HS.out.all zM);clear HS
   generalize wr=w2 at *;have HB2:=HB;have HK2:=HK;clear HB HK;go_wp2;clear ka la
   go_loopw [79] (fun i wr=> ∃ k:Nat,k≤x.zG.length∧i= .int .i64 k∧vF x.zG (fun _ p=>xRz p) k∧Below w2.heap.size w2 wr) (fun i _=>x.zG.length - (intOf i).toNat)
   case atStart=>exact⟨0,Nat.zero_le _,rfl,vF.zero,zR⟩
   case round=>
    obtain⟨k,hk,rfl,hs,hbw⟩:=hrel;have HS:=xL hs;have HW:=xL hbw;have HB:=xL (yM HB2.out HB2.out.size hbw);have HK:=xL (HK2.out.below hbw HK2.out.lt);clear hs hbw;have ka:=HK.out.cell;have la:=HK.out.lt;by_cases hlt:k<x.zG.length
    rotate_left
    ·have hall2:=xL (HS.out.all zM);clear HS
     go_wp2;go_ret
     exact⟨yK (xG ⟨q1,Q2.out,Q3.out,Q4.out,Q5.out,Q6.out,Q7.out,fun i t ht=>⟨(hall.out i t ht).1,Each.of_mem.2 (hall.out i t ht).2⟩,hall2.out⟩).symm,HB.out⟩
    have hgk:=gE hlt;obtain⟨b1,off,cs1,hA,hb1,hcs,hcell⟩:=HX4.out k x.zG[k] hgk;subst hA;generalize x.zG[k]=y at *;have HG:=xL hgk;clear hgk;obtain⟨u1,u2,u3,rfl,hRY1,hRY2,hRY3⟩:=xQ.yR (show T.rds _ _ _ by simpa only[xQ.t,T.rd] using hcs);have d0:=(HB.out.cell hb1).trans (hcell 0 (.int .i64 y.zS) rfl);have d1:=(HB.out.cell hb1).trans (hcell 1 (u1) rfl);have d2:=(HB.out.cell hb1).trans (hcell 2 (u2) rfl);have d3:=(HB.out.cell hb1).trans (hcell 3 (u3) rfl);rw[show off+(k * 4+0)=off+k * 4 by omega] at d0;rw[show off+(k * 4+1)=off+k * 4+1 by omega] at d1;rw[show off+(k * 4+2)=off+k * 4+2 by omega] at d2;rw[show off+(k * 4+3)=off+k * 4+3 by omega] at d3;have RY1:=xL (T.yH hRY1 HB.out);clear hRY1;have RY2:=xL (T.yH hRY2 HB.out);clear hRY2;have RY3:=xL (T.yH hRY3 HB.out);clear hRY3;clear hcs hcell;obtain⟨ua1,uc1,rfl,ul1,um1,ux1⟩:=T.yQ RY1.out;clear ux1;obtain⟨ua2,uc2,rfl,ul2,um2,ux2⟩:=T.yQ RY2.out;clear ux2;have RY3i:=xL (T.yZ.1 RY3.out);obtain⟨ua3,uc3,rfl,ul3,um3,ux3⟩:=RY3i.out.open_;clear ux3;have hq1:b1<wr.heap.size:=zW hb1 HB.out.size;have hny:=(HEF.out y (List.mem_of_getElem? HG.out)).2.1.1;have HWP:=xL (show Below wr.heap.size wr (wr.alloc (.cells #[.int .i64 y.zS,(.slice ua1 y.zU.length uc1),(.slice ua2 y.zH.length uc2),(.slice ua3 y.zT.length uc3)] 81)) from zR.alloc zJ _);go_wp2_with fail
    refine(c_isEffect y _ _ hny (xQ.rd_mk (T.yH RY1.out HWP.out) (T.yH RY2.out HWP.out) (T.yH RY3.out HWP.out))).mono ?_;rintro e w3 ⟨rfl,hb3⟩;have H3:=xL (yM HWP.out HWP.out.size hb3);have HB3:=xL (yM HB.out HB.out.size H3.out);have HW3:=xL (yM HW.out HW.out.size H3.out);clear hb3;by_cases q8:xRz y
    rotate_left
    ·rw[xE q8];have Q8:=xL q8;clear q8
     go_wp2;go_ret
     exact⟨yK (xE fun h=>Q8.out (h.effects k y HG.out)).symm,HB3.out⟩
    rw[xG q8];have Q8:=xL q8;clear q8;go_wp2
    go_roundw
    case rel=>exact⟨k+1,by omega,by go_num,HS.out.step HG.out Q8.out,HW3.out⟩
    case measure=>simp[intOf];omega
  have hgk:=gE hlt;obtain⟨b1,off,cs1,hA,hb1,hcs,hcell⟩:=HX2.out k x.zB[k] hgk;subst hA;generalize x.zB[k]=y at *;have HG:=xL hgk;clear hgk;obtain⟨u0,rfl,hRY0⟩:=xN.yR (show T.rds _ _ _ by simpa only[xN.t,T.rd] using hcs);have d0:=(HB.out.cell hb1).trans (hcell 0 (u0) rfl);rw[show off+(k * 1+0)=off+k by omega] at d0;have RY0:=xL (T.yH hRY0 HB.out);clear hRY0;clear hcs hcell;obtain⟨ua0,uc0,rfl,ul0,um0,ux0⟩:=T.yQ RY0.out;clear ux0;have hq1:b1<wr.heap.size:=zW hb1 HB.out.size;by_cases q8:uJ y
  rotate_left
  ·have b8:=xE q8;have Q8:=xL q8;clear q8
   have hWb:Below wr.heap.size wr (wr.alloc (.cells #[(.slice ua0 y.zL.length uc0)] 69)):=zR.alloc zJ _;have hNb:=Bk.born wr 69 #[(.slice ua0 y.zL.length uc0)];go_wp2;generalize wr.alloc (.cells #[(.slice ua0 y.zL.length uc0)] 69)=W at *;have HWb:=xL hWb;have HNb:=xL hNb;have HKW:=xL (HK.out.below hWb HK.out.lt);have g0:=xK hNb;have g1:=xK HKW.out;clear hWb hNb;refine rB ?_
   repeat(first|go_big_quiet_skip|(go_big_quiet_want;go_big_quiet_op;first|go_big_quiet_on|(apply Exists.intro;refine⟨fun _=>?_,?_⟩;(· (first|(go_at_call 52;exact Calls.yO ((yTz y _ _ (xN.rd_mk (T.yH RY0.out (yM HWb.out HWb.out.size (yJ W _))))).mono (fun e w' h=>by(first|rw[b8] at h|skip);exact h)))|(go_at_call 54;exact Calls.yN (zNz _ _ _ _ zM))|(go_at_call 53;exact Calls.yO ((xEz y _ (x.zD.length:Int) _ (xN.rd_mk (T.yH RY0.out (yM HWb.out HWb.out.size (yJ W _))))).mono (fun e w' h=>by(first|rw[b9] at h|skip);exact h)))));go_big_quiet_on)))
   refine wpQuiet_nil ?_;rintro w9 ⟨uu,rfl⟩;have hb9:=yJ W uu;generalize bel W uu=w9 at *;have HC:=xL (yM HWb.out HWb.out.size hb9);have HC2:=xL (yM HB.out HB.out.size HC.out);have HC3:=xL (yM HW.out HW.out.size HC.out);clear hb9 g0 g1;go_wp2;go_ret
   exact⟨yK (xE fun h=>Q8.out (h.tracks k y HG.out).1).symm,HC2.out⟩
  have b8:=xG q8;have Q8:=xL q8;clear q8;by_cases q9: ∀ c ∈ y.zL,c.zX<(x.zD.length:Int)
  rotate_left
  ·have b9:=xE q9;have Q9:=xL q9;clear q9
   have hWb:Below wr.heap.size wr (wr.alloc (.cells #[(.slice ua0 y.zL.length uc0)] 69)):=zR.alloc zJ _;have hNb:=Bk.born wr 69 #[(.slice ua0 y.zL.length uc0)];go_wp2;generalize wr.alloc (.cells #[(.slice ua0 y.zL.length uc0)] 69)=W at *;have HWb:=xL hWb;have HNb:=xL hNb;have HKW:=xL (HK.out.below hWb HK.out.lt);have g0:=xK hNb;have g1:=xK HKW.out;clear hWb hNb;refine rB ?_
   repeat(first|go_big_quiet_skip|(go_big_quiet_want;go_big_quiet_op;first|go_big_quiet_on|(apply Exists.intro;refine⟨fun _=>?_,?_⟩;(· (first|(go_at_call 52;exact Calls.yO ((yTz y _ _ (xN.rd_mk (T.yH RY0.out (yM HWb.out HWb.out.size (yJ W _))))).mono (fun e w' h=>by(first|rw[b8] at h|skip);exact h)))|(go_at_call 54;exact Calls.yN (zNz _ _ _ _ zM))|(go_at_call 53;exact Calls.yO ((xEz y _ (x.zD.length:Int) _ (xN.rd_mk (T.yH RY0.out (yM HWb.out HWb.out.size (yJ W _))))).mono (fun e w' h=>by(first|rw[b9] at h|skip);exact h)))));go_big_quiet_on)))
   refine wpQuiet_nil ?_;rintro w9 ⟨uu,rfl⟩;have hb9:=yJ W uu;generalize bel W uu=w9 at *;have HC:=xL (yM HWb.out HWb.out.size hb9);have HC2:=xL (yM HB.out HB.out.size HC.out);have HC3:=xL (yM HW.out HW.out.size HC.out);clear hb9 g0 g1;go_wp2;go_ret
   exact⟨yK (xE fun h=>Q9.out (Each.of_mem.1 (h.tracks k y HG.out).2)).symm,HC2.out⟩
  have b9:=xG q9;have Q9:=xL q9;clear q9;have hWb:Below wr.heap.size wr (wr.alloc (.cells #[(.slice ua0 y.zL.length uc0)] 69)):=zR.alloc zJ _;have hNb:=Bk.born wr 69 #[(.slice ua0 y.zL.length uc0)];go_wp2;generalize wr.alloc (.cells #[(.slice ua0 y.zL.length uc0)] 69)=W at *;have HWb:=xL hWb;have HNb:=xL hNb;have HKW:=xL (HK.out.below hWb HK.out.lt);have g0:=xK hNb;have g1:=xK HKW.out;clear hWb hNb;refine rB ?_
  repeat(first|go_big_quiet_skip|(go_big_quiet_want;go_big_quiet_op;first|go_big_quiet_on|(apply Exists.intro;refine⟨fun _=>?_,?_⟩;(· (first|(go_at_call 52;exact Calls.yO ((yTz y _ _ (xN.rd_mk (T.yH RY0.out (yM HWb.out HWb.out.size (yJ W _))))).mono (fun e w' h=>by(first|rw[b8] at h|skip);exact h)))|(go_at_call 54;exact Calls.yN (zNz _ _ _ _ zM))|(go_at_call 53;exact Calls.yO ((xEz y _ (x.zD.length:Int) _ (xN.rd_mk (T.yH RY0.out (yM HWb.out HWb.out.size (yJ W _))))).mono (fun e w' h=>by(first|rw[b9] at h|skip);exact h)))));go_big_quiet_on)))
  refine wpQuiet_nil ?_;rintro w9 ⟨uu,rfl⟩;have hb9:=yJ W uu;generalize bel W uu=w9 at *;have HC:=xL (yM HWb.out HWb.out.size hb9);have HC2:=xL (yM HB.out HB.out.size HC.out);have HC3:=xL (yM HW.out HW.out.size HC.out);clear hb9 g0 g1;go_wp2
  go_roundw
  case rel=>exact⟨k+1,by omega,by go_num,HS.out.step HG.out ⟨Q8.out,Q9.out⟩,HC3.out⟩
  case measure=>simp[intOf];omega
end
section
open Go.RowKit
theorem yCz {x:xQ} :x=yPz↔x.zS=0∧x.zU.length=0∧x.zH.length=0∧x.zT.length=0:=by
 obtain⟨a,b,c,d⟩:=x;simp[yPz]
theorem c_l27None (x:xQ) (b o:Nat) (w:World) (h:T.at w x.fs b o):Calls Tryz.prog 71 #[.pointer (some ⟨b,o,none⟩)] w fun e w'=>e= .returned (.bool (tf (x=yPz)))∧Below w.heap.size w w':=by
 have HAT:=xL h;obtain⟨hlt0,cs,hr,hc⟩:=h;obtain⟨v1,v2,v3,rfl,h1,h2,h3⟩:=xQ.yR hr;clear hr;obtain⟨va1,vc1,rfl,vl1,vm1,R1,HX1⟩:=oG h1;clear h1;obtain⟨va2,vc2,rfl,vl2,vm2,R2,HX2⟩:=oG h2;clear h2;obtain⟨va3,vc3,rfl,vl3,vm3,R3,HX3⟩:=oI h3;clear h3;have HL:=xL hlt0;have HCC:=xL hc;have HB0:=xL (Below.refl w.heap.size w);clear hlt0 hc;have p0:w.cell? ⟨b,o,none⟩=some (.int .i64 x.zS):=(HB0.out.cell HL.out).trans (HCC.out 0 _ rfl);have p1:w.cell? ⟨b,o+1,none⟩=some (.slice va1 x.zU.length vc1):=(HB0.out.cell HL.out).trans (HCC.out 1 _ rfl);have p2:w.cell? ⟨b,o+2,none⟩=some (.slice va2 x.zH.length vc2):=(HB0.out.cell HL.out).trans (HCC.out 2 _ rfl);have p3:w.cell? ⟨b,o+3,none⟩=some (.slice va3 x.zT.length vc3):=(HB0.out.cell HL.out).trans (HCC.out 3 _ rfl);have lb:b<w.heap.size:=zW HL.out HB0.out.size
 go_enter Tryz.func71,Tryz.ntmps71
 by_cases q0:x.zS=0
 rotate_left
 ·have b0:(x.zS == 0)=false:=yX zM;have Q0:=xL q0;clear q0
  go_wp2;go_ret
  exact⟨yK (xE fun h=>Q0.out (yCz.1 h).1).symm,HB0.out⟩
 have b0:(x.zS == 0)=true:=yY zM;have Q0:=xL q0;clear q0;by_cases q1:x.zU.length=0
 rotate_left
 ·have b1:((x.zU.length:Int) == 0)=false:=yX zM;have Q1:=xL q1;clear q1
  go_wp2;go_ret
  exact⟨yK (xE fun h=>Q1.out (yCz.1 h).2.1).symm,HB0.out⟩
 have b1:((x.zU.length:Int) == 0)=true:=yY zM;have Q1:=xL q1;clear q1;by_cases q2:x.zH.length=0
 rotate_left
 ·have b2:((x.zH.length:Int) == 0)=false:=yX zM;have Q2:=xL q2;clear q2
  go_wp2;go_ret
  exact⟨yK (xE fun h=>Q2.out (yCz.1 h).2.2.1).symm,HB0.out⟩
 have b2:((x.zH.length:Int) == 0)=true:=yY zM;have Q2:=xL q2;clear q2;by_cases q3:x.zT.length=0
 rotate_left
 ·have b3:((x.zT.length:Int) == 0)=false:=yX zM;have Q3:=xL q3;clear q3
  go_wp2;go_ret
  exact⟨yK (xE fun h=>Q3.out (yCz.1 h).2.2.2).symm,HB0.out⟩
 have b3:((x.zT.length:Int) == 0)=true:=yY zM;have Q3:=xL q3;clear q3;go_wp2;go_ret
 exact⟨yK (xG (yCz.2 ⟨Q0.out,Q1.out,Q2.out,Q3.out⟩)).symm,HB0.out⟩
theorem c_l27Ok (x:xM) (b o:Nat) (w:World) (hs:x.small) (h:T.at w x.fs b o):Calls Tryz.prog 33 #[.pointer (some ⟨b,o,none⟩)] w fun e w'=>e= .returned (.bool (tf (xW x)))∧Below w.heap.size w w':=by
 have HAT:=xL h;obtain⟨hlt0,cs,hr,hc⟩:=h;obtain⟨v1,v2,v3,v4,v5,rfl,h1,h2,h3,h4,h5⟩:=xM.yR hr;clear hr;obtain⟨va1,vc1,rfl,vl1,vm1,R1,HX1⟩:=oG h1;clear h1;obtain⟨va2,vc2,rfl,vl2,vm2,R2,HX2⟩:=oG h2;clear h2;obtain⟨va3,vc3,rfl,vl3,vm3,R3,HX3⟩:=oI h3;clear h3;obtain⟨va4,vc4,rfl,vl4,vm4,R4,HX4⟩:=oG h4;clear h4;obtain⟨va5,vc5,rfl,vl5,vm5,R5,HX5⟩:=oG h5;clear h5;have HL:=xL hlt0;have HCC:=xL hc;have HB0:=xL (Below.refl w.heap.size w);clear hlt0 hc;have hn5:x.zI.zF.length≤1048576:=hs.2.2.2.2.1;have HEF:=xL hs.2.2.2.1.2;clear hs;have HATM:=xL (show T.at w x.zI.fs b (o+5) from T.at_sub [.int .i64 x.zA,(.slice va1 x.zD.length vc1),(.slice va2 x.zB.length vc2),(.slice va3 x.zO.length vc3),(.slice va4 x.zG.length vc4)] [(.slice va5 x.zI.zF.length vc5)] [] HL.out HCC.out (uP.rd_mk R5.out));have p0:w.cell? ⟨b,o,none⟩=some (.int .i64 x.zA):=(HB0.out.cell HL.out).trans (HCC.out 0 _ rfl);have p1:w.cell? ⟨b,o+1,none⟩=some (.slice va1 x.zD.length vc1):=(HB0.out.cell HL.out).trans (HCC.out 1 _ rfl);have p2:w.cell? ⟨b,o+2,none⟩=some (.slice va2 x.zB.length vc2):=(HB0.out.cell HL.out).trans (HCC.out 2 _ rfl);have p3:w.cell? ⟨b,o+3,none⟩=some (.slice va3 x.zO.length vc3):=(HB0.out.cell HL.out).trans (HCC.out 3 _ rfl);have p4:w.cell? ⟨b,o+4,none⟩=some (.slice va4 x.zG.length vc4):=(HB0.out.cell HL.out).trans (HCC.out 4 _ rfl);have p5:w.cell? ⟨b,o+5,none⟩=some (.slice va5 x.zI.zF.length vc5):=(HB0.out.cell HL.out).trans (HCC.out 5 _ rfl);have lb:b<w.heap.size:=zW HL.out HB0.out.size
 go_enter Tryz.func33,Tryz.ntmps33
 go_wp2;by_cases q1:inB x.zA 0 1000=true
 rotate_left
 ·have q1':inB x.zA 0 1000=false:=(by simpa using q1)
  have g0:=yI p0;have g1:=yI p1;have g2:=yI p2;have g3:=yI p3;have g4:=yI p4;have g5:=yI p5;refine rB ?_
  repeat(first|go_big_quiet_skip|(go_big_quiet_want;go_big_quiet_op;first|go_big_quiet_on|(apply Exists.intro;refine⟨fun _=>?_,?_⟩;(· (first|(go_at_call 67;exact Calls.yN ((xZ _ _ _ _).mono (fun e w' h=>by(first|rw[q1'] at h|skip);exact h)))|(go_at_call 68;exact Calls.yO ((xFz x.zI _ _ _ hn5 (T.at_below HATM.out (yJ w _))).mono (fun e w' h=>by(first|rw[a4] at h|skip);exact h)))));go_big_quiet_on)))
  refine wpQuiet_nil ?_;rintro w9 ⟨uu,rfl⟩;have hb9:=yJ w uu;generalize bel w uu=w9 at *;have HB9:=xL (yM HB0.out HB0.out.size hb9);clear g0 g1 g2 g3 g4 g5;go_wp2;go_ret
  exact⟨yK (xE fun h=>q1 h.length).symm,HB9.out⟩
 have q1':=q1;by_cases q2:x.zD.length≤6
 rotate_left
 ·have d2:decide ((6:Int)<(x.zD.length:Int))=true:=decide_eq_true zM
  have g0:=yI p0;have g1:=yI p1;have g2:=yI p2;have g3:=yI p3;have g4:=yI p4;have g5:=yI p5;refine rB ?_
  repeat(first|go_big_quiet_skip|(go_big_quiet_want;go_big_quiet_op;first|go_big_quiet_on|(apply Exists.intro;refine⟨fun _=>?_,?_⟩;(· (first|(go_at_call 67;exact Calls.yN ((xZ _ _ _ _).mono (fun e w' h=>by(first|rw[q1'] at h|skip);exact h)))|(go_at_call 68;exact Calls.yO ((xFz x.zI _ _ _ hn5 (T.at_below HATM.out (yJ w _))).mono (fun e w' h=>by(first|rw[a4] at h|skip);exact h)))));go_big_quiet_on)))
  refine wpQuiet_nil ?_;rintro w9 ⟨uu,rfl⟩;have hb9:=yJ w uu;generalize bel w uu=w9 at *;have HB9:=xL (yM HB0.out HB0.out.size hb9);clear g0 g1 g2 g3 g4 g5;go_wp2;go_ret
  exact⟨yK (xE fun h=>q2 h.sources.few).symm,HB9.out⟩
 have Q2:=xL q2;have d2:decide ((6:Int)<(x.zD.length:Int))=false:=decide_eq_false zM;by_cases q3:x.zB.length≤6
 rotate_left
 ·have d3:decide ((6:Int)<(x.zB.length:Int))=true:=decide_eq_true zM
  have g0:=yI p0;have g1:=yI p1;have g2:=yI p2;have g3:=yI p3;have g4:=yI p4;have g5:=yI p5;refine rB ?_
  repeat(first|go_big_quiet_skip|(go_big_quiet_want;go_big_quiet_op;first|go_big_quiet_on|(apply Exists.intro;refine⟨fun _=>?_,?_⟩;(· (first|(go_at_call 67;exact Calls.yN ((xZ _ _ _ _).mono (fun e w' h=>by(first|rw[q1'] at h|skip);exact h)))|(go_at_call 68;exact Calls.yO ((xFz x.zI _ _ _ hn5 (T.at_below HATM.out (yJ w _))).mono (fun e w' h=>by(first|rw[a4] at h|skip);exact h)))));go_big_quiet_on)))
  refine wpQuiet_nil ?_;rintro w9 ⟨uu,rfl⟩;have hb9:=yJ w uu;generalize bel w uu=w9 at *;have HB9:=xL (yM HB0.out HB0.out.size hb9);clear g0 g1 g2 g3 g4 g5;go_wp2;go_ret
  exact⟨yK (xE fun h=>q3 h.few).symm,HB9.out⟩
 have Q3:=xL q3;have d3:decide ((6:Int)<(x.zB.length:Int))=false:=decide_eq_false zM;by_cases q4:MixerOk x.zI
 rotate_left
 ·have a4:=xE q4;have Q4:=xL q4;clear q4
  have g0:=yI p0;have g1:=yI p1;have g2:=yI p2;have g3:=yI p3;have g4:=yI p4;have g5:=yI p5;refine rB ?_
  repeat(first|go_big_quiet_skip|(go_big_quiet_want;go_big_quiet_op;first|go_big_quiet_on|(apply Exists.intro;refine⟨fun _=>?_,?_⟩;(· (first|(go_at_call 67;exact Calls.yN ((xZ _ _ _ _).mono (fun e w' h=>by(first|rw[q1'] at h|skip);exact h)))|(go_at_call 68;exact Calls.yO ((xFz x.zI _ _ _ hn5 (T.at_below HATM.out (yJ w _))).mono (fun e w' h=>by(first|rw[a4] at h|skip);exact h)))));go_big_quiet_on)))
  refine wpQuiet_nil ?_;rintro w9 ⟨uu,rfl⟩;have hb9:=yJ w uu;generalize bel w uu=w9 at *;have HB9:=xL (yM HB0.out HB0.out.size hb9);clear g0 g1 g2 g3 g4 g5;go_wp2;go_ret
  exact⟨yK (xE fun h=>Q4.out h.mixer).symm,HB9.out⟩
 have a4:=xG q4;have Q4:=xL q4;clear q4;by_cases q5:x.zO.length=x.zB.length
 rotate_left
 ·have b5:((x.zO.length:Int) != (x.zB.length:Int))=true:=uQ zM;have Q5:=xL q5;clear q5
  have g0:=yI p0;have g1:=yI p1;have g2:=yI p2;have g3:=yI p3;have g4:=yI p4;have g5:=yI p5;refine rB ?_
  repeat(first|go_big_quiet_skip|(go_big_quiet_want;go_big_quiet_op;first|go_big_quiet_on|(apply Exists.intro;refine⟨fun _=>?_,?_⟩;(· (first|(go_at_call 67;exact Calls.yN ((xZ _ _ _ _).mono (fun e w' h=>by(first|rw[q1'] at h|skip);exact h)))|(go_at_call 68;exact Calls.yO ((xFz x.zI _ _ _ hn5 (T.at_below HATM.out (yJ w _))).mono (fun e w' h=>by(first|rw[a4] at h|skip);exact h)))));go_big_quiet_on)))
  refine wpQuiet_nil ?_;rintro w9 ⟨uu,rfl⟩;have hb9:=yJ w uu;generalize bel w uu=w9 at *;have HB9:=xL (yM HB0.out HB0.out.size hb9);clear g0 g1 g2 g3 g4 g5;go_wp2;go_ret
  exact⟨yK (xE fun h=>Q5.out h.feed).symm,HB9.out⟩
 have b5:((x.zO.length:Int) != (x.zB.length:Int))=false:=uT zM;have Q5:=xL q5;clear q5;by_cases q7:x.zG.length=x.zI.zF.length
 rotate_left
 ·have b7:((x.zG.length:Int) != (x.zI.zF.length:Int))=true:=uQ zM;have Q7:=xL q7;clear q7
  have g0:=yI p0;have g1:=yI p1;have g2:=yI p2;have g3:=yI p3;have g4:=yI p4;have g5:=yI p5;refine rB ?_
  repeat(first|go_big_quiet_skip|(go_big_quiet_want;go_big_quiet_op;first|go_big_quiet_on|(apply Exists.intro;refine⟨fun _=>?_,?_⟩;(· (first|(go_at_call 67;exact Calls.yN ((xZ _ _ _ _).mono (fun e w' h=>by(first|rw[q1'] at h|skip);exact h)))|(go_at_call 68;exact Calls.yO ((xFz x.zI _ _ _ hn5 (T.at_below HATM.out (yJ w _))).mono (fun e w' h=>by(first|rw[a4] at h|skip);exact h)))));go_big_quiet_on)))
  refine wpQuiet_nil ?_;rintro w9 ⟨uu,rfl⟩;have hb9:=yJ w uu;generalize bel w uu=w9 at *;have HB9:=xL (yM HB0.out HB0.out.size hb9);clear g0 g1 g2 g3 g4 g5;go_wp2;go_ret
  exact⟨yK (xE fun h=>Q7.out h.effect).symm,HB9.out⟩
 have b7:((x.zG.length:Int) != (x.zI.zF.length:Int))=false:=uT zM;have Q7:=xL q7;clear q7;have g0:=yI p0;have g1:=yI p1;have g2:=yI p2;have g3:=yI p3;have g4:=yI p4;have g5:=yI p5;refine rB ?_
 repeat(first|go_big_quiet_skip|(go_big_quiet_want;go_big_quiet_op;first|go_big_quiet_on|(apply Exists.intro;refine⟨fun _=>?_,?_⟩;(· (first|(go_at_call 67;exact Calls.yN ((xZ _ _ _ _).mono (fun e w' h=>by(first|rw[q1'] at h|skip);exact h)))|(go_at_call 68;exact Calls.yO ((xFz x.zI _ _ _ hn5 (T.at_below HATM.out (yJ w _))).mono (fun e w' h=>by(first|rw[a4] at h|skip);exact h)))));go_big_quiet_on)))
 refine wpQuiet_nil ?_;rintro w9 ⟨uu,rfl⟩;have hb9:=yJ w uu;generalize bel w uu=w9 at *;have HB9:=xL (yM HB0.out HB0.out.size hb9);clear g0 g1 g2 g3 g4 g5;clear hb9 p0 p1 p2 p3 p4 p5 lb a4 b5 b7 d2 d3;have p0:w9.cell? ⟨b,o,none⟩=some (.int .i64 x.zA):=(HB9.out.cell HL.out).trans (HCC.out 0 _ rfl);have p1:w9.cell? ⟨b,o+1,none⟩=some (.slice va1 x.zD.length vc1):=(HB9.out.cell HL.out).trans (HCC.out 1 _ rfl);have p2:w9.cell? ⟨b,o+2,none⟩=some (.slice va2 x.zB.length vc2):=(HB9.out.cell HL.out).trans (HCC.out 2 _ rfl);have p3:w9.cell? ⟨b,o+3,none⟩=some (.slice va3 x.zO.length vc3):=(HB9.out.cell HL.out).trans (HCC.out 3 _ rfl);have p4:w9.cell? ⟨b,o+4,none⟩=some (.slice va4 x.zG.length vc4):=(HB9.out.cell HL.out).trans (HCC.out 4 _ rfl);have p5:w9.cell? ⟨b,o+5,none⟩=some (.slice va5 x.zI.zF.length vc5):=(HB9.out.cell HL.out).trans (HCC.out 5 _ rfl);have lb:b<w9.heap.size:=zW HL.out HB9.out.size;go_wp2;clear p0 p1 p2 p3 p4 p5 lb
 go_loopw [3] (fun i wr=> ∃ k:Nat,k≤x.zD.length∧i= .int .i64 k∧vF x.zD (fun _ l=>sigB l=true) k∧Below w9.heap.size w9 wr) (fun i _=>x.zD.length - (intOf i).toNat)
 case atStart=>exact⟨0,Nat.zero_le _,rfl,vF.zero,zR⟩
 case round=>
  obtain⟨k,hk,rfl,hs,hbw⟩:=hrel;have HS:=xL hs;have HW:=xL hbw;have HB:=xL (yM HB9.out HB9.out.size hbw);clear hs hbw;have p0:wr.cell? ⟨b,o,none⟩=some (.int .i64 x.zA):=(HB.out.cell HL.out).trans (HCC.out 0 _ rfl);have p1:wr.cell? ⟨b,o+1,none⟩=some (.slice va1 x.zD.length vc1):=(HB.out.cell HL.out).trans (HCC.out 1 _ rfl);have p2:wr.cell? ⟨b,o+2,none⟩=some (.slice va2 x.zB.length vc2):=(HB.out.cell HL.out).trans (HCC.out 2 _ rfl);have p3:wr.cell? ⟨b,o+3,none⟩=some (.slice va3 x.zO.length vc3):=(HB.out.cell HL.out).trans (HCC.out 3 _ rfl);have p4:wr.cell? ⟨b,o+4,none⟩=some (.slice va4 x.zG.length vc4):=(HB.out.cell HL.out).trans (HCC.out 4 _ rfl);have p5:wr.cell? ⟨b,o+5,none⟩=some (.slice va5 x.zI.zF.length vc5):=(HB.out.cell HL.out).trans (HCC.out 5 _ rfl);have lb:b<wr.heap.size:=zW HL.out HB.out.size;by_cases hlt:k<x.zD.length
  rotate_left
  ·have hall1:=xL (HS.out.all zM);clear HS
   generalize wr=w2 at *;have HB2:=HB;clear HB;go_wp2;clear p0 p1 p2 p3 p4 p5 lb
   go_loopw [4] (fun i wr=> ∃ k:Nat,k≤x.zB.length∧i= .int .i64 k∧vF x.zB (fun i t=>(uJ t∧Each t.zL fun _ c=>c.zX<(x.zD.length:Int))∧ ∀ f,x.zO[i]?=some f→inB f 0 ((x.zI.zF.length:Int) - 1)=true) k∧Below w2.heap.size w2 wr) (fun i _=>x.zB.length - (intOf i).toNat)
   case atStart=>exact⟨0,Nat.zero_le _,rfl,vF.zero,zR⟩
   case round=>
    obtain⟨k,hk,rfl,hs,hbw⟩:=hrel;have HS:=xL hs;have HW:=xL hbw;have HB:=xL (yM HB2.out HB2.out.size hbw);clear hs hbw;have p0:wr.cell? ⟨b,o,none⟩=some (.int .i64 x.zA):=(HB.out.cell HL.out).trans (HCC.out 0 _ rfl);have p1:wr.cell? ⟨b,o+1,none⟩=some (.slice va1 x.zD.length vc1):=(HB.out.cell HL.out).trans (HCC.out 1 _ rfl);have p2:wr.cell? ⟨b,o+2,none⟩=some (.slice va2 x.zB.length vc2):=(HB.out.cell HL.out).trans (HCC.out 2 _ rfl);have p3:wr.cell? ⟨b,o+3,none⟩=some (.slice va3 x.zO.length vc3):=(HB.out.cell HL.out).trans (HCC.out 3 _ rfl);have p4:wr.cell? ⟨b,o+4,none⟩=some (.slice va4 x.zG.length vc4):=(HB.out.cell HL.out).trans (HCC.out 4 _ rfl);have p5:wr.cell? ⟨b,o+5,none⟩=some (.slice va5 x.zI.zF.length vc5):=(HB.out.cell HL.out).trans (HCC.out 5 _ rfl);have lb:b<wr.heap.size:=zW HL.out HB.out.size;by_cases hlt:k<x.zB.length
    rotate_left
    ·have hall2:=xL (HS.out.all zM);clear HS
     generalize wr=w3 at *;have HB3:=HB;clear HB;go_wp2;clear p0 p1 p2 p3 p4 p5 lb
     go_loopw [5] (fun i wr=> ∃ k:Nat,k≤x.zG.length∧i= .int .i64 k∧vF x.zG (fun _ p=>xRz p) k∧Below w3.heap.size w3 wr) (fun i _=>x.zG.length - (intOf i).toNat)
     case atStart=>exact⟨0,Nat.zero_le _,rfl,vF.zero,zR⟩
     case round=>
      obtain⟨k,hk,rfl,hs,hbw⟩:=hrel;have HS:=xL hs;have HW:=xL hbw;have HB:=xL (yM HB3.out HB3.out.size hbw);clear hs hbw;have p0:wr.cell? ⟨b,o,none⟩=some (.int .i64 x.zA):=(HB.out.cell HL.out).trans (HCC.out 0 _ rfl);have p1:wr.cell? ⟨b,o+1,none⟩=some (.slice va1 x.zD.length vc1):=(HB.out.cell HL.out).trans (HCC.out 1 _ rfl);have p2:wr.cell? ⟨b,o+2,none⟩=some (.slice va2 x.zB.length vc2):=(HB.out.cell HL.out).trans (HCC.out 2 _ rfl);have p3:wr.cell? ⟨b,o+3,none⟩=some (.slice va3 x.zO.length vc3):=(HB.out.cell HL.out).trans (HCC.out 3 _ rfl);have p4:wr.cell? ⟨b,o+4,none⟩=some (.slice va4 x.zG.length vc4):=(HB.out.cell HL.out).trans (HCC.out 4 _ rfl);have p5:wr.cell? ⟨b,o+5,none⟩=some (.slice va5 x.zI.zF.length vc5):=(HB.out.cell HL.out).trans (HCC.out 5 _ rfl);have lb:b<wr.heap.size:=zW HL.out HB.out.size;by_cases hlt:k<x.zG.length
      rotate_left
      ·have hall3:=xL (HS.out.all zM);clear HS
       go_wp2;go_ret
       exact⟨yK (xG ⟨q1,⟨hall1.out,Q2.out⟩,Q3.out,Q4.out,Q5.out,fun i f hf=>by
      have hi:=(List.getElem?_eq_some_iff.1 hf).1;exact xI.1 ((hall2.out i _ (gE (by have:=Q5.out;omega))).2 f hf),Q7.out,fun i t ht=>(hall2.out i t ht).1,hall3.out⟩).symm,HB.out⟩
      have hgk:=gE hlt;obtain⟨b1,off,csy,hA,hb1,hcs,hcell⟩:=HX4.out k x.zG[k] hgk;subst hA;generalize x.zG[k]=y at *;have HG:=xL hgk;clear hgk;have HAy:=xL (T.at_elem (o:=off+k * 4) hb1 (show T.rds w y.fs csy by simpa only[xQ.t,T.rd] using hcs) hcell zM);clear hcs hcell;have n1:((k:Int)<(x.zG.length:Int)):=by omega
      have hq1:b1<wr.heap.size:=zW hb1 HB.out.size;have hny:=(HEF.out y (List.mem_of_getElem? HG.out));have hny1:y.zH.length≤1048576:=hny.2.1.1;have hny2:y.zU.length≤1048576:=hny.1.1;clear hny;obtain⟨lty,csy',hry,hcy⟩:=HAy.out;obtain⟨u1,u2,u3,rfl,hu1,hu2,hu3⟩:=xQ.yR hry;have Ru1:=xL hu1;obtain⟨ua1,uc1,rfl,ul1,um1,ux1⟩:=T.yQ hu1;have HXu1:=xL ux1;clear ux1 hu1;have Ru2:=xL hu2;obtain⟨ua2,uc2,rfl,ul2,um2,ux2⟩:=T.yQ hu2;have HXu2:=xL ux2;clear ux2 hu2;have Ru3:=xL (T.yZ.1 hu3);obtain⟨ua3,uc3,rfl,ul3,um3,ux3⟩:=Ru3.out.open_;have HXu3:=xL ux3;clear ux3 hu3;have HCy:=xL hcy;clear hry hcy;have cy0:wr.cell? ⟨b1,off+k * 4,none⟩=some (.int .i64 y.zS):=(HB.out.cell lty).trans (HCy.out 0 _ rfl);have cy1:wr.cell? ⟨b1,off+k * 4+1,none⟩=some (.slice ua1 y.zU.length uc1):=(HB.out.cell lty).trans (HCy.out 1 _ rfl);have cy2:wr.cell? ⟨b1,off+k * 4+2,none⟩=some (.slice ua2 y.zH.length uc2):=(HB.out.cell lty).trans (HCy.out 2 _ rfl);have cy3:wr.cell? ⟨b1,off+k * 4+3,none⟩=some (.slice ua3 y.zT.length uc3):=(HB.out.cell lty).trans (HCy.out 3 _ rfl);go_wp2_with fail
      refine(c_l27None y _ _ _ (T.at_below HAy.out HB.out)).mono ?_;rintro e w4 ⟨rfl,hb4⟩;have HB4:=xL (yM HB.out HB.out.size hb4);have HW4:=xL (yM HW.out HW.out.size hb4);clear hb4 cy0 cy1 cy2 cy3;clear p0 p1 p2 p3 p4 p5 lb;have p0:w4.cell? ⟨b,o,none⟩=some (.int .i64 x.zA):=(HB4.out.cell HL.out).trans (HCC.out 0 _ rfl);have p1:w4.cell? ⟨b,o+1,none⟩=some (.slice va1 x.zD.length vc1):=(HB4.out.cell HL.out).trans (HCC.out 1 _ rfl);have p2:w4.cell? ⟨b,o+2,none⟩=some (.slice va2 x.zB.length vc2):=(HB4.out.cell HL.out).trans (HCC.out 2 _ rfl);have p3:w4.cell? ⟨b,o+3,none⟩=some (.slice va3 x.zO.length vc3):=(HB4.out.cell HL.out).trans (HCC.out 3 _ rfl);have p4:w4.cell? ⟨b,o+4,none⟩=some (.slice (some ⟨b1,off,none⟩) x.zG.length vc4):=(HB4.out.cell HL.out).trans (HCC.out 4 _ rfl);have p5:w4.cell? ⟨b,o+5,none⟩=some (.slice va5 x.zI.zF.length vc5):=(HB4.out.cell HL.out).trans (HCC.out 5 _ rfl);have lb:b<w4.heap.size:=zW HL.out HB4.out.size;have cy0:w4.cell? ⟨b1,off+k * 4,none⟩=some (.int .i64 y.zS):=(HB4.out.cell lty).trans (HCy.out 0 _ rfl);have cy1:w4.cell? ⟨b1,off+k * 4+1,none⟩=some (.slice ua1 y.zU.length uc1):=(HB4.out.cell lty).trans (HCy.out 1 _ rfl);have cy2:w4.cell? ⟨b1,off+k * 4+2,none⟩=some (.slice ua2 y.zH.length uc2):=(HB4.out.cell lty).trans (HCy.out 2 _ rfl);have cy3:w4.cell? ⟨b1,off+k * 4+3,none⟩=some (.slice ua3 y.zT.length uc3):=(HB4.out.cell lty).trans (HCy.out 3 _ rfl);have hq4:b1<w4.heap.size:=zW hb1 HB4.out.size;by_cases q8:y=yPz
      ·rw[xG q8];have Q8:=xL q8;clear q8
       go_wp2
       go_roundw
       case rel=>exact⟨k+1,by omega,by go_num,HS.out.step HG.out (.inl Q8.out),HW4.out⟩
       case measure=>simp[intOf];omega
      rw[xE q8];have Q8:=xL q8;clear q8;by_cases q9:y.zS=1
      rotate_left
      ·have b9:(y.zS != 1)=true:=uQ q9;have Q9:=xL q9;clear q9
       go_wp2;go_ret
       exact⟨yK (xE fun h=>(h.effects k y HG.out).elim Q8.out fun h=>Q9.out h.2.1).symm,HB4.out⟩
      have b9:(y.zS != 1)=false:=uT q9;have Q9:=xL q9;clear q9;by_cases q10:y.zT.length=1
      rotate_left
      ·have b10:((y.zT.length:Int) != 1)=true:=uQ zM;have Q10:=xL q10;clear q10
       go_wp2;go_ret
       exact⟨yK (xE fun h=>(h.effects k y HG.out).elim Q8.out fun h=>Q10.out h.2.2).symm,HB4.out⟩
      have b10:((y.zT.length:Int) != 1)=false:=uT zM;have Q10:=xL q10;clear q10;go_wp2_with fail
      refine(c_l07Ok y _ _ _ hny1 hny2 (T.at_below HAy.out HB4.out)).mono ?_;rintro e w5 ⟨rfl,hb5⟩;have HB5:=xL (yM HB4.out HB4.out.size hb5);have HW5:=xL (yM HW4.out HW4.out.size hb5);clear hb5;by_cases q11:PatchOk y
      rotate_left
      ·rw[xE q11];have Q11:=xL q11;clear q11
       go_wp2;go_ret
       exact⟨yK (xE fun h=>(h.effects k y HG.out).elim Q8.out fun h=>Q11.out h.1).symm,HB5.out⟩
      rw[xG q11];have Q11:=xL q11;clear q11;go_wp2
      go_roundw
      case rel=>exact⟨k+1,by omega,by go_num,HS.out.step HG.out (.inr ⟨Q11.out,Q9.out,Q10.out⟩),HW5.out⟩
      case measure=>simp[intOf];omega
    have hgk:=gE hlt;obtain⟨b1,off,csy,hA,hb1,hcs,hcell⟩:=HX2.out k x.zB[k] hgk;subst hA;generalize x.zB[k]=y at *;have HG:=xL hgk;clear hgk;have HAy:=xL (T.at_elem (o:=off+k) hb1 (show T.rds w y.fs csy by simpa only[xN.t,T.rd] using hcs) hcell zM);clear hcs hcell;have n1:((k:Int)<(x.zB.length:Int)):=by omega
    have hltf:k<x.zO.length:=by have:=Q5.out;omega
    have hgf:=gE hltf;obtain⟨b3,off3,hA,hb3,hcf⟩:=HX3.out k x.zO[k] hgf;subst hA;generalize x.zO[k]=fd at *;have HF:=xL hgf;clear hgf;have cf:=(HB.out.cell hb3).trans hcf;have n2:((k:Int)<(x.zO.length:Int)):=by omega
    by_cases q8:uJ y∧Each y.zL fun _ c=>c.zX<(x.zD.length:Int)
    rotate_left
    ·have b8:=xE q8;have Q8:=xL q8;clear q8
     go_wp2;have g0:=yI p0;have g1:=yI p1;have g2:=yI p2;have g3:=yI p3;have g4:=yI p4;have g5:=yI p5;have g6:=yI cf;refine rB ?_
     repeat(first|go_big_quiet_skip|(go_big_quiet_want;go_big_quiet_op;first|go_big_quiet_on|(apply Exists.intro;refine⟨fun _=>?_,?_⟩;(· (first|(go_at_call 67;exact Calls.yN ((xZ _ _ _ _).mono (fun e w' h=>by(first|rw[b9] at h|skip);exact h)))|(go_at_call 70;exact Calls.yO ((wSz y _ _ _ _ zM zM (T.at_below HAy.out (yM HB.out HB.out.size (yJ wr _)))).mono (fun e w' h=>by(first|rw[b8] at h|skip);exact h)))));go_big_quiet_on)))
     refine wpQuiet_nil ?_;rintro w9 ⟨uu,rfl⟩;have hb9:=yJ wr uu;generalize bel wr uu=w9 at *;have HB9:=xL (yM HB.out HB.out.size hb9);clear g0 g1 g2 g3 g4 g5 g6;go_wp2;go_ret
     exact⟨yK (xE fun h=>Q8.out (h.tracks k y HG.out)).symm,HB9.out⟩
    have b8:=xG q8;have Q8:=xL q8;clear q8;by_cases q9:inB fd 0 ((x.zI.zF.length:Int) - 1)=true
    rotate_left
    ·have b9:inB fd 0 ((x.zI.zF.length:Int) - 1)=false:=(by simpa using q9)
     go_wp2;have g0:=yI p0;have g1:=yI p1;have g2:=yI p2;have g3:=yI p3;have g4:=yI p4;have g5:=yI p5;have g6:=yI cf;refine rB ?_
     repeat(first|go_big_quiet_skip|(go_big_quiet_want;go_big_quiet_op;first|go_big_quiet_on|(apply Exists.intro;refine⟨fun _=>?_,?_⟩;(· (first|(go_at_call 67;exact Calls.yN ((xZ _ _ _ _).mono (fun e w' h=>by(first|rw[b9] at h|skip);exact h)))|(go_at_call 70;exact Calls.yO ((wSz y _ _ _ _ zM zM (T.at_below HAy.out (yM HB.out HB.out.size (yJ wr _)))).mono (fun e w' h=>by(first|rw[b8] at h|skip);exact h)))));go_big_quiet_on)))
     refine wpQuiet_nil ?_;rintro w9 ⟨uu,rfl⟩;have hb9:=yJ wr uu;generalize bel wr uu=w9 at *;have HB9:=xL (yM HB.out HB.out.size hb9);clear g0 g1 g2 g3 g4 g5 g6;go_wp2;go_ret
     exact⟨yK (xE fun h=>q9 (xI.2 (h.feeds k fd HF.out))).symm,HB9.out⟩
    have b9:=q9;go_wp2;have g0:=yI p0;have g1:=yI p1;have g2:=yI p2;have g3:=yI p3;have g4:=yI p4;have g5:=yI p5;have g6:=yI cf;refine rB ?_
    repeat(first|go_big_quiet_skip|(go_big_quiet_want;go_big_quiet_op;first|go_big_quiet_on|(apply Exists.intro;refine⟨fun _=>?_,?_⟩;(· (first|(go_at_call 67;exact Calls.yN ((xZ _ _ _ _).mono (fun e w' h=>by(first|rw[b9] at h|skip);exact h)))|(go_at_call 70;exact Calls.yO ((wSz y _ _ _ _ zM zM (T.at_below HAy.out (yM HB.out HB.out.size (yJ wr _)))).mono (fun e w' h=>by(first|rw[b8] at h|skip);exact h)))));go_big_quiet_on)))
    refine wpQuiet_nil ?_;rintro w9 ⟨uu,rfl⟩;have hb9:=yJ wr uu;generalize bel wr uu=w9 at *;have HB9:=xL (yM HB.out HB.out.size hb9);clear g0 g1 g2 g3 g4 g5 g6;have HW9:=xL (yM HW.out HW.out.size hb9);clear hb9;go_wp2
    go_roundw
    case rel=>exact⟨k+1,by omega,by go_num,HS.out.step HG.out ⟨Q8.out,fun f hf=>by rw[HF.out] at hf;injection hf with hf;subst hf;exact q9⟩,HW9.out⟩
    case measure=>simp[intOf];omega
  have hgk:=gE hlt;obtain⟨b1,off,csy,hA,hb1,hcs,hcell⟩:=HX1.out k x.zD[k] hgk;subst hA;generalize x.zD[k]=l at *;have HG:=xL hgk;clear hgk;obtain⟨v3,rfl⟩:=T.rd_one hcs;have d0:=(HB.out.cell hb1).trans (hcell 0 v3 rfl);rw[Nat.mul_one,Nat.add_zero] at d0;have R:=xL (show RdI wr v3 l from Rd.below (T.yZ.1 hcs) HB.out);clear hcs hcell;have hq1:b1<wr.heap.size:=zW hb1 HB.out.size;obtain⟨ua,uc,rfl,_,_,_⟩:=R.out.open_;have n1:((k:Int)<(x.zD.length:Int)):=by omega
  cases a8:sigB l
  ·go_wp2_with (go_at_call 69;refine(c_l03Ok _ l _ R.out).mono ?_;rintro e w' ⟨rfl,rfl⟩;rw[a8])
   go_ret
   exact⟨yK (xE fun h=>by have h1:sigB l=true:=h.sources.each k l HG.out;rw[a8] at h1;exact absurd h1 (by simp)).symm,HB.out⟩
  ·go_wp2_with (go_at_call 69;refine(c_l03Ok _ l _ R.out).mono ?_;rintro e w' ⟨rfl,rfl⟩;rw[a8])
   go_roundw
   case rel=>exact⟨k+1,by omega,by go_num,HS.out.step HG.out a8,HW.out⟩
   case measure=>simp[intOf];omega
end
section
open Go.RowKit
end
section
open Go.RowKit
end
section
open Go.RowKit
end
section
open Go.RowKit
end
section
open Go.RowKit
end
end Go.Proofs.YtdcofkabaigjpaaGreat
