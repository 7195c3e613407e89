/- Contracts: what is valid, by the reference: clips, tracks, names, mixers. Plain laws on decimal numbers: what is written is read back. No program is named here. Contract: the text of a mark. Contracts: nested data marked cell by cell. Contracts: marks of nested data, and marks that are still there. Contracts: which nested data are the same. -/
import Derived.Test.YtoibekfhepnedaaGreatQAiExactSoundCache
import Derived.Test.YtoibekfhepnedaaGreatQAaExactSoundCache
import Derived.Lib.ItoaNum
import Derived.Lib.ItoaLen
import Derived.Lib.ParseIntB
import Derived.Lib.ParseIntBCases
import Derived.Lib.ParseIntBTie
import Derived.Test.YtoibekfhepnedaaGreatQAcExactSoundCache
import Derived.Test.YtoibekfhepnedaaGreatQAbExactSoundCache
import Derived.Test.YtoibekfhepnedaaGreatQAlExactSoundCache
import Derived.Test.YtoibekfhepnedaaGreatQAdExactSoundCache
import Derived.Test.YtoibekfhepnedaaGreatQAfExactSoundCache
import Derived.Laws.StructEq
set_option linter.unusedVariables false
set_option linter.unusedSimpArgs false
set_option maxHeartbeats 2000000
set_option maxRecDepth 20000
section
namespace Go.Proofs.YtoibekfhepnedaaGreat
open Go.RowKit
/-- A struct within a struct behind a pointer. -/
theorem T.at_sub {w:World} {fs:List T} {b o:Nat} (pre sub post:List Value) (hb:b<w.heap.size) (hc: ∀ j u,(pre++(sub++post))[j]?=some u→w.cell? ⟨b,o+j,none⟩=some u) (h:T.rds w fs sub):T.at w fs b (o+pre.length):=
 ⟨hb,sub,h,fun j u hj=>by
  have hl:=(List.getElem?_eq_some_iff.1 hj).1
  have:=hc (pre.length+j) u (by rw[List.getElem?_append_right (by omega),Nat.add_sub_cancel_left,List.getElem?_append_left hl];exact hj)
  rwa [←Nat.add_assoc] at this⟩
theorem c_l23Clip (x:GClip) (b o:Nat) (w:World) (h:T.at w x.fs b o):Calls Tryz.prog 157 #[.pointer (some ⟨b,o,none⟩)] w fun e w'=>e= .returned (.bool (tf (ClipOk x)))∧Below w.heap.size w w':=by
 have HAT:=hide h
 obtain⟨hlt0,cs,hr,hc⟩:=h
 obtain rfl:=GClip.yN hr
 clear hr
 have HL:=hide hlt0;have HCC:=hide hc;have HB0:=hide (Below.refl w.heap.size w);clear hlt0 hc
 have p0:w.cell? ⟨b,o,none⟩=some (.int .i64 x.zT):=(HB0.out.cell HL.out).trans (HCC.out 0 _ rfl)
 have p1:w.cell? ⟨b,o+1,none⟩=some (.int .i64 x.zH):=(HB0.out.cell HL.out).trans (HCC.out 1 _ rfl)
 have p2:w.cell? ⟨b,o+2,none⟩=some (.int .i64 x.zG):=(HB0.out.cell HL.out).trans (HCC.out 2 _ rfl)
 have p3:w.cell? ⟨b,o+3,none⟩=some (.int .i64 x.zX):=(HB0.out.cell HL.out).trans (HCC.out 3 _ rfl)
 have p4:w.cell? ⟨b,o+4,none⟩=some (.int .i64 x.zR):=(HB0.out.cell HL.out).trans (HCC.out 4 _ rfl)
 have lb:b<w.heap.size:=Nat.lt_of_lt_of_le HL.out HB0.out.size
 go_enter Tryz.func157,Tryz.ntmps157
 by_cases q1:inB x.zT 0 5=true
 rotate_left
 ·have q1':inB x.zT 0 5=false:=(by simpa using q1)
  go_wp2_with (first|(go_at_call 87;refine(c_l00In _ _ _ _).mono ?_;rintro e w' ⟨rfl,rfl⟩)|(go_at_call 158;refine(c_l01Sample _ _).mono ?_;rintro e w' ⟨rfl,rfl⟩))
  go_ret
  exact⟨yH (yW fun h=>q1 h.source).symm,HB0.out⟩
 skip
 by_cases q2:inB x.zG 1 4000=true
 rotate_left
 ·have q2':inB x.zG 1 4000=false:=(by simpa using q2)
  go_wp2_with (first|(go_at_call 87;refine(c_l00In _ _ _ _).mono ?_;rintro e w' ⟨rfl,rfl⟩)|(go_at_call 158;refine(c_l01Sample _ _).mono ?_;rintro e w' ⟨rfl,rfl⟩))
  go_ret
  exact⟨yH (yW fun h=>q2 h.length).symm,HB0.out⟩
 have i2:=yZ.1 q2
 by_cases q3:Smp x.zR
 rotate_left
 ·have q3':decide (Smp x.zR)=false:=decide_eq_false q3;have Q3:=hide q3;clear q3
  go_wp2_with (first|(go_at_call 87;refine(c_l00In _ _ _ _).mono ?_;rintro e w' ⟨rfl,rfl⟩)|(go_at_call 158;refine(c_l01Sample _ _).mono ?_;rintro e w' ⟨rfl,rfl⟩))
  go_ret
  exact⟨yH (yW fun h=>Q3.out h.gain).symm,HB0.out⟩
 have q3':decide (Smp x.zR)=true:=decide_eq_true q3;have Q3:=hide q3;clear q3
 by_cases q4:inB x.zH 0 (4000 - x.zG)=true
 rotate_left
 ·have q4':inB x.zH 0 (4000 - x.zG)=false:=(by simpa using q4)
  go_wp2_with (first|(go_at_call 87;refine(c_l00In _ _ _ _).mono ?_;rintro e w' ⟨rfl,rfl⟩)|(go_at_call 158;refine(c_l01Sample _ _).mono ?_;rintro e w' ⟨rfl,rfl⟩))
  have g0:=yF p0
  have g1:=yF p1
  have g2:=yF p2
  have g3:=yF p3
  have g4:=yF p4
  refine xA (by kernel_rfl) (by kernel_rfl) ?_
  repeat(first|go_big_quiet_skip|(go_big_quiet_want;go_big_quiet_op;first|go_big_quiet_on|(apply Exists.intro;refine⟨fun _=>?_,?_⟩;(· ((go_at_call 87;exact Calls.yJ ((c_l00In _ _ _ _).mono (fun e w' h=>by(first|rw[q4'] at h|skip);exact h)))));go_big_quiet_on)))
  refine wpQuiet_nil ?_
  rintro w9 ⟨uu,rfl⟩
  have hb9:=yG w uu
  generalize bel w uu=w9 at *
  have HB9:=hide (yI HB0.out HB0.out.size hb9);clear g0 g1 g2 g3 g4
  go_wp2
  go_ret
  exact⟨yH (yW fun h=>q4 h.from_).symm,HB9.out⟩
 by_cases q5:inB x.zX 0 (4000 - x.zG)=true
 rotate_left
 ·have q5':inB x.zX 0 (4000 - x.zG)=false:=(by simpa using q5)
  go_wp2_with (first|(go_at_call 87;refine(c_l00In _ _ _ _).mono ?_;rintro e w' ⟨rfl,rfl⟩)|(go_at_call 158;refine(c_l01Sample _ _).mono ?_;rintro e w' ⟨rfl,rfl⟩))
  have g0:=yF p0
  have g1:=yF p1
  have g2:=yF p2
  have g3:=yF p3
  have g4:=yF p4
  refine xA (by kernel_rfl) (by kernel_rfl) ?_
  repeat(first|go_big_quiet_skip|(go_big_quiet_want;go_big_quiet_op;first|go_big_quiet_on|(apply Exists.intro;refine⟨fun _=>?_,?_⟩;(· ((go_at_call 87;exact Calls.yJ ((c_l00In _ _ _ _).mono (fun e w' h=>by(first|rw[q4] at h|rw[q5'] at h|skip);exact h)))));go_big_quiet_on)))
  refine wpQuiet_nil ?_
  rintro w9 ⟨uu,rfl⟩
  have hb9:=yG w uu
  generalize bel w uu=w9 at *
  have HB9:=hide (yI HB0.out HB0.out.size hb9);clear g0 g1 g2 g3 g4
  go_wp2
  go_ret
  exact⟨yH (yW fun h=>q5 h.at_).symm,HB9.out⟩
 go_wp2_with (first|(go_at_call 87;refine(c_l00In _ _ _ _).mono ?_;rintro e w' ⟨rfl,rfl⟩)|(go_at_call 158;refine(c_l01Sample _ _).mono ?_;rintro e w' ⟨rfl,rfl⟩))
 have g0:=yF p0
 have g1:=yF p1
 have g2:=yF p2
 have g3:=yF p3
 have g4:=yF p4
 refine xA (by kernel_rfl) (by kernel_rfl) ?_
 repeat(first|go_big_quiet_skip|(go_big_quiet_want;go_big_quiet_op;first|go_big_quiet_on|(apply Exists.intro;refine⟨fun _=>?_,?_⟩;(· ((go_at_call 87;exact Calls.yJ ((c_l00In _ _ _ _).mono (fun e w' h=>by(first|rw[q4] at h|rw[q5] at h|skip);exact h)))));go_big_quiet_on)))
 refine wpQuiet_nil ?_
 rintro w9 ⟨uu,rfl⟩
 have hb9:=yG w uu
 generalize bel w uu=w9 at *
 have HB9:=hide (yI HB0.out HB0.out.size hb9);clear g0 g1 g2 g3 g4
 go_wp2
 go_ret
 exact⟨yH (yX ⟨q1,q2,q4,q5,Q3.out⟩).symm,HB9.out⟩
theorem c_l23Ok (x:GTrack) (b o:Nat) (w:World) (h:T.at w x.fs b o):Calls Tryz.prog 231 #[.pointer (some ⟨b,o,none⟩)] w fun e w'=>e= .returned (.bool (tf (TrackOk x)))∧Below w.heap.size w w':=by
 have HAT:=hide h
 obtain⟨hlt0,cs,hr,hc⟩:=h
 obtain⟨v0,rfl,h0⟩:=GTrack.yN hr
 clear hr
 have R0:=hide h0;obtain⟨va0,vc0,rfl,vl0,vm0,vx0⟩:=T.yM h0
 have HX0:=hide vx0;clear vx0 h0
 have HL:=hide hlt0;have HCC:=hide hc;have HB0:=hide (Below.refl w.heap.size w);clear hlt0 hc
 have p0:w.cell? ⟨b,o,none⟩=some (.slice va0 x.zQ.length vc0):=(HB0.out.cell HL.out).trans (HCC.out 0 _ rfl)
 have lb:b<w.heap.size:=Nat.lt_of_lt_of_le HL.out HB0.out.size
 go_enter Tryz.func231,Tryz.ntmps231
 go_wp2
 clear p0 lb
 go_loopw [3] (fun i wr=> ∃ k:Nat,k≤x.zQ.length∧i= .int .i64 k∧Upto x.zQ (fun i c=>ClipOk c∧ ∀ p,0<i→x.zQ[i - 1]?=some p→p.zX≤c.zX) k∧Below w.heap.size w wr) (fun i _=>x.zQ.length - (intOf i).toNat)
 case atStart=>exact⟨0,Nat.zero_le _,rfl,Upto.zero,Below.refl _ _⟩
 case round=>
  obtain⟨k,hk,rfl,hs,hbw⟩:=hrel
  have HS:=hide hs;have HW:=hide hbw;have HB:=hide (yI HB0.out HB0.out.size hbw);clear hs hbw
  have p0:wr.cell? ⟨b,o,none⟩=some (.slice va0 x.zQ.length vc0):=(HB.out.cell HL.out).trans (HCC.out 0 _ rfl)
  have lb:b<wr.heap.size:=Nat.lt_of_lt_of_le HL.out HB.out.size
  by_cases hlt:k<x.zQ.length
  rotate_left
  ·have hall:=hide (HS.out.all (by omega));clear HS
   by_cases h12:x.zQ.length≤12
   ·go_wp2
    go_ret
    exact⟨yH (by rw[yX ⟨hall.out,h12⟩];exact decide_eq_true (by omega)),HB.out⟩
   ·go_wp2
    go_ret
    exact⟨yH (by rw[yW fun h=>h12 h.few];exact decide_eq_false (by omega)),HB.out⟩
  have hgk:=List.getElem?_eq_getElem hlt
  obtain⟨b1,off,csy,hA,hb1,hcs,hcell⟩:=HX0.out k x.zQ[k] hgk
  subst hA
  generalize x.zQ[k]=y at *
  have HG:=hide hgk;clear hgk
  have HAy:=hide (T.at_elem (o:=off+k * 5) hb1 (show T.rds w y.fs csy by simpa only[GClip.t,T.rd] using hcs) hcell (by omega));clear hcs hcell
  have n1:((k:Int)<(x.zQ.length:Int)):=by omega
  by_cases hk0:k=0
  ·have g0':decide (0<k)=false:=decide_eq_false (by omega)
   have K0:=hide hk0;clear hk0
   by_cases q1:ClipOk y
   ·have a1:=yX q1;have Q1:=hide q1;clear q1
    go_wp2
    have g0:=yF p0
    refine xA (by kernel_rfl) (by kernel_rfl) ?_
    repeat(first|go_big_quiet_skip|(go_big_quiet_want;go_big_quiet_op;first|go_big_quiet_on|(apply Exists.intro;refine⟨fun _=>?_,?_⟩;(· (go_at_call 157;exact Calls.yK ((c_l23Clip y _ _ _ (T.at_below HAy.out (yI HB.out HB.out.size (yG wr _)))).mono (fun e w' h=>by rw[a1] at h;exact h))));go_big_quiet_on)))
    refine wpQuiet_nil ?_
    rintro w9 ⟨uu,rfl⟩
    have hb9:=yG wr uu
    generalize bel wr uu=w9 at *
    have HB9:=hide (yI HB.out HB.out.size hb9);clear g0
    have HW9:=hide (yI HW.out HW.out.size hb9);clear hb9
    go_wp2
    go_roundw
    case rel=>exact⟨k+1,by omega,by go_num,HS.out.step HG.out ⟨Q1.out,fun p h=>by have:=K0.out;omega⟩,HW9.out⟩
    case measure=>simp[intOf];omega
   ·have a1:=yW q1;have Q1:=hide q1;clear q1
    go_wp2
    have g0:=yF p0
    refine xA (by kernel_rfl) (by kernel_rfl) ?_
    repeat(first|go_big_quiet_skip|(go_big_quiet_want;go_big_quiet_op;first|go_big_quiet_on|(apply Exists.intro;refine⟨fun _=>?_,?_⟩;(· (go_at_call 157;exact Calls.yK ((c_l23Clip y _ _ _ (T.at_below HAy.out (yI HB.out HB.out.size (yG wr _)))).mono (fun e w' h=>by rw[a1] at h;exact h))));go_big_quiet_on)))
    refine wpQuiet_nil ?_
    rintro w9 ⟨uu,rfl⟩
    have hb9:=yG wr uu
    generalize bel wr uu=w9 at *
    have HB9:=hide (yI HB.out HB.out.size hb9);clear g0
    have HW9:=hide (yI HW.out HW.out.size hb9);clear hb9
    go_wp2
    go_ret
    exact⟨yH (yW fun h=>Q1.out (h.clips k y HG.out).1).symm,HB9.out⟩
  obtain⟨j,rfl⟩: ∃ j,k=j+1:=⟨k - 1,by omega⟩
  clear hk0
  have hltj:j<x.zQ.length:=by omega
  have hgk:=List.getElem?_eq_getElem hltj
  obtain⟨b2,off2,csz,hA,hb2,hcs,hcell⟩:=HX0.out j x.zQ[j] hgk
  obtain⟨rfl,rfl⟩:b1=b2∧off=off2:=by injection hA with hA;injection hA with e1 e2;exact⟨e1,e2⟩
  clear hA
  generalize x.zQ[j]=z at *
  have HJ:=hide hgk;clear hgk
  have HAz:=hide (T.at_elem (o:=off+j * 5) hb2 (show T.rds w z.fs csz by simpa only[GClip.t,T.rd] using hcs) hcell (by omega));clear hcs hcell
  obtain⟨_,csy',hry,hcy⟩:=HAy.out
  obtain rfl:=GClip.yN hry
  have cy3:wr.cell? ⟨b1,off+(j+1) * 5+3,none⟩=some (.int .i64 y.zX):=(HB.out.cell hb1).trans (hcy 3 _ rfl)
  obtain⟨_,csz',hrz,hcz⟩:=HAz.out
  obtain rfl:=GClip.yN hrz
  have cz3:wr.cell? ⟨b1,off+j * 5+3,none⟩=some (.int .i64 z.zX):=(HB.out.cell hb1).trans (hcz 3 _ rfl)
  clear hry hcy hrz hcz
  have e1:IntKind.i64.wrap ((j:Int)+1 - 1)=(j:Int):=by rw[IntWalk.i64_in _ (by omega)];omega
  have e2:IntKind.i64.wrap (j:Int)=(j:Int):=IntWalk.i64_in _ (by omega)
  have n0:(0:Int)≤(j:Int):=by omega
  have n2:((j:Int)<(x.zQ.length:Int)):=by omega
  have n3:((j:Int)+1<(x.zQ.length:Int)):=by omega
  have n4:(0:Int)≤(j:Int)+1:=by omega
  by_cases q1:ClipOk y
  rotate_left
  ·have a1:=yW q1;have Q1:=hide q1;clear q1
   go_wp2
   have g0:=yF p0
   have g1:=yF cy3
   have g2:=yF cz3
   refine xA (by kernel_rfl) (by kernel_rfl) ?_
   repeat(first|go_big_quiet_skip|(go_big_quiet_want;go_big_quiet_op;first|go_big_quiet_on|(apply Exists.intro;refine⟨fun _=>?_,?_⟩;(· (go_at_call 157;exact Calls.yK ((c_l23Clip y _ _ _ (T.at_below HAy.out (yI HB.out HB.out.size (yG wr _)))).mono (fun e w' h=>by rw[a1] at h;exact h))));go_big_quiet_on)))
   refine wpQuiet_nil ?_
   rintro w9 ⟨uu,rfl⟩
   have hb9:=yG wr uu
   generalize bel wr uu=w9 at *
   have HB9:=hide (yI HB.out HB.out.size hb9);clear g0 g1 g2
   have HW9:=hide (yI HW.out HW.out.size hb9);clear hb9
   go_wp2
   go_ret
   exact⟨yH (yW fun h=>Q1.out (h.clips (j+1) y HG.out).1).symm,HB9.out⟩
  have a1:=yX q1;have Q1:=hide q1;clear q1
  by_cases q2:y.zX<z.zX
  ·have q2':decide (y.zX<z.zX)=true:=decide_eq_true q2;have Q2:=hide q2
   go_wp2
   have g0:=yF p0
   have g1:=yF cy3
   have g2:=yF cz3
   refine xA (by kernel_rfl) (by kernel_rfl) ?_
   repeat(first|go_big_quiet_skip|(go_big_quiet_want;go_big_quiet_op;first|go_big_quiet_on|(apply Exists.intro;refine⟨fun _=>?_,?_⟩;(· (go_at_call 157;exact Calls.yK ((c_l23Clip y _ _ _ (T.at_below HAy.out (yI HB.out HB.out.size (yG wr _)))).mono (fun e w' h=>by rw[a1] at h;exact h))));go_big_quiet_on)))
   refine wpQuiet_nil ?_
   rintro w9 ⟨uu,rfl⟩
   have hb9:=yG wr uu
   generalize bel wr uu=w9 at *
   have HB9:=hide (yI HB.out HB.out.size hb9);clear g0 g1 g2
   have HW9:=hide (yI HW.out HW.out.size hb9);clear hb9
   go_wp2
   go_ret
   exact⟨yH (yW fun h=>by have:=(h.clips (j+1) y HG.out).2 z (by omega) HJ.out;have:=Q2.out;omega).symm,HB9.out⟩
  have q2':decide (y.zX<z.zX)=false:=decide_eq_false q2
  go_wp2
  have g0:=yF p0
  have g1:=yF cy3
  have g2:=yF cz3
  refine xA (by kernel_rfl) (by kernel_rfl) ?_
  repeat(first|go_big_quiet_skip|(go_big_quiet_want;go_big_quiet_op;first|go_big_quiet_on|(apply Exists.intro;refine⟨fun _=>?_,?_⟩;(· (go_at_call 157;exact Calls.yK ((c_l23Clip y _ _ _ (T.at_below HAy.out (yI HB.out HB.out.size (yG wr _)))).mono (fun e w' h=>by rw[a1] at h;exact h))));go_big_quiet_on)))
  refine wpQuiet_nil ?_
  rintro w9 ⟨uu,rfl⟩
  have hb9:=yG wr uu
  generalize bel wr uu=w9 at *
  have HB9:=hide (yI HB.out HB.out.size hb9);clear g0 g1 g2
  have HW9:=hide (yI HW.out HW.out.size hb9);clear hb9
  go_wp2
  go_roundw
  case rel=>exact⟨j+1+1,by omega,by go_num,HS.out.step HG.out ⟨Q1.out,fun p _ hp=>by rw[Nat.add_sub_cancel,HJ.out] at hp;injection hp with hp;subst hp;omega⟩,HW9.out⟩
  case measure=>simp[intOf];omega
theorem c_sValidTrack (x:GTrack) (cs:List Value) (w:World) (h:T.rds w x.fs cs):Calls Tryz.prog 179 #[.agg cs.toArray] w fun e w'=>e= .returned (.bool (tf (TrackOk x)))∧Below w.heap.size w w':=by
 obtain⟨v0,rfl,h0⟩:=GTrack.yN h
 clear h
 have R0:=hide h0;obtain⟨va0,vc0,rfl,vl0,vm0,vx0⟩:=T.yM h0
 have HX0:=hide vx0;clear vx0 h0
 have HB0:=hide (show Below w.heap.size w (w.alloc (.cells #[(.slice va0 x.zQ.length vc0)] 96)) from(Below.refl _ _).alloc (Nat.le_refl _) _)
 have HK0:=hide (Bk.born w 96 #[(.slice va0 x.zQ.length vc0)])
 go_enter Tryz.func179,Tryz.ntmps179
 go_wp2_with fail
 refine(c_l23Ok x _ _ _ (T.at_bk HK0.out (GTrack.rd_mk (T.yE R0.out HB0.out)))).mono ?_;rintro e w1 ⟨rfl,hd⟩
 have H1:=hide (yI HB0.out HB0.out.size hd);clear hd
 go_wp2
 go_ret
 exact⟨rfl,H1.out⟩
theorem c_l27Track (x:GTrack) (b o:Nat) (n:Int) (w:World) (n0:0≤n) (n1:n≤1048576) (h:T.at w x.fs b o):Calls Tryz.prog 124 #[.pointer (some ⟨b,o,none⟩),.int .i64 n] w fun e w'=>e= .returned (.bool (tf (TrackOk x∧Each x.zQ fun _ c=>c.zT<n)))∧Below w.heap.size w w':=by
 have HAT:=hide h
 obtain⟨hlt0,cs,hr,hc⟩:=h
 obtain⟨v0,rfl,h0⟩:=GTrack.yN hr
 clear hr
 have R0:=hide h0;obtain⟨va0,vc0,rfl,vl0,vm0,vx0⟩:=T.yM h0
 have HX0:=hide vx0;clear vx0 h0
 have HL:=hide hlt0;have HCC:=hide hc;have HB0:=hide (Below.refl w.heap.size w);clear hlt0 hc
 have p0:w.cell? ⟨b,o,none⟩=some (.slice va0 x.zQ.length vc0):=(HB0.out.cell HL.out).trans (HCC.out 0 _ rfl)
 have lb:b<w.heap.size:=Nat.lt_of_lt_of_le HL.out HB0.out.size
 go_enter Tryz.func124,Tryz.ntmps124
 go_wp2
 clear p0 lb
 go_loopw [5] (fun i wr=> ∃ k:Nat,k≤x.zQ.length∧i= .int .i64 k∧Upto x.zQ (fun _ c=>inB c.zT 0 (n - 1)=true) k∧Below w.heap.size w wr) (fun i _=>x.zQ.length - (intOf i).toNat)
 case atStart=>exact⟨0,Nat.zero_le _,rfl,Upto.zero,Below.refl _ _⟩
 case round=>
  obtain⟨k,hk,rfl,hs,hbw⟩:=hrel
  have HS:=hide hs;have HW:=hide hbw;have HB:=hide (yI HB0.out HB0.out.size hbw);clear hs hbw
  have p0:wr.cell? ⟨b,o,none⟩=some (.slice va0 x.zQ.length vc0):=(HB.out.cell HL.out).trans (HCC.out 0 _ rfl)
  have lb:b<wr.heap.size:=Nat.lt_of_lt_of_le HL.out HB.out.size
  by_cases hlt:k<x.zQ.length
  rotate_left
  ·have hall:=hide (HS.out.all (by omega));clear HS
   go_wp2_with fail
   refine(c_sValidTrack x _ _ (GTrack.rd_mk (T.yE R0.out HB.out))).mono ?_;rintro e w2 ⟨rfl,hb2⟩
   have H2:=hide (yI HB.out HB.out.size hb2);clear hb2
   go_wp2
   go_ret
   exact⟨yH (tf_iff ⟨fun h=>⟨h,fun i c hc=>by have:=yZ.1 (hall.out i c hc);omega⟩,fun h=>h.1⟩),H2.out⟩
  have hgk:=List.getElem?_eq_getElem hlt
  obtain⟨b1,off,csy,hA,hb1,hcs,hcell⟩:=HX0.out k x.zQ[k] hgk
  subst hA
  generalize x.zQ[k]=y at *
  have HG:=hide hgk;clear hgk
  have HAy:=hide (T.at_elem (o:=off+k * 5) hb1 (show T.rds w y.fs csy by simpa only[GClip.t,T.rd] using hcs) hcell (by omega));clear hcs hcell
  obtain⟨_,csy',hry,hcy⟩:=HAy.out
  obtain rfl:=GClip.yN hry
  have cy0:wr.cell? ⟨b1,off+k * 5,none⟩=some (.int .i64 y.zT):=(HB.out.cell hb1).trans (hcy 0 _ rfl)
  have hq1:b1<wr.heap.size:=Nat.lt_of_lt_of_le hb1 HB.out.size
  clear hry hcy
  by_cases q1:inB y.zT 0 (n - 1)=true
  rotate_left
  ·have q1':inB y.zT 0 (n - 1)=false:=(by simpa using q1)
   go_wp2_with (go_at_call 87;refine(c_l00In _ _ _ _).mono ?_;rintro e w' ⟨rfl,rfl⟩)
   go_ret
   exact⟨yH (yW fun h=>by have h1:=(h.1.clips k y HG.out).1.source;have h2:=h.2 k y HG.out;exact q1 (yZ.2 ⟨(yZ.1 h1).1,by omega⟩)).symm,HB.out⟩
  go_wp2_with (go_at_call 87;refine(c_l00In _ _ _ _).mono ?_;rintro e w' ⟨rfl,rfl⟩)
  go_roundw
  case rel=>exact⟨k+1,by omega,by go_num,HS.out.step HG.out q1,HW.out⟩
  case measure=>simp[intOf];omega
theorem c_sl01Small (x:Nat) (w:World):Calls Tryz.prog 266 #[.int .u8 (x:Int)] w fun e w'=>e= .returned (.bool (decide (97≤x∧x≤122)))∧w=w':=by
 by_cases h:97≤x
 all_goals
  go_enter Tryz.func266,Tryz.ntmps266
  go_wp2
  go_ret
  exact⟨yH (by by_cases h2:x≤122<;>first|rfl|(simp[h,h2];done)|(simp[h,h2];omega)),rfl⟩
theorem c_sl01Digit (x:Nat) (w:World):Calls Tryz.prog 267 #[.int .u8 (x:Int)] w fun e w'=>e= .returned (.bool (decide (48≤x∧x≤57)))∧w=w':=by
 by_cases h:48≤x
 all_goals
  go_enter Tryz.func267,Tryz.ntmps267
  go_wp2
  go_ret
  exact⟨yH (by by_cases h2:x≤57<;>first|rfl|(simp[h,h2];done)|(simp[h,h2];omega)),rfl⟩
theorem ne_of_size {s:ByteArray} (h:1≤s.size):s.toList.isEmpty=false:=by
 rw[toList_eq]
 have hl:s.data.toList.length=s.size:=by rw[Array.length_toList];rfl
 generalize s.data.toList=l at *
 cases l with
 |nil=>simp at hl;omega
 |cons a t=>rfl
theorem c_sIsName (s:ByteArray) (w:World):Calls Tryz.prog 230 #[.string s] w fun e w'=>e= .returned (.bool (tf (NameOk s)))∧w=w':=by
 by_cases h1:1≤s.size
 rotate_left
 ·have hs:s=ByteArray.empty:=by apply ByteArray.ext;apply Array.toList_inj.1;apply List.eq_nil_of_length_eq_zero;rw[Array.length_toList];have:s.data.size=s.size:=rfl;omega
  subst hs
  go_enter Tryz.func230,Tryz.ntmps230
  go_wp2
  go_ret
  exact⟨yH (yW fun h=>h1 h.some_).symm,rfl⟩
 have hne:=ne_of_size h1
 have HNE:=hide hne
 by_cases h2:s.size≤10
 rotate_left
 ·go_enter Tryz.func230,Tryz.ntmps230
  go_wp2
  go_ret
  exact⟨yH (yW fun h=>h2 h.few).symm,rfl⟩
 have hg0:=bA_get (s:=s) (n:=0) (by omega)
 have hb0:=bA_lt s 0
 by_cases h3:97≤bA s 0∧bA s 0≤122
 rotate_left
 ·have d0:decide (97≤bA s 0∧bA s 0≤122)=false:=decide_eq_false h3
  have H3:=hide h3;clear h3
  go_enter Tryz.func230,Tryz.ntmps230
  go_wp2_with (first|(go_at_call 266;refine(c_sl01Small _ _).mono ?_;rintro e w' ⟨rfl,rfl⟩)|(go_at_call 267;refine(c_sl01Digit _ _).mono ?_;rintro e w' ⟨rfl,rfl⟩))
  go_ret
  exact⟨yH (yW fun h=>by rcases h.each 0 (by omega) with h|h<;>(simp only[smallN,digitN] at h;have:=H3.out;omega)).symm,rfl⟩
 have d0:decide (97≤bA s 0∧bA s 0≤122)=true:=decide_eq_true h3
 have H3:=hide h3;clear h3
 go_enter Tryz.func230,Tryz.ntmps230
 go_wp2_with (first|(go_at_call 266;refine(c_sl01Small _ _).mono ?_;rintro e w' ⟨rfl,rfl⟩)|(go_at_call 267;refine(c_sl01Digit _ _).mono ?_;rintro e w' ⟨rfl,rfl⟩))
 go_loop [3] (fun i=> ∃ k:Nat,k≤s.size∧i= .int .i64 k∧ ∀ i,i<k→smallN (bA s i)∨digitN (bA s i)) (fun i=>s.size - (intOf i).toNat)
 case atStart=>exact⟨0,Nat.zero_le _,rfl,fun i h=>absurd h (by omega)⟩
 case round=>
  obtain⟨k,hk,rfl,hs⟩:=hrel
  have HS:=hide hs;clear hs hg0 hb0 d0
  by_cases hlt:k<s.size
  ·have hb:=bA_lt s k
   have hg:=bA_get hlt
   generalize hy:bA s k=y at *
   have HY:=hide hy;clear hy
   by_cases a1:97≤y∧y≤122
   ·have d1:decide (97≤y∧y≤122)=true:=decide_eq_true a1
    have A1:=hide a1;clear a1
    go_wp2_with (first|(go_at_call 266;refine(c_sl01Small _ _).mono ?_;rintro e w' ⟨rfl,rfl⟩)|(go_at_call 267;refine(c_sl01Digit _ _).mono ?_;rintro e w' ⟨rfl,rfl⟩))
    go_round
    case rel=>exact⟨k+1,by omega,by go_num,fun i hi=>by
     by_cases e:i=k
     ·subst e;rw[HY.out];exact .inl A1.out
     ·exact HS.out i (by omega)⟩
    case measure=>simp[intOf];omega
   ·have d1:decide (97≤y∧y≤122)=false:=decide_eq_false a1
    have A1:=hide a1;clear a1
    by_cases a2:48≤y∧y≤57
    ·have d2:decide (48≤y∧y≤57)=true:=decide_eq_true a2
     have A2:=hide a2;clear a2
     go_wp2_with (first|(go_at_call 266;refine(c_sl01Small _ _).mono ?_;rintro e w' ⟨rfl,rfl⟩)|(go_at_call 267;refine(c_sl01Digit _ _).mono ?_;rintro e w' ⟨rfl,rfl⟩))
     go_round
     case rel=>exact⟨k+1,by omega,by go_num,fun i hi=>by
      by_cases e:i=k
      ·subst e;rw[HY.out];exact .inr A2.out
      ·exact HS.out i (by omega)⟩
     case measure=>simp[intOf];omega
    ·have d2:decide (48≤y∧y≤57)=false:=decide_eq_false a2
     have A2:=hide a2;clear a2
     go_wp2_with (first|(go_at_call 266;refine(c_sl01Small _ _).mono ?_;rintro e w' ⟨rfl,rfl⟩)|(go_at_call 267;refine(c_sl01Digit _ _).mono ?_;rintro e w' ⟨rfl,rfl⟩))
     go_ret
     exact⟨yH (yW fun h=>by
      rcases h.each k hlt with h|h<;>rw[HY.out] at h<;>(simp only[smallN,digitN] at h;have:=A1.out;have:=A2.out;omega)).symm,rfl⟩
  ·go_wp2
   go_ret
   exact⟨yH (yX ⟨h1,h2,fun i hi=>by
    rcases HS.out i (by omega) with h|h
    ·exact .inl h
    ·by_cases e:i=0
     ·subst e;exact .inl H3.out
     ·exact .inr ⟨h,e⟩⟩).symm,rfl⟩
end Go.Proofs.YtoibekfhepnedaaGreat
end
section
namespace Go.Proofs.YtoibekfhepnedaaGreat
open Go.Lib
end Go.Proofs.YtoibekfhepnedaaGreat
end
section
namespace Go.Proofs.YtoibekfhepnedaaGreat
open Go.RowKit
end Go.Proofs.YtoibekfhepnedaaGreat
end
section
namespace Go.Proofs.YtoibekfhepnedaaGreat
open Go.RowKit
end Go.Proofs.YtoibekfhepnedaaGreat
end
section
namespace Go.Proofs.YtoibekfhepnedaaGreat
open Go.RowKit
end Go.Proofs.YtoibekfhepnedaaGreat
end
section
namespace Go.Proofs.YtoibekfhepnedaaGreat
open Go.RowKit
theorem c_same (v u:Value) (xs ys:List Int) (w:World) (hr1:RdI w v xs) (hr2:RdI w u ys):Calls Tryz.prog 258 #[v,u] w fun e w'=>e= .returned (.bool (decide (xs=ys)))∧Dr w w':=by
 obtain⟨A1,cap1,rfl,hl1,hc1,hx1⟩:=hr1.open_
 obtain⟨A2,cap2,rfl,hl2,hc2,hx2⟩:=hr2.open_
 have HX1:=hide hx1;have HX2:=hide hx2;clear hx1 hx2 hr1 hr2
 by_cases hll:xs.length=ys.length
 ·have hb:((xs.length:Int) != (ys.length:Int))=false:=by simp[hll]
  have HL:=hide hll;clear hll
  go_enter Tryz.func258,Tryz.ntmps258
  go_wp2
  go_loopw [14] (fun i wr=> ∃ k:Nat,k≤xs.length∧i= .int .i64 k∧xs.take k=ys.take k∧Dr w wr) (fun i _=>xs.length - (intOf i).toNat)
  case atStart=>exact⟨0,Nat.zero_le _,rfl,rfl,Dr.refl _⟩
  case round=>
   obtain⟨k,hk,rfl,hs,nr,rfl⟩:=hrel
   have HS:=hide hs;clear hs
   by_cases hlt:k<xs.length
   ·have hlt2:k<ys.length:=by have:=HL.out;omega
    obtain⟨b1,off1,rfl,hb1,hcell1⟩:=HX1.out k xs[k] (List.getElem?_eq_getElem hlt)
    obtain⟨b2,off2,rfl,hb2,hcell2⟩:=HX2.out k ys[k] (List.getElem?_eq_getElem hlt2)
    by_cases he:xs[k]=ys[k]
    ·have hd:(xs[k] != ys[k])=false:=by simp[he]
     have HE:=hide he;clear he
     go_wp2
     go_roundw
     case rel=>exact⟨k+1,by omega,by go_num,takes_succ HS.out (List.getElem?_eq_getElem hlt) (by rw[HE.out];exact List.getElem?_eq_getElem hlt2),(by repeat(first|exact Dr.refl _|exact⟨_,rfl⟩|refine Dr.drewN ?_ _|refine Dr.drew ?_))⟩
     case measure=>simp[intOf];omega
    ·have hd:(xs[k] != ys[k])=true:=by simp[he]
     have HE:=hide he;clear he
     go_wp2
     go_ret
     exact⟨by simp[ne_at (List.getElem?_eq_getElem hlt) (List.getElem?_eq_getElem hlt2) HE.out],(by repeat(first|exact Dr.refl _|exact⟨_,rfl⟩|refine Dr.drewN ?_ _|refine Dr.drew ?_))⟩
   ·go_wp2
    go_ret
    exact⟨by simp[eq_of_takes (k:=k) (by omega) HL.out HS.out],(by repeat(first|exact Dr.refl _|exact⟨_,rfl⟩|refine Dr.drewN ?_ _|refine Dr.drew ?_))⟩
 ·have hb:((xs.length:Int) != (ys.length:Int))=true:=by simp;omega
  have hne:xs≠ys:=fun e=>hll (by rw[e])
  have HN:=hide hne;clear hll hne
  go_enter Tryz.func258,Tryz.ntmps258
  go_wp2
  go_ret
  exact⟨by simp[HN.out],Dr.refl _⟩
theorem c_sameAll (v u:Value) (xs ys:List (List Int)) (w:World) (hr:T.rd w (T.sl 26 1 (xs.map (T.ints 2))) [v]) (ht:T.rd w (T.sl 26 1 (ys.map (T.ints 2))) [u]):
  Calls Tryz.prog 257 #[v,u] w fun e w'=>e= .returned (.bool (decide (xs=ys)))∧Dr w w':=by
 obtain⟨A1,cap1,rfl,hl1,hc1,hx1⟩:=T.yN hr
 obtain⟨A2,cap2,rfl,hl2,hc2,hx2⟩:=T.yN ht
 rw[List.length_map] at hl1 hl2 ⊢
 rw[List.length_map]
 have HX1:=hide hx1;have HX2:=hide hx2;clear hx1 hx2 hr ht
 by_cases hll:xs.length=ys.length
 ·have hb:((xs.length:Int) != (ys.length:Int))=false:=by simp[hll]
  have HL:=hide hll;clear hll
  go_enter Tryz.func257,Tryz.ntmps257
  go_wp2
  go_loopw [14] (fun i wr=> ∃ k:Nat,k≤xs.length∧i= .int .i64 k∧xs.take k=ys.take k∧Dr w wr) (fun i _=>xs.length - (intOf i).toNat)
  case atStart=>exact⟨0,Nat.zero_le _,rfl,rfl,Dr.refl _⟩
  case round=>
   obtain⟨k,hk,rfl,hs,nr,rfl⟩:=hrel
   have HS:=hide hs;clear hs
   by_cases hlt:k<xs.length
   ·have hlt2:k<ys.length:=by have:=HL.out;omega
    obtain⟨b1,o1,cs1,rfl,hb1,hcs1,hcell1⟩:=HX1.out k (T.ints 2 xs[k]) (by rw[List.getElem?_map,List.getElem?_eq_getElem hlt];rfl)
    obtain⟨b2,o2,cs2,rfl,hb2,hcs2,hcell2⟩:=HX2.out k (T.ints 2 ys[k]) (by rw[List.getElem?_map,List.getElem?_eq_getElem hlt2];rfl)
    have hg1:=List.getElem?_eq_getElem hlt
    have hg2:=List.getElem?_eq_getElem hlt2
    generalize xs[k]=x at *
    generalize ys[k]=y at *
    have HG1:=hide hg1;have HG2:=hide hg2;clear hg1 hg2
    obtain⟨v3,rfl⟩:=T.rd_one hcs1
    obtain⟨v4,rfl⟩:=T.rd_one hcs2
    have d0:=hcell1 0 v3 rfl
    have g0:=hcell2 0 v4 rfl
    rw[Nat.mul_one,Nat.add_zero] at d0 g0
    have R1:=hide (show RdI (w.drewN nr) v3 x from Rd.drewN (T.yR.1 hcs1) nr);have R2:=hide (show RdI (w.drewN nr) v4 y from Rd.drewN (T.yR.1 hcs2) nr)
    clear hcs1 hcs2 hcell1 hcell2
    by_cases he:x=y
    ·have hde:decide (x=y)=true:=decide_eq_true he
     have HE:=hide he;clear he
     go_wp2_with (go_at_call 258;refine(c_same _ _ x y _ R1.out R2.out).mono ?_;rintro e w3 ⟨rfl,hd3⟩;rw[hde])
     go_roundw
     case rel=>exact⟨k+1,by omega,by go_num,takes_succ HS.out HG1.out (by rw[HE.out];exact HG2.out),(Dr.drewN (Dr.refl _) _).trans hd3⟩
     case measure=>simp[intOf];omega
    ·have hde:decide (x=y)=false:=decide_eq_false he
     have HE:=hide he;clear he
     go_wp2_with (go_at_call 258;refine(c_same _ _ x y _ R1.out R2.out).mono ?_;rintro e w3 ⟨rfl,hd3⟩;rw[hde])
     go_ret
     exact⟨by simp[ne_at HG1.out HG2.out HE.out],(Dr.drewN (Dr.refl _) _).trans hd3⟩
   ·go_wp2
    go_ret
    exact⟨by simp[eq_of_takes (k:=k) (by omega) HL.out HS.out],(by repeat(first|exact Dr.refl _|exact⟨_,rfl⟩|refine Dr.drewN ?_ _|refine Dr.drew ?_))⟩
 ·have hb:((xs.length:Int) != (ys.length:Int))=true:=by simp;omega
  have hne:xs≠ys:=fun e=>hll (by rw[e])
  have HN:=hide hne;clear hll hne
  go_enter Tryz.func257,Tryz.ntmps257
  go_wp2
  go_ret
  exact⟨by simp[HN.out],Dr.refl _⟩
theorem c_iSameNode (a b:GNode) (v3:Value) (u3:Value) (w:World) (r3:T.rd w (T.ints 2 a.zH) [v3]) (t3:T.rd w (T.ints 2 b.zH) [u3]):
  Calls Tryz.prog 259 #[.agg #[.int .i64 a.zD,.int .i64 a.fA,.int .i64 a.fB,v3],.agg #[.int .i64 b.zD,.int .i64 b.fA,.int .i64 b.fB,u3]] w fun e w'=>e= .returned (.bool (decide (a=b)))∧Below w.heap.size w w':=by
 have hab:decide (a=b)=(decide (a.zD=b.zD) && (decide (a.fA=b.fA) && (decide (a.fB=b.fB) && (decide (a.zH=b.zH))))):=by
  obtain⟨x0,x1,x2,x3⟩:=a
  obtain⟨y0,y1,y2,y3⟩:=b
  rw[Bool.eq_iff_iff]
  simp only[GNode.mk.injEq,decide_eq_true_eq,Bool.and_eq_true]
  try (constructor<;>(intro h;simp[h]))
 have R3:=hide r3;have Q3:=hide t3
 obtain⟨va3,vl3,vc3,rfl⟩:=T.yT r3
 obtain⟨ua3,ul3,uc3,rfl⟩:=T.yT t3
 clear r3 t3
 have HAB:=hide hab;clear hab
 have HB0:=hide (show Below w.heap.size w ((w.alloc (.cells #[.int .i64 a.zD,.int .i64 a.fA,.int .i64 a.fB,(.slice va3 vl3 vc3)] 167)).alloc (.cells #[.int .i64 b.zD,.int .i64 b.fA,.int .i64 b.fB,(.slice ua3 ul3 uc3)] 167)) from((Below.refl _ _).alloc (Nat.le_refl _) _).alloc (by first|(simp;done)|(simp;omega)|omega) _)
 have HKA0:=hide ((Bk.born w 167 #[.int .i64 a.zD,.int .i64 a.fA,.int .i64 a.fB,(.slice va3 vl3 vc3)]).alloc (.cells #[.int .i64 b.zD,.int .i64 b.fA,.int .i64 b.fB,(.slice ua3 ul3 uc3)] 167))
 have HKB0:=hide (Bk.born1' w (.cells #[.int .i64 a.zD,.int .i64 a.fA,.int .i64 a.fB,(.slice va3 vl3 vc3)] 167) 167 #[.int .i64 b.zD,.int .i64 b.fA,.int .i64 b.fB,(.slice ua3 ul3 uc3)])
 by_cases h0:a.zD=b.zD
 ·have e0:(a.zD == b.zD)=true:=by simp[h0]
  have H0:=hide h0;clear h0
  by_cases h1:a.fA=b.fA
  ·have e1:(a.fA == b.fA)=true:=by simp[h1]
   have H1:=hide h1;clear h1
   by_cases h2:a.fB=b.fB
   ·have e2:(a.fB == b.fB)=true:=by simp[h2]
    have H2:=hide h2;clear h2
    by_cases h3:a.zH=b.zH
    ·have c3:decide (a.zH=b.zH)=true:=by simp[h3]
     have H3:=hide h3;clear h3
     go_enter Tryz.func259,Tryz.ntmps259
     go_wp2_with fail
     refine(c_same _ _ a.zH b.zH _ (T.yR.1 (T.yE R3.out HB0.out)) (T.yR.1 (T.yE Q3.out HB0.out))).mono ?_;rintro e w1 ⟨rfl,hd⟩;rw[c3]
     have hb:Below (((w.alloc (.cells #[.int .i64 a.zD,.int .i64 a.fA,.int .i64 a.fB,(.slice va3 vl3 vc3)] 167)).alloc (.cells #[.int .i64 b.zD,.int .i64 b.fA,.int .i64 b.fB,(.slice ua3 ul3 uc3)] 167))).heap.size ((w.alloc (.cells #[.int .i64 a.zD,.int .i64 a.fA,.int .i64 a.fB,(.slice va3 vl3 vc3)] 167)).alloc (.cells #[.int .i64 b.zD,.int .i64 b.fA,.int .i64 b.fB,(.slice ua3 ul3 uc3)] 167)) w1:=by first|exact hd.to_below _|exact hd
     have HKA1:=hide (HKA0.out.below hb HKA0.out.lt);have HKB1:=hide (HKB0.out.below hb HKB0.out.lt);have HB1:=hide (yI HB0.out HB0.out.size hb);clear hb hd
     have ka1:=HKA1.out.cell;have kb1:=HKB1.out.cell
     go_wp2
     go_ret
     exact⟨yH (by rw[HAB.out];simp[H0.out,H1.out,H2.out,H3.out]),HB1.out⟩
    ·have c3:decide (a.zH=b.zH)=false:=by simp[h3]
     have H3:=hide h3;clear h3
     go_enter Tryz.func259,Tryz.ntmps259
     go_wp2_with fail
     refine(c_same _ _ a.zH b.zH _ (T.yR.1 (T.yE R3.out HB0.out)) (T.yR.1 (T.yE Q3.out HB0.out))).mono ?_;rintro e w1 ⟨rfl,hd⟩;rw[c3]
     have hb:Below (((w.alloc (.cells #[.int .i64 a.zD,.int .i64 a.fA,.int .i64 a.fB,(.slice va3 vl3 vc3)] 167)).alloc (.cells #[.int .i64 b.zD,.int .i64 b.fA,.int .i64 b.fB,(.slice ua3 ul3 uc3)] 167))).heap.size ((w.alloc (.cells #[.int .i64 a.zD,.int .i64 a.fA,.int .i64 a.fB,(.slice va3 vl3 vc3)] 167)).alloc (.cells #[.int .i64 b.zD,.int .i64 b.fA,.int .i64 b.fB,(.slice ua3 ul3 uc3)] 167)) w1:=by first|exact hd.to_below _|exact hd
     have HKA1:=hide (HKA0.out.below hb HKA0.out.lt);have HKB1:=hide (HKB0.out.below hb HKB0.out.lt);have HB1:=hide (yI HB0.out HB0.out.size hb);clear hb hd
     have ka1:=HKA1.out.cell;have kb1:=HKB1.out.cell
     go_wp2
     go_ret
     exact⟨yH (by rw[HAB.out];simp[H0.out,H1.out,H2.out,H3.out]),HB1.out⟩
   ·have e2:(a.fB == b.fB)=false:=by simp[h2]
    have H2:=hide h2;clear h2
    go_enter Tryz.func259,Tryz.ntmps259
    go_wp2
    go_ret
    exact⟨yH (by rw[HAB.out];simp[H0.out,H1.out,H2.out]),HB0.out⟩
  ·have e1:(a.fA == b.fA)=false:=by simp[h1]
   have H1:=hide h1;clear h1
   go_enter Tryz.func259,Tryz.ntmps259
   go_wp2
   go_ret
   exact⟨yH (by rw[HAB.out];simp[H0.out,H1.out]),HB0.out⟩
 ·have e0:(a.zD == b.zD)=false:=by simp[h0]
  have H0:=hide h0;clear h0
  go_enter Tryz.func259,Tryz.ntmps259
  go_wp2
  go_ret
  exact⟨yH (by rw[HAB.out];simp[H0.out]),HB0.out⟩
end Go.Proofs.YtoibekfhepnedaaGreat
end
