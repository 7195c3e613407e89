/- Contracts: what is valid, by the reference: clips, tracks, names, mixers. Plain laws on decimal numbers: what is written is read back. No program is named here. Contract: the text of a mark. -/
import Derived.Test.YteiflbhcehajkaaGreatQAeExactEditCache
import Derived.Test.YteiflbhcehajkaaGreatQAaExactEditCache
import Derived.Lib.ItoaNum
import Derived.Lib.ItoaLen
import Derived.Lib.ParseIntB
import Derived.Lib.ParseIntBCases
import Derived.Lib.ParseIntBTie
import Derived.Test.YteiflbhcehajkaaGreatQAdExactEditCache
set_option linter.unusedVariables false
set_option linter.unusedSimpArgs false
set_option maxHeartbeats 2000000
set_option maxRecDepth 20000
section
namespace Go.Proofs.YteiflbhcehajkaaGreat
open Go.RowKit
/-- A struct within a struct behind a pointer. -/
theorem T.at_sub {w:World} {fs:List T} {b o:Nat} (pre sub post:List Value) (hb:b<w.heap.size) (hc: ∀ j u,(pre++(sub++post))[j]?=some u→w.cell? ⟨b,o+j,none⟩=some u) (h:T.rds w fs sub):T.at w fs b (o+pre.length):=
 ⟨hb,sub,h,fun j u hj=>by
  have hl:=(List.getElem?_eq_some_iff.1 hj).1
  have:=hc (pre.length+j) u (by rw[List.getElem?_append_right (by omega),Nat.add_sub_cancel_left,List.getElem?_append_left hl];exact hj)
  rwa [←Nat.add_assoc] at this⟩
theorem c_l23Clip (x:GClip) (b o:Nat) (w:World) (h:T.at w x.fs b o):Calls Tryz.prog 206 #[.pointer (some ⟨b,o,none⟩)] w fun e w'=>e= .returned (.bool (tf (ClipOk x)))∧Below w.heap.size w w':=by
 have HAT:=hide h
 obtain⟨hlt0,cs,hr,hc⟩:=h
 obtain rfl:=GClip.yL hr
 clear hr
 have HL:=hide hlt0;have HCC:=hide hc;have HB0:=hide (Below.refl w.heap.size w);clear hlt0 hc
 have p0:w.cell? ⟨b,o,none⟩=some (.int .i64 x.zO):=(HB0.out.cell HL.out).trans (HCC.out 0 _ rfl)
 have p1:w.cell? ⟨b,o+1,none⟩=some (.int .i64 x.zI):=(HB0.out.cell HL.out).trans (HCC.out 1 _ rfl)
 have p2:w.cell? ⟨b,o+2,none⟩=some (.int .i64 x.zA):=(HB0.out.cell HL.out).trans (HCC.out 2 _ rfl)
 have p3:w.cell? ⟨b,o+3,none⟩=some (.int .i64 x.zW):=(HB0.out.cell HL.out).trans (HCC.out 3 _ rfl)
 have p4:w.cell? ⟨b,o+4,none⟩=some (.int .i64 x.zQ):=(HB0.out.cell HL.out).trans (HCC.out 4 _ rfl)
 have lb:b<w.heap.size:=Nat.lt_of_lt_of_le HL.out HB0.out.size
 go_enter Tryz.func206,Tryz.ntmps206
 by_cases q1:inB x.zO 0 5=true
 rotate_left
 ·have q1':inB x.zO 0 5=false:=(by simpa using q1)
  go_wp2_with (first|(go_at_call 74;refine(c_l00In _ _ _ _).mono ?_;rintro e w' ⟨rfl,rfl⟩)|(go_at_call 114;refine(c_l01Sample _ _).mono ?_;rintro e w' ⟨rfl,rfl⟩))
  go_ret
  exact⟨yF (yV fun h=>q1 h.source).symm,HB0.out⟩
 skip
 by_cases q2:inB x.zA 1 4000=true
 rotate_left
 ·have q2':inB x.zA 1 4000=false:=(by simpa using q2)
  go_wp2_with (first|(go_at_call 74;refine(c_l00In _ _ _ _).mono ?_;rintro e w' ⟨rfl,rfl⟩)|(go_at_call 114;refine(c_l01Sample _ _).mono ?_;rintro e w' ⟨rfl,rfl⟩))
  go_ret
  exact⟨yF (yV fun h=>q2 h.length).symm,HB0.out⟩
 have i2:=yY.1 q2
 by_cases q3:Smp x.zQ
 rotate_left
 ·have q3':decide (Smp x.zQ)=false:=decide_eq_false q3;have Q3:=hide q3;clear q3
  go_wp2_with (first|(go_at_call 74;refine(c_l00In _ _ _ _).mono ?_;rintro e w' ⟨rfl,rfl⟩)|(go_at_call 114;refine(c_l01Sample _ _).mono ?_;rintro e w' ⟨rfl,rfl⟩))
  go_ret
  exact⟨yF (yV fun h=>Q3.out h.gain).symm,HB0.out⟩
 have q3':decide (Smp x.zQ)=true:=decide_eq_true q3;have Q3:=hide q3;clear q3
 by_cases q4:inB x.zI 0 (4000 - x.zA)=true
 rotate_left
 ·have q4':inB x.zI 0 (4000 - x.zA)=false:=(by simpa using q4)
  go_wp2_with (first|(go_at_call 74;refine(c_l00In _ _ _ _).mono ?_;rintro e w' ⟨rfl,rfl⟩)|(go_at_call 114;refine(c_l01Sample _ _).mono ?_;rintro e w' ⟨rfl,rfl⟩))
  have g0:=yD p0
  have g1:=yD p1
  have g2:=yD p2
  have g3:=yD p3
  have g4:=yD p4
  refine yZ (by kernel_rfl) (by kernel_rfl) ?_
  repeat(first|go_big_quiet_skip|(go_big_quiet_want;go_big_quiet_op;first|go_big_quiet_on|(apply Exists.intro;refine⟨fun _=>?_,?_⟩;(· ((go_at_call 74;exact Calls.yH ((c_l00In _ _ _ _).mono (fun e w' h=>by(first|rw[q4'] at h|skip);exact h)))));go_big_quiet_on)))
  refine wpQuiet_nil ?_
  rintro w9 ⟨uu,rfl⟩
  have hb9:=yE w uu
  generalize bel w uu=w9 at *
  have HB9:=hide (yG HB0.out HB0.out.size hb9);clear g0 g1 g2 g3 g4
  go_wp2
  go_ret
  exact⟨yF (yV fun h=>q4 h.from_).symm,HB9.out⟩
 by_cases q5:inB x.zW 0 (4000 - x.zA)=true
 rotate_left
 ·have q5':inB x.zW 0 (4000 - x.zA)=false:=(by simpa using q5)
  go_wp2_with (first|(go_at_call 74;refine(c_l00In _ _ _ _).mono ?_;rintro e w' ⟨rfl,rfl⟩)|(go_at_call 114;refine(c_l01Sample _ _).mono ?_;rintro e w' ⟨rfl,rfl⟩))
  have g0:=yD p0
  have g1:=yD p1
  have g2:=yD p2
  have g3:=yD p3
  have g4:=yD p4
  refine yZ (by kernel_rfl) (by kernel_rfl) ?_
  repeat(first|go_big_quiet_skip|(go_big_quiet_want;go_big_quiet_op;first|go_big_quiet_on|(apply Exists.intro;refine⟨fun _=>?_,?_⟩;(· ((go_at_call 74;exact Calls.yH ((c_l00In _ _ _ _).mono (fun e w' h=>by(first|rw[q4] at h|rw[q5'] at h|skip);exact h)))));go_big_quiet_on)))
  refine wpQuiet_nil ?_
  rintro w9 ⟨uu,rfl⟩
  have hb9:=yE w uu
  generalize bel w uu=w9 at *
  have HB9:=hide (yG HB0.out HB0.out.size hb9);clear g0 g1 g2 g3 g4
  go_wp2
  go_ret
  exact⟨yF (yV fun h=>q5 h.at_).symm,HB9.out⟩
 go_wp2_with (first|(go_at_call 74;refine(c_l00In _ _ _ _).mono ?_;rintro e w' ⟨rfl,rfl⟩)|(go_at_call 114;refine(c_l01Sample _ _).mono ?_;rintro e w' ⟨rfl,rfl⟩))
 have g0:=yD p0
 have g1:=yD p1
 have g2:=yD p2
 have g3:=yD p3
 have g4:=yD p4
 refine yZ (by kernel_rfl) (by kernel_rfl) ?_
 repeat(first|go_big_quiet_skip|(go_big_quiet_want;go_big_quiet_op;first|go_big_quiet_on|(apply Exists.intro;refine⟨fun _=>?_,?_⟩;(· ((go_at_call 74;exact Calls.yH ((c_l00In _ _ _ _).mono (fun e w' h=>by(first|rw[q4] at h|rw[q5] at h|skip);exact h)))));go_big_quiet_on)))
 refine wpQuiet_nil ?_
 rintro w9 ⟨uu,rfl⟩
 have hb9:=yE w uu
 generalize bel w uu=w9 at *
 have HB9:=hide (yG HB0.out HB0.out.size hb9);clear g0 g1 g2 g3 g4
 go_wp2
 go_ret
 exact⟨yF (yW ⟨q1,q2,q4,q5,Q3.out⟩).symm,HB9.out⟩
theorem c_l23Ok (x:GTrack) (b o:Nat) (w:World) (h:T.at w x.fs b o):Calls Tryz.prog 178 #[.pointer (some ⟨b,o,none⟩)] w fun e w'=>e= .returned (.bool (tf (TrackOk x)))∧Below w.heap.size w w':=by
 have HAT:=hide h
 obtain⟨hlt0,cs,hr,hc⟩:=h
 obtain⟨v0,rfl,h0⟩:=GTrack.yL hr
 clear hr
 have R0:=hide h0;obtain⟨va0,vc0,rfl,vl0,vm0,vx0⟩:=T.yK h0
 have HX0:=hide vx0;clear vx0 h0
 have HL:=hide hlt0;have HCC:=hide hc;have HB0:=hide (Below.refl w.heap.size w);clear hlt0 hc
 have p0:w.cell? ⟨b,o,none⟩=some (.slice va0 x.zL.length vc0):=(HB0.out.cell HL.out).trans (HCC.out 0 _ rfl)
 have lb:b<w.heap.size:=Nat.lt_of_lt_of_le HL.out HB0.out.size
 go_enter Tryz.func178,Tryz.ntmps178
 go_wp2
 clear p0 lb
 go_loopw [3] (fun i wr=> ∃ k:Nat,k≤x.zL.length∧i= .int .i64 k∧Upto x.zL (fun i c=>ClipOk c∧ ∀ p,0<i→x.zL[i - 1]?=some p→p.zW≤c.zW) k∧Below w.heap.size w wr) (fun i _=>x.zL.length - (intOf i).toNat)
 case atStart=>exact⟨0,Nat.zero_le _,rfl,Upto.zero,Below.refl _ _⟩
 case round=>
  obtain⟨k,hk,rfl,hs,hbw⟩:=hrel
  have HS:=hide hs;have HW:=hide hbw;have HB:=hide (yG HB0.out HB0.out.size hbw);clear hs hbw
  have p0:wr.cell? ⟨b,o,none⟩=some (.slice va0 x.zL.length vc0):=(HB.out.cell HL.out).trans (HCC.out 0 _ rfl)
  have lb:b<wr.heap.size:=Nat.lt_of_lt_of_le HL.out HB.out.size
  by_cases hlt:k<x.zL.length
  rotate_left
  ·have hall:=hide (HS.out.all (by omega));clear HS
   by_cases h12:x.zL.length≤12
   ·go_wp2
    go_ret
    exact⟨yF (by rw[yW ⟨hall.out,h12⟩];exact decide_eq_true (by omega)),HB.out⟩
   ·go_wp2
    go_ret
    exact⟨yF (by rw[yV fun h=>h12 h.few];exact decide_eq_false (by omega)),HB.out⟩
  have hgk:=List.getElem?_eq_getElem hlt
  obtain⟨b1,off,csy,hA,hb1,hcs,hcell⟩:=HX0.out k x.zL[k] hgk
  subst hA
  generalize x.zL[k]=y at *
  have HG:=hide hgk;clear hgk
  have HAy:=hide (T.at_elem (o:=off+k * 5) hb1 (show T.rds w y.fs csy by simpa only[GClip.t,T.rd] using hcs) hcell (by omega));clear hcs hcell
  have n1:((k:Int)<(x.zL.length:Int)):=by omega
  by_cases hk0:k=0
  ·have g0':decide (0<k)=false:=decide_eq_false (by omega)
   have K0:=hide hk0;clear hk0
   by_cases q1:ClipOk y
   ·have a1:=yW q1;have Q1:=hide q1;clear q1
    go_wp2
    have g0:=yD p0
    refine yZ (by kernel_rfl) (by kernel_rfl) ?_
    repeat(first|go_big_quiet_skip|(go_big_quiet_want;go_big_quiet_op;first|go_big_quiet_on|(apply Exists.intro;refine⟨fun _=>?_,?_⟩;(· (go_at_call 206;exact Calls.yI ((c_l23Clip y _ _ _ (T.at_below HAy.out (yG HB.out HB.out.size (yE wr _)))).mono (fun e w' h=>by rw[a1] at h;exact h))));go_big_quiet_on)))
    refine wpQuiet_nil ?_
    rintro w9 ⟨uu,rfl⟩
    have hb9:=yE wr uu
    generalize bel wr uu=w9 at *
    have HB9:=hide (yG HB.out HB.out.size hb9);clear g0
    have HW9:=hide (yG HW.out HW.out.size hb9);clear hb9
    go_wp2
    go_roundw
    case rel=>exact⟨k+1,by omega,by go_num,HS.out.step HG.out ⟨Q1.out,fun p h=>by have:=K0.out;omega⟩,HW9.out⟩
    case measure=>simp[intOf];omega
   ·have a1:=yV q1;have Q1:=hide q1;clear q1
    go_wp2
    have g0:=yD p0
    refine yZ (by kernel_rfl) (by kernel_rfl) ?_
    repeat(first|go_big_quiet_skip|(go_big_quiet_want;go_big_quiet_op;first|go_big_quiet_on|(apply Exists.intro;refine⟨fun _=>?_,?_⟩;(· (go_at_call 206;exact Calls.yI ((c_l23Clip y _ _ _ (T.at_below HAy.out (yG HB.out HB.out.size (yE wr _)))).mono (fun e w' h=>by rw[a1] at h;exact h))));go_big_quiet_on)))
    refine wpQuiet_nil ?_
    rintro w9 ⟨uu,rfl⟩
    have hb9:=yE wr uu
    generalize bel wr uu=w9 at *
    have HB9:=hide (yG HB.out HB.out.size hb9);clear g0
    have HW9:=hide (yG HW.out HW.out.size hb9);clear hb9
    go_wp2
    go_ret
    exact⟨yF (yV fun h=>Q1.out (h.clips k y HG.out).1).symm,HB9.out⟩
  obtain⟨j,rfl⟩: ∃ j,k=j+1:=⟨k - 1,by omega⟩
  clear hk0
  have hltj:j<x.zL.length:=by omega
  have hgk:=List.getElem?_eq_getElem hltj
  obtain⟨b2,off2,csz,hA,hb2,hcs,hcell⟩:=HX0.out j x.zL[j] hgk
  obtain⟨rfl,rfl⟩:b1=b2∧off=off2:=by injection hA with hA;injection hA with e1 e2;exact⟨e1,e2⟩
  clear hA
  generalize x.zL[j]=z at *
  have HJ:=hide hgk;clear hgk
  have HAz:=hide (T.at_elem (o:=off+j * 5) hb2 (show T.rds w z.fs csz by simpa only[GClip.t,T.rd] using hcs) hcell (by omega));clear hcs hcell
  obtain⟨_,csy',hry,hcy⟩:=HAy.out
  obtain rfl:=GClip.yL hry
  have cy3:wr.cell? ⟨b1,off+(j+1) * 5+3,none⟩=some (.int .i64 y.zW):=(HB.out.cell hb1).trans (hcy 3 _ rfl)
  obtain⟨_,csz',hrz,hcz⟩:=HAz.out
  obtain rfl:=GClip.yL hrz
  have cz3:wr.cell? ⟨b1,off+j * 5+3,none⟩=some (.int .i64 z.zW):=(HB.out.cell hb1).trans (hcz 3 _ rfl)
  clear hry hcy hrz hcz
  have e1:IntKind.i64.wrap ((j:Int)+1 - 1)=(j:Int):=by rw[IntWalk.i64_in _ (by omega)];omega
  have e2:IntKind.i64.wrap (j:Int)=(j:Int):=IntWalk.i64_in _ (by omega)
  have n0:(0:Int)≤(j:Int):=by omega
  have n2:((j:Int)<(x.zL.length:Int)):=by omega
  have n3:((j:Int)+1<(x.zL.length:Int)):=by omega
  have n4:(0:Int)≤(j:Int)+1:=by omega
  by_cases q1:ClipOk y
  rotate_left
  ·have a1:=yV q1;have Q1:=hide q1;clear q1
   go_wp2
   have g0:=yD p0
   have g1:=yD cy3
   have g2:=yD cz3
   refine yZ (by kernel_rfl) (by kernel_rfl) ?_
   repeat(first|go_big_quiet_skip|(go_big_quiet_want;go_big_quiet_op;first|go_big_quiet_on|(apply Exists.intro;refine⟨fun _=>?_,?_⟩;(· (go_at_call 206;exact Calls.yI ((c_l23Clip y _ _ _ (T.at_below HAy.out (yG HB.out HB.out.size (yE wr _)))).mono (fun e w' h=>by rw[a1] at h;exact h))));go_big_quiet_on)))
   refine wpQuiet_nil ?_
   rintro w9 ⟨uu,rfl⟩
   have hb9:=yE wr uu
   generalize bel wr uu=w9 at *
   have HB9:=hide (yG HB.out HB.out.size hb9);clear g0 g1 g2
   have HW9:=hide (yG HW.out HW.out.size hb9);clear hb9
   go_wp2
   go_ret
   exact⟨yF (yV fun h=>Q1.out (h.clips (j+1) y HG.out).1).symm,HB9.out⟩
  have a1:=yW q1;have Q1:=hide q1;clear q1
  by_cases q2:y.zW<z.zW
  ·have q2':decide (y.zW<z.zW)=true:=decide_eq_true q2;have Q2:=hide q2
   go_wp2
   have g0:=yD p0
   have g1:=yD cy3
   have g2:=yD cz3
   refine yZ (by kernel_rfl) (by kernel_rfl) ?_
   repeat(first|go_big_quiet_skip|(go_big_quiet_want;go_big_quiet_op;first|go_big_quiet_on|(apply Exists.intro;refine⟨fun _=>?_,?_⟩;(· (go_at_call 206;exact Calls.yI ((c_l23Clip y _ _ _ (T.at_below HAy.out (yG HB.out HB.out.size (yE wr _)))).mono (fun e w' h=>by rw[a1] at h;exact h))));go_big_quiet_on)))
   refine wpQuiet_nil ?_
   rintro w9 ⟨uu,rfl⟩
   have hb9:=yE wr uu
   generalize bel wr uu=w9 at *
   have HB9:=hide (yG HB.out HB.out.size hb9);clear g0 g1 g2
   have HW9:=hide (yG HW.out HW.out.size hb9);clear hb9
   go_wp2
   go_ret
   exact⟨yF (yV fun h=>by have:=(h.clips (j+1) y HG.out).2 z (by omega) HJ.out;have:=Q2.out;omega).symm,HB9.out⟩
  have q2':decide (y.zW<z.zW)=false:=decide_eq_false q2
  go_wp2
  have g0:=yD p0
  have g1:=yD cy3
  have g2:=yD cz3
  refine yZ (by kernel_rfl) (by kernel_rfl) ?_
  repeat(first|go_big_quiet_skip|(go_big_quiet_want;go_big_quiet_op;first|go_big_quiet_on|(apply Exists.intro;refine⟨fun _=>?_,?_⟩;(· (go_at_call 206;exact Calls.yI ((c_l23Clip y _ _ _ (T.at_below HAy.out (yG HB.out HB.out.size (yE wr _)))).mono (fun e w' h=>by rw[a1] at h;exact h))));go_big_quiet_on)))
  refine wpQuiet_nil ?_
  rintro w9 ⟨uu,rfl⟩
  have hb9:=yE wr uu
  generalize bel wr uu=w9 at *
  have HB9:=hide (yG HB.out HB.out.size hb9);clear g0 g1 g2
  have HW9:=hide (yG HW.out HW.out.size hb9);clear hb9
  go_wp2
  go_roundw
  case rel=>exact⟨j+1+1,by omega,by go_num,HS.out.step HG.out ⟨Q1.out,fun p _ hp=>by rw[Nat.add_sub_cancel,HJ.out] at hp;injection hp with hp;subst hp;omega⟩,HW9.out⟩
  case measure=>simp[intOf];omega
theorem c_sValidTrack (x:GTrack) (cs:List Value) (w:World) (h:T.rds w x.fs cs):Calls Tryz.prog 138 #[.agg cs.toArray] w fun e w'=>e= .returned (.bool (tf (TrackOk x)))∧Below w.heap.size w w':=by
 obtain⟨v0,rfl,h0⟩:=GTrack.yL h
 clear h
 have R0:=hide h0;obtain⟨va0,vc0,rfl,vl0,vm0,vx0⟩:=T.yK h0
 have HX0:=hide vx0;clear vx0 h0
 have HB0:=hide (show Below w.heap.size w (w.alloc (.cells #[(.slice va0 x.zL.length vc0)] 126)) from(Below.refl _ _).alloc (Nat.le_refl _) _)
 have HK0:=hide (Bk.born w 126 #[(.slice va0 x.zL.length vc0)])
 go_enter Tryz.func138,Tryz.ntmps138
 go_wp2_with fail
 refine(c_l23Ok x _ _ _ (T.at_bk HK0.out (GTrack.rd_mk (T.yC R0.out HB0.out)))).mono ?_;rintro e w1 ⟨rfl,hd⟩
 have H1:=hide (yG HB0.out HB0.out.size hd);clear hd
 go_wp2
 go_ret
 exact⟨rfl,H1.out⟩
theorem c_l27Track (x:GTrack) (b o:Nat) (n:Int) (w:World) (n0:0≤n) (n1:n≤1048576) (h:T.at w x.fs b o):Calls Tryz.prog 76 #[.pointer (some ⟨b,o,none⟩),.int .i64 n] w fun e w'=>e= .returned (.bool (tf (TrackOk x∧Each x.zL fun _ c=>c.zO<n)))∧Below w.heap.size w w':=by
 have HAT:=hide h
 obtain⟨hlt0,cs,hr,hc⟩:=h
 obtain⟨v0,rfl,h0⟩:=GTrack.yL hr
 clear hr
 have R0:=hide h0;obtain⟨va0,vc0,rfl,vl0,vm0,vx0⟩:=T.yK h0
 have HX0:=hide vx0;clear vx0 h0
 have HL:=hide hlt0;have HCC:=hide hc;have HB0:=hide (Below.refl w.heap.size w);clear hlt0 hc
 have p0:w.cell? ⟨b,o,none⟩=some (.slice va0 x.zL.length vc0):=(HB0.out.cell HL.out).trans (HCC.out 0 _ rfl)
 have lb:b<w.heap.size:=Nat.lt_of_lt_of_le HL.out HB0.out.size
 go_enter Tryz.func76,Tryz.ntmps76
 go_wp2
 clear p0 lb
 go_loopw [5] (fun i wr=> ∃ k:Nat,k≤x.zL.length∧i= .int .i64 k∧Upto x.zL (fun _ c=>inB c.zO 0 (n - 1)=true) k∧Below w.heap.size w wr) (fun i _=>x.zL.length - (intOf i).toNat)
 case atStart=>exact⟨0,Nat.zero_le _,rfl,Upto.zero,Below.refl _ _⟩
 case round=>
  obtain⟨k,hk,rfl,hs,hbw⟩:=hrel
  have HS:=hide hs;have HW:=hide hbw;have HB:=hide (yG HB0.out HB0.out.size hbw);clear hs hbw
  have p0:wr.cell? ⟨b,o,none⟩=some (.slice va0 x.zL.length vc0):=(HB.out.cell HL.out).trans (HCC.out 0 _ rfl)
  have lb:b<wr.heap.size:=Nat.lt_of_lt_of_le HL.out HB.out.size
  by_cases hlt:k<x.zL.length
  rotate_left
  ·have hall:=hide (HS.out.all (by omega));clear HS
   go_wp2_with fail
   refine(c_sValidTrack x _ _ (GTrack.rd_mk (T.yC R0.out HB.out))).mono ?_;rintro e w2 ⟨rfl,hb2⟩
   have H2:=hide (yG HB.out HB.out.size hb2);clear hb2
   go_wp2
   go_ret
   exact⟨yF (tf_iff ⟨fun h=>⟨h,fun i c hc=>by have:=yY.1 (hall.out i c hc);omega⟩,fun h=>h.1⟩),H2.out⟩
  have hgk:=List.getElem?_eq_getElem hlt
  obtain⟨b1,off,csy,hA,hb1,hcs,hcell⟩:=HX0.out k x.zL[k] hgk
  subst hA
  generalize x.zL[k]=y at *
  have HG:=hide hgk;clear hgk
  have HAy:=hide (T.at_elem (o:=off+k * 5) hb1 (show T.rds w y.fs csy by simpa only[GClip.t,T.rd] using hcs) hcell (by omega));clear hcs hcell
  obtain⟨_,csy',hry,hcy⟩:=HAy.out
  obtain rfl:=GClip.yL hry
  have cy0:wr.cell? ⟨b1,off+k * 5,none⟩=some (.int .i64 y.zO):=(HB.out.cell hb1).trans (hcy 0 _ rfl)
  have hq1:b1<wr.heap.size:=Nat.lt_of_lt_of_le hb1 HB.out.size
  clear hry hcy
  by_cases q1:inB y.zO 0 (n - 1)=true
  rotate_left
  ·have q1':inB y.zO 0 (n - 1)=false:=(by simpa using q1)
   go_wp2_with (go_at_call 74;refine(c_l00In _ _ _ _).mono ?_;rintro e w' ⟨rfl,rfl⟩)
   go_ret
   exact⟨yF (yV fun h=>by have h1:=(h.1.clips k y HG.out).1.source;have h2:=h.2 k y HG.out;exact q1 (yY.2 ⟨(yY.1 h1).1,by omega⟩)).symm,HB.out⟩
  go_wp2_with (go_at_call 74;refine(c_l00In _ _ _ _).mono ?_;rintro e w' ⟨rfl,rfl⟩)
  go_roundw
  case rel=>exact⟨k+1,by omega,by go_num,HS.out.step HG.out q1,HW.out⟩
  case measure=>simp[intOf];omega
theorem c_sl01Small (x:Nat) (w:World):Calls Tryz.prog 224 #[.int .u8 (x:Int)] w fun e w'=>e= .returned (.bool (decide (97≤x∧x≤122)))∧w=w':=by
 by_cases h:97≤x
 all_goals
  go_enter Tryz.func224,Tryz.ntmps224
  go_wp2
  go_ret
  exact⟨yF (by by_cases h2:x≤122<;>first|rfl|(simp[h,h2];done)|(simp[h,h2];omega)),rfl⟩
theorem c_sl01Digit (x:Nat) (w:World):Calls Tryz.prog 225 #[.int .u8 (x:Int)] w fun e w'=>e= .returned (.bool (decide (48≤x∧x≤57)))∧w=w':=by
 by_cases h:48≤x
 all_goals
  go_enter Tryz.func225,Tryz.ntmps225
  go_wp2
  go_ret
  exact⟨yF (by by_cases h2:x≤57<;>first|rfl|(simp[h,h2];done)|(simp[h,h2];omega)),rfl⟩
theorem ne_of_size {s:ByteArray} (h:1≤s.size):s.toList.isEmpty=false:=by
 rw[toList_eq]
 have hl:s.data.toList.length=s.size:=by rw[Array.length_toList];rfl
 generalize s.data.toList=l at *
 cases l with
 |nil=>simp at hl;omega
 |cons a t=>rfl
theorem c_sIsName (s:ByteArray) (w:World):Calls Tryz.prog 191 #[.string s] w fun e w'=>e= .returned (.bool (tf (NameOk s)))∧w=w':=by
 by_cases h1:1≤s.size
 rotate_left
 ·have hs:s=ByteArray.empty:=by apply ByteArray.ext;apply Array.toList_inj.1;apply List.eq_nil_of_length_eq_zero;rw[Array.length_toList];have:s.data.size=s.size:=rfl;omega
  subst hs
  go_enter Tryz.func191,Tryz.ntmps191
  go_wp2
  go_ret
  exact⟨yF (yV fun h=>h1 h.some_).symm,rfl⟩
 have hne:=ne_of_size h1
 have HNE:=hide hne
 by_cases h2:s.size≤10
 rotate_left
 ·go_enter Tryz.func191,Tryz.ntmps191
  go_wp2
  go_ret
  exact⟨yF (yV fun h=>h2 h.few).symm,rfl⟩
 have hg0:=bA_get (s:=s) (n:=0) (by omega)
 have hb0:=bA_lt s 0
 by_cases h3:97≤bA s 0∧bA s 0≤122
 rotate_left
 ·have d0:decide (97≤bA s 0∧bA s 0≤122)=false:=decide_eq_false h3
  have H3:=hide h3;clear h3
  go_enter Tryz.func191,Tryz.ntmps191
  go_wp2_with (first|(go_at_call 224;refine(c_sl01Small _ _).mono ?_;rintro e w' ⟨rfl,rfl⟩)|(go_at_call 225;refine(c_sl01Digit _ _).mono ?_;rintro e w' ⟨rfl,rfl⟩))
  go_ret
  exact⟨yF (yV fun h=>by rcases h.each 0 (by omega) with h|h<;>(simp only[smallN,digitN] at h;have:=H3.out;omega)).symm,rfl⟩
 have d0:decide (97≤bA s 0∧bA s 0≤122)=true:=decide_eq_true h3
 have H3:=hide h3;clear h3
 go_enter Tryz.func191,Tryz.ntmps191
 go_wp2_with (first|(go_at_call 224;refine(c_sl01Small _ _).mono ?_;rintro e w' ⟨rfl,rfl⟩)|(go_at_call 225;refine(c_sl01Digit _ _).mono ?_;rintro e w' ⟨rfl,rfl⟩))
 go_loop [3] (fun i=> ∃ k:Nat,k≤s.size∧i= .int .i64 k∧ ∀ i,i<k→smallN (bA s i)∨digitN (bA s i)) (fun i=>s.size - (intOf i).toNat)
 case atStart=>exact⟨0,Nat.zero_le _,rfl,fun i h=>absurd h (by omega)⟩
 case round=>
  obtain⟨k,hk,rfl,hs⟩:=hrel
  have HS:=hide hs;clear hs hg0 hb0 d0
  by_cases hlt:k<s.size
  ·have hb:=bA_lt s k
   have hg:=bA_get hlt
   generalize hy:bA s k=y at *
   have HY:=hide hy;clear hy
   by_cases a1:97≤y∧y≤122
   ·have d1:decide (97≤y∧y≤122)=true:=decide_eq_true a1
    have A1:=hide a1;clear a1
    go_wp2_with (first|(go_at_call 224;refine(c_sl01Small _ _).mono ?_;rintro e w' ⟨rfl,rfl⟩)|(go_at_call 225;refine(c_sl01Digit _ _).mono ?_;rintro e w' ⟨rfl,rfl⟩))
    go_round
    case rel=>exact⟨k+1,by omega,by go_num,fun i hi=>by
     by_cases e:i=k
     ·subst e;rw[HY.out];exact .inl A1.out
     ·exact HS.out i (by omega)⟩
    case measure=>simp[intOf];omega
   ·have d1:decide (97≤y∧y≤122)=false:=decide_eq_false a1
    have A1:=hide a1;clear a1
    by_cases a2:48≤y∧y≤57
    ·have d2:decide (48≤y∧y≤57)=true:=decide_eq_true a2
     have A2:=hide a2;clear a2
     go_wp2_with (first|(go_at_call 224;refine(c_sl01Small _ _).mono ?_;rintro e w' ⟨rfl,rfl⟩)|(go_at_call 225;refine(c_sl01Digit _ _).mono ?_;rintro e w' ⟨rfl,rfl⟩))
     go_round
     case rel=>exact⟨k+1,by omega,by go_num,fun i hi=>by
      by_cases e:i=k
      ·subst e;rw[HY.out];exact .inr A2.out
      ·exact HS.out i (by omega)⟩
     case measure=>simp[intOf];omega
    ·have d2:decide (48≤y∧y≤57)=false:=decide_eq_false a2
     have A2:=hide a2;clear a2
     go_wp2_with (first|(go_at_call 224;refine(c_sl01Small _ _).mono ?_;rintro e w' ⟨rfl,rfl⟩)|(go_at_call 225;refine(c_sl01Digit _ _).mono ?_;rintro e w' ⟨rfl,rfl⟩))
     go_ret
     exact⟨yF (yV fun h=>by
      rcases h.each k hlt with h|h<;>rw[HY.out] at h<;>(simp only[smallN,digitN] at h;have:=A1.out;have:=A2.out;omega)).symm,rfl⟩
  ·go_wp2
   go_ret
   exact⟨yF (yW ⟨h1,h2,fun i hi=>by
    rcases HS.out i (by omega) with h|h
    ·exact .inl h
    ·by_cases e:i=0
     ·subst e;exact .inl H3.out
     ·exact .inr ⟨h,e⟩⟩).symm,rfl⟩
end Go.Proofs.YteiflbhcehajkaaGreat
end
section
namespace Go.Proofs.YteiflbhcehajkaaGreat
open Go.Lib
theorem decDigits_small {u:Nat} (h:u<10):decDigits u= [UInt8.ofNat (48+u)]:=by rw[decDigits,dif_pos h]
theorem decDigits_big {u:Nat} (h: ¬ u<10):decDigits u=decDigits (u / 10)++ [UInt8.ofNat (48+u % 10)]:=by rw[decDigits,dif_neg h]
/-- The digits that are there already, when a number is taken apart from behind. -/
def preD (u:Nat):List UInt8:=if u=0 then [] else decDigits u
theorem preD_step {u:Nat} (h:u≠0):preD u=preD (u / 10)++ [UInt8.ofNat (48+u % 10)]:=by
 unfold preD
 rw[if_neg h]
 by_cases h1:u<10
 ·rw[decDigits_small h1,if_pos (by omega)]
  have:u % 10=u:=by omega
  rw[this];rfl
 ·rw[decDigits_big h1,if_neg (by omega)]
theorem preD_len (k:Nat): ∀ u,u<10 ^ k→(preD u).length≤k:=by
 induction k with
 |zero=>
      intro u h;have:u=0:=by simpa using h
      subst this;simp[preD]
 |succ k ih=>
  intro u h
  by_cases h0:u=0
  ·subst h0;simp[preD]
  ·rw[preD_step h0,List.length_append]
   have:=ih (u / 10) (by rw[Nat.pow_succ] at h;omega)
   simp;omega
end Go.Proofs.YteiflbhcehajkaaGreat
end
section
namespace Go.Proofs.YteiflbhcehajkaaGreat
open Go.RowKit
/-- The text of a mark. -/
def mrkB (k:Nat):ByteArray:=mkS (109 :: preD k)
theorem str_of0 {w:World} {v:Value} {bs:List UInt8} (h:RdY w v bs):(convert 242 9 v).run Tryz.prog w= .ok (.string (mkS bs)) w:=
 run_str Tryz.underlying242 Tryz.underlying5 Tryz.underlying9 h
theorem byte_cell (n:Nat) (h:n<256) (w:World):RdY (w.alloc (.cells #[.int .u8 (n:Int)] 5)) (.slice (some ⟨w.heap.size,0,none⟩) 1 1) [UInt8.ofNat n]:=by
 have e1:((UInt8.ofNat n).toNat:Int)=(n:Int):=by rw[UInt8.toNat_ofNat_of_lt' (by exact h)]
 have:=World.ownsRow_lit (base:=w.heap.size) (e:=5) (size:=1) w #[.int .u8 (n:Int)] 1 (Nat.le_refl _) (by decide) rfl
 refine OwY.rd (E:=5) (B:=w.heap.size) ?_
 unfold OwY
 simp only[List.length_cons,List.length_nil,List.map_cons,List.map_nil,e1]
 exact this
theorem c_markText (k:Nat) (w:World) (h0:0<k) (hk:k≤4611686018427387904):Calls Tryz.prog 156 #[.int .i64 (k:Int)] w fun e w'=>e= .returned (.string (mrkB k))∧Below w.heap.size w w':=by
 have hkk: ¬ (k:Int)≤0:=by omega
 go_enter Tryz.func156,Tryz.ntmps156
 go_wp2
 go_loopw [0,3] (fun kv o wr=> ∃ (m:Nat) (l:List UInt8),m≤k∧kv= .int .i64 (m:Int)∧o= .string (mkS l)∧preD k=preD m++l∧Below w.heap.size w wr) (fun kv _ _=>(intOf kv).toNat)
 case atStart=>exact⟨k,[],Nat.le_refl _,rfl,rfl,by simp,Below.refl _ _⟩
 case round=>
  obtain⟨m,l,hm,rfl,rfl,hp,hb⟩:=hrel
  have hll:(mkS l).size≤19:=by have h1:=congrArg List.length hp;have h2:=preD_len 19 k (by omega);rw[List.length_append] at h1;rw[size_mkS];omega
  have HP:=hide hp;have HB:=hide hb;clear hp hb
  by_cases hz:0<m
  ·have hmod:(m:Int) % 10=((m % 10:Nat):Int):=by omega
   have hdiv:(m:Int) / 10=((m / 10:Nat):Int):=by omega
   have hd:m % 10<10:=Nat.mod_lt _ (by omega)
   have HS:=hide (preD_step (u:=m) (by omega))
   generalize hdd:m % 10=d at *
   have hq:m / 10<m:=by omega
   generalize hqq:m / 10=q at *
   have hcv: ∀ W:World,(convert 242 9 (.slice (some ⟨W.heap.size,0,none⟩) 1 1)).run Tryz.prog (W.alloc (.cells #[.int .u8 (48+(d:Int))] 5))= .ok (.string (mkS [UInt8.ofNat (48+d)])) (W.alloc (.cells #[.int .u8 (48+(d:Int))] 5)):=fun W=>str_of0 (byte_cell (48+d) (by omega) W)
   have happ:mkS [UInt8.ofNat (48+d)]++mkS l=mkS ([UInt8.ofNat (48+d)]++l):=mkS_append _ _
   generalize hcc:UInt8.ofNat (48+d)=c at *
   have h1s:(mkS [c]).size=1:=size_mkS _
   have HA:=hide happ;clear happ hcc
   clear hdd hqq
   go_wp2
   go_roundw
   case rel=>exact⟨q,[c]++l,by omega,by go_num,by rw[HA.out],by rw[HP.out,HS.out];simp,HB.out.alloc HB.out.size _⟩
   case measure=>simp[intOf];omega
  ·have hl:preD k=l:=by have:=HP.out;rw[this,show m=0 by omega];simp[preD]
   have hz2: ¬ (0:Int)<(m:Int):=by omega
   have happ:mkS [109]++mkS l=mrkB k:=by rw[mkS_append,mrkB,hl];rfl
   have HA:=hide happ;clear happ
   have h1s:(⟨#[109]⟩:ByteArray).size=1:=rfl
   go_wp2
   go_ret
   exact⟨ret_str (by rw[←HA.out];rfl),HB.out⟩
end Go.Proofs.YteiflbhcehajkaaGreat
end
