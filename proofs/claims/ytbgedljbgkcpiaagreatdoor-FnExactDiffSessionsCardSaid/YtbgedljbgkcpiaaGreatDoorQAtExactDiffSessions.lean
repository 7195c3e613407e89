/- Contracts: what is valid, by the reference: clips, tracks, names, mixers. -/
import Derived.Test.YtbgedljbgkcpiaaGreatDoorQAmExactDiffSessions
set_option linter.unusedVariables false
set_option linter.unusedSimpArgs false
set_option maxHeartbeats 2000000
set_option maxRecDepth 20000
namespace Go.Proofs.YtbgedljbgkcpiaaGreatDoor
open Go.RowKit
/-- A struct within a struct behind a pointer. -/
theorem T.at_sub {w:World} {fs:List T} {b o:Nat} (pre sub post:List Value) (hb:b<w.heap.size) (hc: ∀ j u,(pre++(sub++post))[j]?=some u→w.cell? ⟨b,o+j,none⟩=some u) (h:T.rds w fs sub):T.at w fs b (o+pre.length):=
 ⟨hb,sub,h,fun j u hj=>by
  have hl:=(List.getElem?_eq_some_iff.1 hj).1
  have:=hc (pre.length+j) u (by rw[List.getElem?_append_right (by omega),Nat.add_sub_cancel_left,List.getElem?_append_left hl];exact hj)
  rwa [←Nat.add_assoc] at this⟩
theorem c_l23Clip (x:GClip) (b o:Nat) (w:World) (h:T.at w x.fs b o):Calls Tryz.prog 161 #[.pointer (some ⟨b,o,none⟩)] w fun e w'=>e= .returned (.bool (tf (ClipOk x)))∧Below w.heap.size w w':=by
 have HAT:=hide h
 obtain⟨hlt0,cs,hr,hc⟩:=h
 obtain rfl:=GClip.yM hr
 clear hr
 have HL:=hide hlt0;have HCC:=hide hc;have HB0:=hide (Below.refl w.heap.size w);clear hlt0 hc
 have p0:w.cell? ⟨b,o,none⟩=some (.int .i64 x.zS):=(HB0.out.cell HL.out).trans (HCC.out 0 _ rfl)
 have p1:w.cell? ⟨b,o+1,none⟩=some (.int .i64 x.zG):=(HB0.out.cell HL.out).trans (HCC.out 1 _ rfl)
 have p2:w.cell? ⟨b,o+2,none⟩=some (.int .i64 x.zE):=(HB0.out.cell HL.out).trans (HCC.out 2 _ rfl)
 have p3:w.cell? ⟨b,o+3,none⟩=some (.int .i64 x.yB):=(HB0.out.cell HL.out).trans (HCC.out 3 _ rfl)
 have p4:w.cell? ⟨b,o+4,none⟩=some (.int .i64 x.zQ):=(HB0.out.cell HL.out).trans (HCC.out 4 _ rfl)
 have lb:b<w.heap.size:=Nat.lt_of_lt_of_le HL.out HB0.out.size
 go_enter Tryz.func161,Tryz.ntmps161
 by_cases q1:inB x.zS 0 5=true
 rotate_left
 ·have q1':inB x.zS 0 5=false:=(by simpa using q1)
  go_wp2_with (first|(go_at_call 47;refine(c_l00In _ _ _ _).mono ?_;rintro e w' ⟨rfl,rfl⟩)|(go_at_call 91;refine(c_l01Sample _ _).mono ?_;rintro e w' ⟨rfl,rfl⟩))
  go_ret
  exact⟨yG (yU fun h=>q1 h.source).symm,HB0.out⟩
 skip
 by_cases q2:inB x.zE 1 4000=true
 rotate_left
 ·have q2':inB x.zE 1 4000=false:=(by simpa using q2)
  go_wp2_with (first|(go_at_call 47;refine(c_l00In _ _ _ _).mono ?_;rintro e w' ⟨rfl,rfl⟩)|(go_at_call 91;refine(c_l01Sample _ _).mono ?_;rintro e w' ⟨rfl,rfl⟩))
  go_ret
  exact⟨yG (yU fun h=>q2 h.length).symm,HB0.out⟩
 have i2:=yX.1 q2
 by_cases q3:Smp x.zQ
 rotate_left
 ·have q3':decide (Smp x.zQ)=false:=decide_eq_false q3;have Q3:=hide q3;clear q3
  go_wp2_with (first|(go_at_call 47;refine(c_l00In _ _ _ _).mono ?_;rintro e w' ⟨rfl,rfl⟩)|(go_at_call 91;refine(c_l01Sample _ _).mono ?_;rintro e w' ⟨rfl,rfl⟩))
  go_ret
  exact⟨yG (yU fun h=>Q3.out h.gain).symm,HB0.out⟩
 have q3':decide (Smp x.zQ)=true:=decide_eq_true q3;have Q3:=hide q3;clear q3
 by_cases q4:inB x.zG 0 (4000 - x.zE)=true
 rotate_left
 ·have q4':inB x.zG 0 (4000 - x.zE)=false:=(by simpa using q4)
  go_wp2_with (first|(go_at_call 47;refine(c_l00In _ _ _ _).mono ?_;rintro e w' ⟨rfl,rfl⟩)|(go_at_call 91;refine(c_l01Sample _ _).mono ?_;rintro e w' ⟨rfl,rfl⟩))
  have g0:=yE p0
  have g1:=yE p1
  have g2:=yE p2
  have g3:=yE p3
  have g4:=yE p4
  refine yY (by kernel_rfl) (by kernel_rfl) ?_
  repeat(first|go_big_quiet_skip|(go_big_quiet_want;go_big_quiet_op;first|go_big_quiet_on|(apply Exists.intro;refine⟨fun _=>?_,?_⟩;(· ((go_at_call 47;exact Calls.yI ((c_l00In _ _ _ _).mono (fun e w' h=>by(first|rw[q4'] at h|skip);exact h)))));go_big_quiet_on)))
  refine wpQuiet_nil ?_
  rintro w9 ⟨uu,rfl⟩
  have hb9:=yF w uu
  generalize bel w uu=w9 at *
  have HB9:=hide (yH HB0.out HB0.out.size hb9);clear g0 g1 g2 g3 g4
  go_wp2
  go_ret
  exact⟨yG (yU fun h=>q4 h.from_).symm,HB9.out⟩
 by_cases q5:inB x.yB 0 (4000 - x.zE)=true
 rotate_left
 ·have q5':inB x.yB 0 (4000 - x.zE)=false:=(by simpa using q5)
  go_wp2_with (first|(go_at_call 47;refine(c_l00In _ _ _ _).mono ?_;rintro e w' ⟨rfl,rfl⟩)|(go_at_call 91;refine(c_l01Sample _ _).mono ?_;rintro e w' ⟨rfl,rfl⟩))
  have g0:=yE p0
  have g1:=yE p1
  have g2:=yE p2
  have g3:=yE p3
  have g4:=yE p4
  refine yY (by kernel_rfl) (by kernel_rfl) ?_
  repeat(first|go_big_quiet_skip|(go_big_quiet_want;go_big_quiet_op;first|go_big_quiet_on|(apply Exists.intro;refine⟨fun _=>?_,?_⟩;(· ((go_at_call 47;exact Calls.yI ((c_l00In _ _ _ _).mono (fun e w' h=>by(first|rw[q4] at h|rw[q5'] at h|skip);exact h)))));go_big_quiet_on)))
  refine wpQuiet_nil ?_
  rintro w9 ⟨uu,rfl⟩
  have hb9:=yF w uu
  generalize bel w uu=w9 at *
  have HB9:=hide (yH HB0.out HB0.out.size hb9);clear g0 g1 g2 g3 g4
  go_wp2
  go_ret
  exact⟨yG (yU fun h=>q5 h.at_).symm,HB9.out⟩
 go_wp2_with (first|(go_at_call 47;refine(c_l00In _ _ _ _).mono ?_;rintro e w' ⟨rfl,rfl⟩)|(go_at_call 91;refine(c_l01Sample _ _).mono ?_;rintro e w' ⟨rfl,rfl⟩))
 have g0:=yE p0
 have g1:=yE p1
 have g2:=yE p2
 have g3:=yE p3
 have g4:=yE p4
 refine yY (by kernel_rfl) (by kernel_rfl) ?_
 repeat(first|go_big_quiet_skip|(go_big_quiet_want;go_big_quiet_op;first|go_big_quiet_on|(apply Exists.intro;refine⟨fun _=>?_,?_⟩;(· ((go_at_call 47;exact Calls.yI ((c_l00In _ _ _ _).mono (fun e w' h=>by(first|rw[q4] at h|rw[q5] at h|skip);exact h)))));go_big_quiet_on)))
 refine wpQuiet_nil ?_
 rintro w9 ⟨uu,rfl⟩
 have hb9:=yF w uu
 generalize bel w uu=w9 at *
 have HB9:=hide (yH HB0.out HB0.out.size hb9);clear g0 g1 g2 g3 g4
 go_wp2
 go_ret
 exact⟨yG (yV ⟨q1,q2,q4,q5,Q3.out⟩).symm,HB9.out⟩
theorem c_l23Ok (x:GTrack) (b o:Nat) (w:World) (h:T.at w x.fs b o):Calls Tryz.prog 127 #[.pointer (some ⟨b,o,none⟩)] w fun e w'=>e= .returned (.bool (tf (TrackOk x)))∧Below w.heap.size w w':=by
 have HAT:=hide h
 obtain⟨hlt0,cs,hr,hc⟩:=h
 obtain⟨v0,rfl,h0⟩:=GTrack.yM hr
 clear hr
 have R0:=hide h0;obtain⟨va0,vc0,rfl,vl0,vm0,vx0⟩:=T.yL h0
 have HX0:=hide vx0;clear vx0 h0
 have HL:=hide hlt0;have HCC:=hide hc;have HB0:=hide (Below.refl w.heap.size w);clear hlt0 hc
 have p0:w.cell? ⟨b,o,none⟩=some (.slice va0 x.zR.length vc0):=(HB0.out.cell HL.out).trans (HCC.out 0 _ rfl)
 have lb:b<w.heap.size:=Nat.lt_of_lt_of_le HL.out HB0.out.size
 go_enter Tryz.func127,Tryz.ntmps127
 go_wp2
 clear p0 lb
 go_loopw [3] (fun i wr=> ∃ k:Nat,k≤x.zR.length∧i= .int .i64 k∧Upto x.zR (fun i c=>ClipOk c∧ ∀ p,0<i→x.zR[i - 1]?=some p→p.yB≤c.yB) k∧Below w.heap.size w wr) (fun i _=>x.zR.length - (intOf i).toNat)
 case atStart=>exact⟨0,Nat.zero_le _,rfl,Upto.zero,Below.refl _ _⟩
 case round=>
  obtain⟨k,hk,rfl,hs,hbw⟩:=hrel
  have HS:=hide hs;have HW:=hide hbw;have HB:=hide (yH HB0.out HB0.out.size hbw);clear hs hbw
  have p0:wr.cell? ⟨b,o,none⟩=some (.slice va0 x.zR.length vc0):=(HB.out.cell HL.out).trans (HCC.out 0 _ rfl)
  have lb:b<wr.heap.size:=Nat.lt_of_lt_of_le HL.out HB.out.size
  by_cases hlt:k<x.zR.length
  rotate_left
  ·have hall:=hide (HS.out.all (by omega));clear HS
   by_cases h12:x.zR.length≤12
   ·go_wp2
    go_ret
    exact⟨yG (by rw[yV ⟨hall.out,h12⟩];exact decide_eq_true (by omega)),HB.out⟩
   ·go_wp2
    go_ret
    exact⟨yG (by rw[yU fun h=>h12 h.few];exact decide_eq_false (by omega)),HB.out⟩
  have hgk:=List.getElem?_eq_getElem hlt
  obtain⟨b1,off,csy,hA,hb1,hcs,hcell⟩:=HX0.out k x.zR[k] hgk
  subst hA
  generalize x.zR[k]=y at *
  have HG:=hide hgk;clear hgk
  have HAy:=hide (T.at_elem (o:=off+k * 5) hb1 (show T.rds w y.fs csy by simpa only[GClip.t,T.rd] using hcs) hcell (by omega));clear hcs hcell
  have n1:((k:Int)<(x.zR.length:Int)):=by omega
  by_cases hk0:k=0
  ·have g0':decide (0<k)=false:=decide_eq_false (by omega)
   have K0:=hide hk0;clear hk0
   by_cases q1:ClipOk y
   ·have a1:=yV q1;have Q1:=hide q1;clear q1
    go_wp2
    have g0:=yE p0
    refine yY (by kernel_rfl) (by kernel_rfl) ?_
    repeat(first|go_big_quiet_skip|(go_big_quiet_want;go_big_quiet_op;first|go_big_quiet_on|(apply Exists.intro;refine⟨fun _=>?_,?_⟩;(· (go_at_call 161;exact Calls.yJ ((c_l23Clip y _ _ _ (T.at_below HAy.out (yH HB.out HB.out.size (yF wr _)))).mono (fun e w' h=>by rw[a1] at h;exact h))));go_big_quiet_on)))
    refine wpQuiet_nil ?_
    rintro w9 ⟨uu,rfl⟩
    have hb9:=yF wr uu
    generalize bel wr uu=w9 at *
    have HB9:=hide (yH HB.out HB.out.size hb9);clear g0
    have HW9:=hide (yH HW.out HW.out.size hb9);clear hb9
    go_wp2
    go_roundw
    case rel=>exact⟨k+1,by omega,by go_num,HS.out.step HG.out ⟨Q1.out,fun p h=>by have:=K0.out;omega⟩,HW9.out⟩
    case measure=>simp[intOf];omega
   ·have a1:=yU q1;have Q1:=hide q1;clear q1
    go_wp2
    have g0:=yE p0
    refine yY (by kernel_rfl) (by kernel_rfl) ?_
    repeat(first|go_big_quiet_skip|(go_big_quiet_want;go_big_quiet_op;first|go_big_quiet_on|(apply Exists.intro;refine⟨fun _=>?_,?_⟩;(· (go_at_call 161;exact Calls.yJ ((c_l23Clip y _ _ _ (T.at_below HAy.out (yH HB.out HB.out.size (yF wr _)))).mono (fun e w' h=>by rw[a1] at h;exact h))));go_big_quiet_on)))
    refine wpQuiet_nil ?_
    rintro w9 ⟨uu,rfl⟩
    have hb9:=yF wr uu
    generalize bel wr uu=w9 at *
    have HB9:=hide (yH HB.out HB.out.size hb9);clear g0
    have HW9:=hide (yH HW.out HW.out.size hb9);clear hb9
    go_wp2
    go_ret
    exact⟨yG (yU fun h=>Q1.out (h.clips k y HG.out).1).symm,HB9.out⟩
  obtain⟨j,rfl⟩: ∃ j,k=j+1:=⟨k - 1,by omega⟩
  clear hk0
  have hltj:j<x.zR.length:=by omega
  have hgk:=List.getElem?_eq_getElem hltj
  obtain⟨b2,off2,csz,hA,hb2,hcs,hcell⟩:=HX0.out j x.zR[j] hgk
  obtain⟨rfl,rfl⟩:b1=b2∧off=off2:=by injection hA with hA;injection hA with e1 e2;exact⟨e1,e2⟩
  clear hA
  generalize x.zR[j]=z at *
  have HJ:=hide hgk;clear hgk
  have HAz:=hide (T.at_elem (o:=off+j * 5) hb2 (show T.rds w z.fs csz by simpa only[GClip.t,T.rd] using hcs) hcell (by omega));clear hcs hcell
  obtain⟨_,csy',hry,hcy⟩:=HAy.out
  obtain rfl:=GClip.yM hry
  have cy3:wr.cell? ⟨b1,off+(j+1) * 5+3,none⟩=some (.int .i64 y.yB):=(HB.out.cell hb1).trans (hcy 3 _ rfl)
  obtain⟨_,csz',hrz,hcz⟩:=HAz.out
  obtain rfl:=GClip.yM hrz
  have cz3:wr.cell? ⟨b1,off+j * 5+3,none⟩=some (.int .i64 z.yB):=(HB.out.cell hb1).trans (hcz 3 _ rfl)
  clear hry hcy hrz hcz
  have e1:IntKind.i64.wrap ((j:Int)+1 - 1)=(j:Int):=by rw[IntWalk.i64_in _ (by omega)];omega
  have e2:IntKind.i64.wrap (j:Int)=(j:Int):=IntWalk.i64_in _ (by omega)
  have n0:(0:Int)≤(j:Int):=by omega
  have n2:((j:Int)<(x.zR.length:Int)):=by omega
  have n3:((j:Int)+1<(x.zR.length:Int)):=by omega
  have n4:(0:Int)≤(j:Int)+1:=by omega
  by_cases q1:ClipOk y
  rotate_left
  ·have a1:=yU q1;have Q1:=hide q1;clear q1
   go_wp2
   have g0:=yE p0
   have g1:=yE cy3
   have g2:=yE cz3
   refine yY (by kernel_rfl) (by kernel_rfl) ?_
   repeat(first|go_big_quiet_skip|(go_big_quiet_want;go_big_quiet_op;first|go_big_quiet_on|(apply Exists.intro;refine⟨fun _=>?_,?_⟩;(· (go_at_call 161;exact Calls.yJ ((c_l23Clip y _ _ _ (T.at_below HAy.out (yH HB.out HB.out.size (yF wr _)))).mono (fun e w' h=>by rw[a1] at h;exact h))));go_big_quiet_on)))
   refine wpQuiet_nil ?_
   rintro w9 ⟨uu,rfl⟩
   have hb9:=yF wr uu
   generalize bel wr uu=w9 at *
   have HB9:=hide (yH HB.out HB.out.size hb9);clear g0 g1 g2
   have HW9:=hide (yH HW.out HW.out.size hb9);clear hb9
   go_wp2
   go_ret
   exact⟨yG (yU fun h=>Q1.out (h.clips (j+1) y HG.out).1).symm,HB9.out⟩
  have a1:=yV q1;have Q1:=hide q1;clear q1
  by_cases q2:y.yB<z.yB
  ·have q2':decide (y.yB<z.yB)=true:=decide_eq_true q2;have Q2:=hide q2
   go_wp2
   have g0:=yE p0
   have g1:=yE cy3
   have g2:=yE cz3
   refine yY (by kernel_rfl) (by kernel_rfl) ?_
   repeat(first|go_big_quiet_skip|(go_big_quiet_want;go_big_quiet_op;first|go_big_quiet_on|(apply Exists.intro;refine⟨fun _=>?_,?_⟩;(· (go_at_call 161;exact Calls.yJ ((c_l23Clip y _ _ _ (T.at_below HAy.out (yH HB.out HB.out.size (yF wr _)))).mono (fun e w' h=>by rw[a1] at h;exact h))));go_big_quiet_on)))
   refine wpQuiet_nil ?_
   rintro w9 ⟨uu,rfl⟩
   have hb9:=yF wr uu
   generalize bel wr uu=w9 at *
   have HB9:=hide (yH HB.out HB.out.size hb9);clear g0 g1 g2
   have HW9:=hide (yH HW.out HW.out.size hb9);clear hb9
   go_wp2
   go_ret
   exact⟨yG (yU fun h=>by have:=(h.clips (j+1) y HG.out).2 z (by omega) HJ.out;have:=Q2.out;omega).symm,HB9.out⟩
  have q2':decide (y.yB<z.yB)=false:=decide_eq_false q2
  go_wp2
  have g0:=yE p0
  have g1:=yE cy3
  have g2:=yE cz3
  refine yY (by kernel_rfl) (by kernel_rfl) ?_
  repeat(first|go_big_quiet_skip|(go_big_quiet_want;go_big_quiet_op;first|go_big_quiet_on|(apply Exists.intro;refine⟨fun _=>?_,?_⟩;(· (go_at_call 161;exact Calls.yJ ((c_l23Clip y _ _ _ (T.at_below HAy.out (yH HB.out HB.out.size (yF wr _)))).mono (fun e w' h=>by rw[a1] at h;exact h))));go_big_quiet_on)))
  refine wpQuiet_nil ?_
  rintro w9 ⟨uu,rfl⟩
  have hb9:=yF wr uu
  generalize bel wr uu=w9 at *
  have HB9:=hide (yH HB.out HB.out.size hb9);clear g0 g1 g2
  have HW9:=hide (yH HW.out HW.out.size hb9);clear hb9
  go_wp2
  go_roundw
  case rel=>exact⟨j+1+1,by omega,by go_num,HS.out.step HG.out ⟨Q1.out,fun p _ hp=>by rw[Nat.add_sub_cancel,HJ.out] at hp;injection hp with hp;subst hp;omega⟩,HW9.out⟩
  case measure=>simp[intOf];omega
theorem c_sValidTrack (x:GTrack) (cs:List Value) (w:World) (h:T.rds w x.fs cs):Calls Tryz.prog 92 #[.agg cs.toArray] w fun e w'=>e= .returned (.bool (tf (TrackOk x)))∧Below w.heap.size w w':=by
 obtain⟨v0,rfl,h0⟩:=GTrack.yM h
 clear h
 have R0:=hide h0;obtain⟨va0,vc0,rfl,vl0,vm0,vx0⟩:=T.yL h0
 have HX0:=hide vx0;clear vx0 h0
 have HB0:=hide (show Below w.heap.size w (w.alloc (.cells #[(.slice va0 x.zR.length vc0)] 98)) from(Below.refl _ _).alloc (Nat.le_refl _) _)
 have HK0:=hide (Bk.born w 98 #[(.slice va0 x.zR.length vc0)])
 go_enter Tryz.func92,Tryz.ntmps92
 go_wp2_with fail
 refine(c_l23Ok x _ _ _ (T.at_bk HK0.out (GTrack.rd_mk (T.yD R0.out HB0.out)))).mono ?_;rintro e w1 ⟨rfl,hd⟩
 have H1:=hide (yH HB0.out HB0.out.size hd);clear hd
 go_wp2
 go_ret
 exact⟨rfl,H1.out⟩
theorem c_l27Track (x:GTrack) (b o:Nat) (n:Int) (w:World) (n0:0≤n) (n1:n≤1048576) (h:T.at w x.fs b o):Calls Tryz.prog 50 #[.pointer (some ⟨b,o,none⟩),.int .i64 n] w fun e w'=>e= .returned (.bool (tf (TrackOk x∧Each x.zR fun _ c=>c.zS<n)))∧Below w.heap.size w w':=by
 have HAT:=hide h
 obtain⟨hlt0,cs,hr,hc⟩:=h
 obtain⟨v0,rfl,h0⟩:=GTrack.yM hr
 clear hr
 have R0:=hide h0;obtain⟨va0,vc0,rfl,vl0,vm0,vx0⟩:=T.yL h0
 have HX0:=hide vx0;clear vx0 h0
 have HL:=hide hlt0;have HCC:=hide hc;have HB0:=hide (Below.refl w.heap.size w);clear hlt0 hc
 have p0:w.cell? ⟨b,o,none⟩=some (.slice va0 x.zR.length vc0):=(HB0.out.cell HL.out).trans (HCC.out 0 _ rfl)
 have lb:b<w.heap.size:=Nat.lt_of_lt_of_le HL.out HB0.out.size
 go_enter Tryz.func50,Tryz.ntmps50
 go_wp2
 clear p0 lb
 go_loopw [5] (fun i wr=> ∃ k:Nat,k≤x.zR.length∧i= .int .i64 k∧Upto x.zR (fun _ c=>inB c.zS 0 (n - 1)=true) k∧Below w.heap.size w wr) (fun i _=>x.zR.length - (intOf i).toNat)
 case atStart=>exact⟨0,Nat.zero_le _,rfl,Upto.zero,Below.refl _ _⟩
 case round=>
  obtain⟨k,hk,rfl,hs,hbw⟩:=hrel
  have HS:=hide hs;have HW:=hide hbw;have HB:=hide (yH HB0.out HB0.out.size hbw);clear hs hbw
  have p0:wr.cell? ⟨b,o,none⟩=some (.slice va0 x.zR.length vc0):=(HB.out.cell HL.out).trans (HCC.out 0 _ rfl)
  have lb:b<wr.heap.size:=Nat.lt_of_lt_of_le HL.out HB.out.size
  by_cases hlt:k<x.zR.length
  rotate_left
  ·have hall:=hide (HS.out.all (by omega));clear HS
   go_wp2_with fail
   refine(c_sValidTrack x _ _ (GTrack.rd_mk (T.yD R0.out HB.out))).mono ?_;rintro e w2 ⟨rfl,hb2⟩
   have H2:=hide (yH HB.out HB.out.size hb2);clear hb2
   go_wp2
   go_ret
   exact⟨yG (tf_iff ⟨fun h=>⟨h,fun i c hc=>by have:=yX.1 (hall.out i c hc);omega⟩,fun h=>h.1⟩),H2.out⟩
  have hgk:=List.getElem?_eq_getElem hlt
  obtain⟨b1,off,csy,hA,hb1,hcs,hcell⟩:=HX0.out k x.zR[k] hgk
  subst hA
  generalize x.zR[k]=y at *
  have HG:=hide hgk;clear hgk
  have HAy:=hide (T.at_elem (o:=off+k * 5) hb1 (show T.rds w y.fs csy by simpa only[GClip.t,T.rd] using hcs) hcell (by omega));clear hcs hcell
  obtain⟨_,csy',hry,hcy⟩:=HAy.out
  obtain rfl:=GClip.yM hry
  have cy0:wr.cell? ⟨b1,off+k * 5,none⟩=some (.int .i64 y.zS):=(HB.out.cell hb1).trans (hcy 0 _ rfl)
  have hq1:b1<wr.heap.size:=Nat.lt_of_lt_of_le hb1 HB.out.size
  clear hry hcy
  by_cases q1:inB y.zS 0 (n - 1)=true
  rotate_left
  ·have q1':inB y.zS 0 (n - 1)=false:=(by simpa using q1)
   go_wp2_with (go_at_call 47;refine(c_l00In _ _ _ _).mono ?_;rintro e w' ⟨rfl,rfl⟩)
   go_ret
   exact⟨yG (yU fun h=>by have h1:=(h.1.clips k y HG.out).1.source;have h2:=h.2 k y HG.out;exact q1 (yX.2 ⟨(yX.1 h1).1,by omega⟩)).symm,HB.out⟩
  go_wp2_with (go_at_call 47;refine(c_l00In _ _ _ _).mono ?_;rintro e w' ⟨rfl,rfl⟩)
  go_roundw
  case rel=>exact⟨k+1,by omega,by go_num,HS.out.step HG.out q1,HW.out⟩
  case measure=>simp[intOf];omega
theorem c_sl01Small (x:Nat) (w:World):Calls Tryz.prog 159 #[.int .u8 (x:Int)] w fun e w'=>e= .returned (.bool (decide (97≤x∧x≤122)))∧w=w':=by
 by_cases h:97≤x
 all_goals
  go_enter Tryz.func159,Tryz.ntmps159
  go_wp2
  go_ret
  exact⟨yG (by by_cases h2:x≤122<;>first|rfl|(simp[h,h2];done)|(simp[h,h2];omega)),rfl⟩
theorem c_sl01Digit (x:Nat) (w:World):Calls Tryz.prog 160 #[.int .u8 (x:Int)] w fun e w'=>e= .returned (.bool (decide (48≤x∧x≤57)))∧w=w':=by
 by_cases h:48≤x
 all_goals
  go_enter Tryz.func160,Tryz.ntmps160
  go_wp2
  go_ret
  exact⟨yG (by by_cases h2:x≤57<;>first|rfl|(simp[h,h2];done)|(simp[h,h2];omega)),rfl⟩
theorem ne_of_size {s:ByteArray} (h:1≤s.size):s.toList.isEmpty=false:=by
 rw[toList_eq]
 have hl:s.data.toList.length=s.size:=by rw[Array.length_toList];rfl
 generalize s.data.toList=l at *
 cases l with
 |nil=>simp at hl;omega
 |cons a t=>rfl
theorem c_sIsName (s:ByteArray) (w:World):Calls Tryz.prog 126 #[.string s] w fun e w'=>e= .returned (.bool (tf (NameOk s)))∧w=w':=by
 by_cases h1:1≤s.size
 rotate_left
 ·have hs:s=ByteArray.empty:=by apply ByteArray.ext;apply Array.toList_inj.1;apply List.eq_nil_of_length_eq_zero;rw[Array.length_toList];have:s.data.size=s.size:=rfl;omega
  subst hs
  go_enter Tryz.func126,Tryz.ntmps126
  go_wp2
  go_ret
  exact⟨yG (yU fun h=>h1 h.some_).symm,rfl⟩
 have hne:=ne_of_size h1
 have HNE:=hide hne
 by_cases h2:s.size≤10
 rotate_left
 ·go_enter Tryz.func126,Tryz.ntmps126
  go_wp2
  go_ret
  exact⟨yG (yU fun h=>h2 h.few).symm,rfl⟩
 have hg0:=bA_get (s:=s) (n:=0) (by omega)
 have hb0:=bA_lt s 0
 by_cases h3:97≤bA s 0∧bA s 0≤122
 rotate_left
 ·have d0:decide (97≤bA s 0∧bA s 0≤122)=false:=decide_eq_false h3
  have H3:=hide h3;clear h3
  go_enter Tryz.func126,Tryz.ntmps126
  go_wp2_with (first|(go_at_call 159;refine(c_sl01Small _ _).mono ?_;rintro e w' ⟨rfl,rfl⟩)|(go_at_call 160;refine(c_sl01Digit _ _).mono ?_;rintro e w' ⟨rfl,rfl⟩))
  go_ret
  exact⟨yG (yU fun h=>by rcases h.each 0 (by omega) with h|h<;>(simp only[smallN,digitN] at h;have:=H3.out;omega)).symm,rfl⟩
 have d0:decide (97≤bA s 0∧bA s 0≤122)=true:=decide_eq_true h3
 have H3:=hide h3;clear h3
 go_enter Tryz.func126,Tryz.ntmps126
 go_wp2_with (first|(go_at_call 159;refine(c_sl01Small _ _).mono ?_;rintro e w' ⟨rfl,rfl⟩)|(go_at_call 160;refine(c_sl01Digit _ _).mono ?_;rintro e w' ⟨rfl,rfl⟩))
 go_loop [3] (fun i=> ∃ k:Nat,k≤s.size∧i= .int .i64 k∧ ∀ i,i<k→smallN (bA s i)∨digitN (bA s i)) (fun i=>s.size - (intOf i).toNat)
 case atStart=>exact⟨0,Nat.zero_le _,rfl,fun i h=>absurd h (by omega)⟩
 case round=>
  obtain⟨k,hk,rfl,hs⟩:=hrel
  have HS:=hide hs;clear hs hg0 hb0 d0
  by_cases hlt:k<s.size
  ·have hb:=bA_lt s k
   have hg:=bA_get hlt
   generalize hy:bA s k=y at *
   have HY:=hide hy;clear hy
   by_cases a1:97≤y∧y≤122
   ·have d1:decide (97≤y∧y≤122)=true:=decide_eq_true a1
    have A1:=hide a1;clear a1
    go_wp2_with (first|(go_at_call 159;refine(c_sl01Small _ _).mono ?_;rintro e w' ⟨rfl,rfl⟩)|(go_at_call 160;refine(c_sl01Digit _ _).mono ?_;rintro e w' ⟨rfl,rfl⟩))
    go_round
    case rel=>exact⟨k+1,by omega,by go_num,fun i hi=>by
     by_cases e:i=k
     ·subst e;rw[HY.out];exact .inl A1.out
     ·exact HS.out i (by omega)⟩
    case measure=>simp[intOf];omega
   ·have d1:decide (97≤y∧y≤122)=false:=decide_eq_false a1
    have A1:=hide a1;clear a1
    by_cases a2:48≤y∧y≤57
    ·have d2:decide (48≤y∧y≤57)=true:=decide_eq_true a2
     have A2:=hide a2;clear a2
     go_wp2_with (first|(go_at_call 159;refine(c_sl01Small _ _).mono ?_;rintro e w' ⟨rfl,rfl⟩)|(go_at_call 160;refine(c_sl01Digit _ _).mono ?_;rintro e w' ⟨rfl,rfl⟩))
     go_round
     case rel=>exact⟨k+1,by omega,by go_num,fun i hi=>by
      by_cases e:i=k
      ·subst e;rw[HY.out];exact .inr A2.out
      ·exact HS.out i (by omega)⟩
     case measure=>simp[intOf];omega
    ·have d2:decide (48≤y∧y≤57)=false:=decide_eq_false a2
     have A2:=hide a2;clear a2
     go_wp2_with (first|(go_at_call 159;refine(c_sl01Small _ _).mono ?_;rintro e w' ⟨rfl,rfl⟩)|(go_at_call 160;refine(c_sl01Digit _ _).mono ?_;rintro e w' ⟨rfl,rfl⟩))
     go_ret
     exact⟨yG (yU fun h=>by
      rcases h.each k hlt with h|h<;>rw[HY.out] at h<;>(simp only[smallN,digitN] at h;have:=A1.out;have:=A2.out;omega)).symm,rfl⟩
  ·go_wp2
   go_ret
   exact⟨yG (yV ⟨h1,h2,fun i hi=>by
    rcases HS.out i (by omega) with h|h
    ·exact .inl h
    ·by_cases e:i=0
     ·subst e;exact .inl H3.out
     ·exact .inr ⟨h,e⟩⟩).symm,rfl⟩
end Go.Proofs.YtbgedljbgkcpiaaGreatDoor
