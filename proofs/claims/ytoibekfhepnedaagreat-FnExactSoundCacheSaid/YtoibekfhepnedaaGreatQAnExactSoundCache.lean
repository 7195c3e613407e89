/- Contracts: what is valid, by the reference: strips, mixers. -/
import Derived.Test.YtoibekfhepnedaaGreatQAmExactSoundCache
import Derived.Test.YtoibekfhepnedaaGreatQAjExactSoundCache
set_option linter.unusedVariables false
set_option linter.unusedSimpArgs false
set_option maxHeartbeats 2000000
set_option maxRecDepth 20000
namespace Go.Proofs.YtoibekfhepnedaaGreat
open Go.RowKit
theorem SendsOk.le {l:List GSend} {p n:Int} (h:SendsOk l p n):l.length≤4:=by
 by_cases e:p=n - 1
 ·have:=h.last e;omega
 ·exact(h.few e).2
theorem c_l26Strip (x:GStrip) (b o:Nat) (k:Int) (n:Int) (w:World) (k0:0≤k) (k1:k≤1048576) (n0:0≤n) (n1:n≤1048576) (h:T.at w x.fs b o):Calls Tryz.prog 178 #[.pointer (some ⟨b,o,none⟩),.int .i64 k,.int .i64 n] w fun e w'=>e= .returned (.bool (tf (StripOk x k n)))∧Below w.heap.size w w':=by
 have HAT:=hide h
 obtain⟨hlt0,cs,hr,hc⟩:=h
 obtain⟨v2,rfl,h2⟩:=GStrip.yN hr
 clear hr
 have R2:=hide h2;obtain⟨va2,vc2,rfl,vl2,vm2,vx2⟩:=T.yM h2
 have HX2:=hide vx2;clear vx2 h2
 have HL:=hide hlt0;have HCC:=hide hc;have HB0:=hide (Below.refl w.heap.size w);clear hlt0 hc
 have p0:w.cell? ⟨b,o,none⟩=some (.string x.zU):=(HB0.out.cell HL.out).trans (HCC.out 0 _ rfl)
 have p1:w.cell? ⟨b,o+1,none⟩=some (.int .i64 x.zI):=(HB0.out.cell HL.out).trans (HCC.out 1 _ rfl)
 have p2:w.cell? ⟨b,o+2,none⟩=some (.slice va2 x.zJ.length vc2):=(HB0.out.cell HL.out).trans (HCC.out 2 _ rfl)
 have lb:b<w.heap.size:=Nat.lt_of_lt_of_le HL.out HB0.out.size
 go_enter Tryz.func178,Tryz.ntmps178
 by_cases q1:NameOk x.zU
 rotate_left
 ·have a1:=yW q1;have Q1:=hide q1;clear q1
  go_wp2_with (first|(go_at_call 230;refine(c_sIsName _ _).mono ?_;rintro e w' ⟨rfl,rfl⟩;rw[a1])|(go_at_call 87;refine(c_l00In _ _ _ _).mono ?_;rintro e w' ⟨rfl,rfl⟩)|(go_at_call 158;refine(c_l01Sample _ _).mono ?_;rintro e w' ⟨rfl,rfl⟩))
  go_ret
  exact⟨yH (yW fun h=>Q1.out h.name).symm,HB0.out⟩
 have a1:=yX q1;have Q1:=hide q1;clear q1
 by_cases q2:inB x.zI 0 32=true
 rotate_left
 ·have q2':inB x.zI 0 32=false:=(by simpa using q2)
  go_wp2_with (first|(go_at_call 230;refine(c_sIsName _ _).mono ?_;rintro e w' ⟨rfl,rfl⟩;rw[a1])|(go_at_call 87;refine(c_l00In _ _ _ _).mono ?_;rintro e w' ⟨rfl,rfl⟩)|(go_at_call 158;refine(c_l01Sample _ _).mono ?_;rintro e w' ⟨rfl,rfl⟩))
  go_ret
  exact⟨yH (yW fun h=>q2 h.latency).symm,HB0.out⟩
 skip
 by_cases q3:x.zJ.length≤4
 rotate_left
 ·skip
  go_wp2_with (first|(go_at_call 230;refine(c_sIsName _ _).mono ?_;rintro e w' ⟨rfl,rfl⟩;rw[a1])|(go_at_call 87;refine(c_l00In _ _ _ _).mono ?_;rintro e w' ⟨rfl,rfl⟩)|(go_at_call 158;refine(c_l01Sample _ _).mono ?_;rintro e w' ⟨rfl,rfl⟩))
  go_ret
  exact⟨yH (yW fun h=>q3 h.sends.le).symm,HB0.out⟩
 have Q3:=hide q3
 by_cases zl:k=n - 1
 ·by_cases zz:x.zJ.length=0
  rotate_left
  ·have z1:((x.zJ.length:Int) == 0)=false:=yP (by omega);have z2:(k == n - 1)=true:=yQ zl;have ZL:=hide zl;have ZZ:=hide zz;clear zl zz
   go_wp2_with (first|(go_at_call 230;refine(c_sIsName _ _).mono ?_;rintro e w' ⟨rfl,rfl⟩;rw[a1])|(go_at_call 87;refine(c_l00In _ _ _ _).mono ?_;rintro e w' ⟨rfl,rfl⟩)|(go_at_call 158;refine(c_l01Sample _ _).mono ?_;rintro e w' ⟨rfl,rfl⟩))
   go_ret
   exact⟨yH (yW fun h=>ZZ.out (h.sends.last ZL.out)).symm,HB0.out⟩
  have z1:((x.zJ.length:Int) == 0)=true:=yQ (by omega);have z2:(k == n - 1)=true:=yQ zl;have ZL:=hide zl;have ZZ:=hide zz;clear zl zz
  go_wp2_with (first|(go_at_call 230;refine(c_sIsName _ _).mono ?_;rintro e w' ⟨rfl,rfl⟩;rw[a1])|(go_at_call 87;refine(c_l00In _ _ _ _).mono ?_;rintro e w' ⟨rfl,rfl⟩)|(go_at_call 158;refine(c_l01Sample _ _).mono ?_;rintro e w' ⟨rfl,rfl⟩))
  clear p0 p1 p2 lb z1 z2
  go_loopw [7,8] (fun bv i wr=> ∃ (j:Nat) (bf:Int),j≤x.zJ.length∧i= .int .i64 j∧bv= .int .i64 bf∧bf=befS x.zJ k j∧0≤bf∧bf≤1048576∧Upto x.zJ (fun i x_1=>inB x_1.zV (befS x.zJ k i+1) (n - 1)=true∧Smp x_1.zR) j∧Below w.heap.size w wr) (fun _ i _=>x.zJ.length - (intOf i).toNat)
  case atStart=>exact⟨0,k,Nat.zero_le _,rfl,rfl,rfl,k0,k1,Upto.zero,Below.refl _ _⟩
  case round=>
   obtain⟨j,bf,hk,rfl,rfl,hbf,b0,b1',hs,hbw⟩:=hrel
   have HS:=hide hs;have HB:=hide hbw;have HBF:=hide hbf;clear hs hbw hbf
   have p0:wr.cell? ⟨b,o,none⟩=some (.string x.zU):=(HB.out.cell HL.out).trans (HCC.out 0 _ rfl)
   have p1:wr.cell? ⟨b,o+1,none⟩=some (.int .i64 x.zI):=(HB.out.cell HL.out).trans (HCC.out 1 _ rfl)
   have p2:wr.cell? ⟨b,o+2,none⟩=some (.slice va2 x.zJ.length vc2):=(HB.out.cell HL.out).trans (HCC.out 2 _ rfl)
   have lb:b<wr.heap.size:=Nat.lt_of_lt_of_le HL.out HB.out.size
   by_cases hlt:j<x.zJ.length
   rotate_left
   ·have hall:=hide (HS.out.all (by omega));clear HS
    go_wp2
    go_ret
    exact⟨yH (yX ⟨Q1.out,q2,⟨hall.out,fun _=>ZZ.out,fun h=>absurd ZL.out h⟩⟩).symm,HB.out⟩
   have hgk:=List.getElem?_eq_getElem hlt
   obtain⟨b1,off,csy,hA,hb1,hcs,hcell⟩:=HX2.out j x.zJ[j] hgk
   subst hA
   generalize x.zJ[j]=y at *
   have HG:=hide hgk;clear hgk
   have HAy:=hide (T.at_elem (o:=off+j * 2) hb1 (show T.rds w y.fs csy by simpa only[GSend.t,T.rd] using hcs) hcell (by omega));clear hcs hcell
   obtain⟨_,csy',hry,hcy⟩:=HAy.out
   obtain rfl:=GSend.yN hry
   have cy0:wr.cell? ⟨b1,off+j * 2,none⟩=some (.int .i64 y.zV):=(HB.out.cell hb1).trans (hcy 0 _ rfl)
   have cy1:wr.cell? ⟨b1,off+j * 2+1,none⟩=some (.int .i64 y.zR):=(HB.out.cell hb1).trans (hcy 1 _ rfl)
   have hq1:b1<wr.heap.size:=Nat.lt_of_lt_of_le hb1 HB.out.size
   clear hry hcy
   by_cases s1:inB y.zV (bf+1) (n - 1)=true
   rotate_left
   ·have s1':inB y.zV (bf+1) (n - 1)=false:=(by simpa using s1)
    go_wp2_with (first|(go_at_call 87;refine(c_l00In _ _ _ _).mono ?_;rintro e w' ⟨rfl,rfl⟩)|(go_at_call 158;refine(c_l01Sample _ _).mono ?_;rintro e w' ⟨rfl,rfl⟩))
    go_ret
    exact⟨yH (yW fun h=>by have:=(h.sends.each j y HG.out).1;rw[←HBF.out] at this;exact s1 this).symm,HB.out⟩
   have i1:=yZ.1 s1;have S1:=hide s1
   by_cases s2:Smp y.zR
   rotate_left
   ·have s2':decide (Smp y.zR)=false:=decide_eq_false s2;have S2:=hide s2;clear s2
    go_wp2_with (first|(go_at_call 87;refine(c_l00In _ _ _ _).mono ?_;rintro e w' ⟨rfl,rfl⟩)|(go_at_call 158;refine(c_l01Sample _ _).mono ?_;rintro e w' ⟨rfl,rfl⟩))
    go_ret
    exact⟨yH (yW fun h=>S2.out (h.sends.each j y HG.out).2).symm,HB.out⟩
   have s2':decide (Smp y.zR)=true:=decide_eq_true s2;have S2:=hide s2;clear s2
   go_wp2_with (first|(go_at_call 87;refine(c_l00In _ _ _ _).mono ?_;rintro e w' ⟨rfl,rfl⟩)|(go_at_call 158;refine(c_l01Sample _ _).mono ?_;rintro e w' ⟨rfl,rfl⟩))
   go_roundw
   case rel=>exact⟨j+1,y.zV,by omega,by go_num,rfl,(befS_succ HG.out).symm,by omega,by omega,HS.out.step HG.out ⟨by rw[←HBF.out];exact S1.out,S2.out⟩,HB.out⟩
   case measure=>simp[intOf];omega
 ·by_cases zz:x.zJ.length=0
  ·have z1:((x.zJ.length:Int) == 0)=true:=yQ (by omega);have z2:(k == n - 1)=false:=yP zl;have ZL:=hide zl;have ZZ:=hide zz;clear zl zz
   go_wp2_with (first|(go_at_call 230;refine(c_sIsName _ _).mono ?_;rintro e w' ⟨rfl,rfl⟩;rw[a1])|(go_at_call 87;refine(c_l00In _ _ _ _).mono ?_;rintro e w' ⟨rfl,rfl⟩)|(go_at_call 158;refine(c_l01Sample _ _).mono ?_;rintro e w' ⟨rfl,rfl⟩))
   go_ret
   exact⟨yH (yW fun h=>by have:=(h.sends.few ZL.out).1;have:=ZZ.out;omega).symm,HB0.out⟩
  have z1:((x.zJ.length:Int) == 0)=false:=yP (by omega);have z2:(k == n - 1)=false:=yP zl;have ZL:=hide zl;have ZZ:=hide zz;clear zl zz
  go_wp2_with (first|(go_at_call 230;refine(c_sIsName _ _).mono ?_;rintro e w' ⟨rfl,rfl⟩;rw[a1])|(go_at_call 87;refine(c_l00In _ _ _ _).mono ?_;rintro e w' ⟨rfl,rfl⟩)|(go_at_call 158;refine(c_l01Sample _ _).mono ?_;rintro e w' ⟨rfl,rfl⟩))
  clear p0 p1 p2 lb z1 z2
  go_loopw [7,8] (fun bv i wr=> ∃ (j:Nat) (bf:Int),j≤x.zJ.length∧i= .int .i64 j∧bv= .int .i64 bf∧bf=befS x.zJ k j∧0≤bf∧bf≤1048576∧Upto x.zJ (fun i x_1=>inB x_1.zV (befS x.zJ k i+1) (n - 1)=true∧Smp x_1.zR) j∧Below w.heap.size w wr) (fun _ i _=>x.zJ.length - (intOf i).toNat)
  case atStart=>exact⟨0,k,Nat.zero_le _,rfl,rfl,rfl,k0,k1,Upto.zero,Below.refl _ _⟩
  case round=>
   obtain⟨j,bf,hk,rfl,rfl,hbf,b0,b1',hs,hbw⟩:=hrel
   have HS:=hide hs;have HB:=hide hbw;have HBF:=hide hbf;clear hs hbw hbf
   have p0:wr.cell? ⟨b,o,none⟩=some (.string x.zU):=(HB.out.cell HL.out).trans (HCC.out 0 _ rfl)
   have p1:wr.cell? ⟨b,o+1,none⟩=some (.int .i64 x.zI):=(HB.out.cell HL.out).trans (HCC.out 1 _ rfl)
   have p2:wr.cell? ⟨b,o+2,none⟩=some (.slice va2 x.zJ.length vc2):=(HB.out.cell HL.out).trans (HCC.out 2 _ rfl)
   have lb:b<wr.heap.size:=Nat.lt_of_lt_of_le HL.out HB.out.size
   by_cases hlt:j<x.zJ.length
   rotate_left
   ·have hall:=hide (HS.out.all (by omega));clear HS
    go_wp2
    go_ret
    exact⟨yH (yX ⟨Q1.out,q2,⟨hall.out,fun h=>absurd h ZL.out,fun _=>⟨by have:=ZZ.out;omega,Q3.out⟩⟩⟩).symm,HB.out⟩
   have hgk:=List.getElem?_eq_getElem hlt
   obtain⟨b1,off,csy,hA,hb1,hcs,hcell⟩:=HX2.out j x.zJ[j] hgk
   subst hA
   generalize x.zJ[j]=y at *
   have HG:=hide hgk;clear hgk
   have HAy:=hide (T.at_elem (o:=off+j * 2) hb1 (show T.rds w y.fs csy by simpa only[GSend.t,T.rd] using hcs) hcell (by omega));clear hcs hcell
   obtain⟨_,csy',hry,hcy⟩:=HAy.out
   obtain rfl:=GSend.yN hry
   have cy0:wr.cell? ⟨b1,off+j * 2,none⟩=some (.int .i64 y.zV):=(HB.out.cell hb1).trans (hcy 0 _ rfl)
   have cy1:wr.cell? ⟨b1,off+j * 2+1,none⟩=some (.int .i64 y.zR):=(HB.out.cell hb1).trans (hcy 1 _ rfl)
   have hq1:b1<wr.heap.size:=Nat.lt_of_lt_of_le hb1 HB.out.size
   clear hry hcy
   by_cases s1:inB y.zV (bf+1) (n - 1)=true
   rotate_left
   ·have s1':inB y.zV (bf+1) (n - 1)=false:=(by simpa using s1)
    go_wp2_with (first|(go_at_call 87;refine(c_l00In _ _ _ _).mono ?_;rintro e w' ⟨rfl,rfl⟩)|(go_at_call 158;refine(c_l01Sample _ _).mono ?_;rintro e w' ⟨rfl,rfl⟩))
    go_ret
    exact⟨yH (yW fun h=>by have:=(h.sends.each j y HG.out).1;rw[←HBF.out] at this;exact s1 this).symm,HB.out⟩
   have i1:=yZ.1 s1;have S1:=hide s1
   by_cases s2:Smp y.zR
   rotate_left
   ·have s2':decide (Smp y.zR)=false:=decide_eq_false s2;have S2:=hide s2;clear s2
    go_wp2_with (first|(go_at_call 87;refine(c_l00In _ _ _ _).mono ?_;rintro e w' ⟨rfl,rfl⟩)|(go_at_call 158;refine(c_l01Sample _ _).mono ?_;rintro e w' ⟨rfl,rfl⟩))
    go_ret
    exact⟨yH (yW fun h=>S2.out (h.sends.each j y HG.out).2).symm,HB.out⟩
   have s2':decide (Smp y.zR)=true:=decide_eq_true s2;have S2:=hide s2;clear s2
   go_wp2_with (first|(go_at_call 87;refine(c_l00In _ _ _ _).mono ?_;rintro e w' ⟨rfl,rfl⟩)|(go_at_call 158;refine(c_l01Sample _ _).mono ?_;rintro e w' ⟨rfl,rfl⟩))
   go_roundw
   case rel=>exact⟨j+1,y.zV,by omega,by go_num,rfl,(befS_succ HG.out).symm,by omega,by omega,HS.out.step HG.out ⟨by rw[←HBF.out];exact S1.out,S2.out⟩,HB.out⟩
   case measure=>simp[intOf];omega
theorem c_l26Ok (x:GMixer) (b o:Nat) (w:World) (hn:x.zC.length≤1048576) (h:T.at w x.fs b o):Calls Tryz.prog 122 #[.pointer (some ⟨b,o,none⟩)] w fun e w'=>e= .returned (.bool (tf (MixerOk x)))∧Below w.heap.size w w':=by
 have HAT:=hide h
 obtain⟨hlt0,cs,hr,hc⟩:=h
 obtain⟨v0,rfl,h0⟩:=GMixer.yN hr
 clear hr
 have R0:=hide h0;obtain⟨va0,vc0,rfl,vl0,vm0,vx0⟩:=T.yM h0
 have HX0:=hide vx0;clear vx0 h0
 have HL:=hide hlt0;have HCC:=hide hc;have HB0:=hide (Below.refl w.heap.size w);clear hlt0 hc
 have p0:w.cell? ⟨b,o,none⟩=some (.slice va0 x.zC.length vc0):=(HB0.out.cell HL.out).trans (HCC.out 0 _ rfl)
 have lb:b<w.heap.size:=Nat.lt_of_lt_of_le HL.out HB0.out.size
 go_enter Tryz.func122,Tryz.ntmps122
 by_cases q1:inB (x.zC.length:Int) 1 8=true
 rotate_left
 ·have q1':inB (x.zC.length:Int) 1 8=false:=(by simpa using q1)
  go_wp2_with (go_at_call 87;refine(c_l00In _ _ _ _).mono ?_;rintro e w' ⟨rfl,rfl⟩)
  go_ret
  exact⟨yH (yW fun h=>q1 (yZ.2 ⟨by have:=h.some_;omega,by have:=h.few;omega⟩)).symm,HB0.out⟩
 have i1:=yZ.1 q1
 go_wp2_with (go_at_call 87;refine(c_l00In _ _ _ _).mono ?_;rintro e w' ⟨rfl,rfl⟩)
 clear p0 lb
 go_loopw [4] (fun i wr=> ∃ k:Nat,k≤x.zC.length∧i= .int .i64 k∧Upto x.zC (fun i x_1=>StripOk x_1 (i:Int) (x.zC.length:Int)∧ ∀ j y,j<i→x.zC[j]?=some y→y.zU≠x_1.zU) k∧Below w.heap.size w wr) (fun i _=>x.zC.length - (intOf i).toNat)
 case atStart=>exact⟨0,Nat.zero_le _,rfl,Upto.zero,Below.refl _ _⟩
 case round=>
  obtain⟨k,hk,rfl,hs,hbw⟩:=hrel
  have HS:=hide hs;have HW:=hide hbw;have HB:=hide (yI HB0.out HB0.out.size hbw);clear hs hbw
  have p0:wr.cell? ⟨b,o,none⟩=some (.slice va0 x.zC.length vc0):=(HB.out.cell HL.out).trans (HCC.out 0 _ rfl)
  have lb:b<wr.heap.size:=Nat.lt_of_lt_of_le HL.out HB.out.size
  by_cases hlt:k<x.zC.length
  rotate_left
  ·have hall:=hide (HS.out.all (by omega));clear HS
   go_wp2
   go_ret
   exact⟨yH (yX ⟨by omega,by omega,hall.out⟩).symm,HB.out⟩
  have hgk:=List.getElem?_eq_getElem hlt
  obtain⟨b1,off,csy,hA,hb1,hcs,hcell⟩:=HX0.out k x.zC[k] hgk
  subst hA
  generalize x.zC[k]=y at *
  have HG:=hide hgk;clear hgk
  have HAy:=hide (T.at_elem (o:=off+k * 3) hb1 (show T.rds w y.fs csy by simpa only[GStrip.t,T.rd] using hcs) hcell (by omega));clear hcs hcell
  have n1:((k:Int)<(x.zC.length:Int)):=by omega
  go_wp2_with fail
  refine(c_l26Strip y _ _ (k:Int) (x.zC.length:Int) _ (by omega) (by omega) (by omega) (by omega) (T.at_below HAy.out HB.out)).mono ?_;rintro e w3 ⟨rfl,hb3⟩
  have HW3:=hide (yI HW.out HW.out.size hb3);have HB3:=hide (yI HB.out HB.out.size hb3);clear hb3 p0 lb
  have p0:w3.cell? ⟨b,o,none⟩=some (.slice (some ⟨b1,off,none⟩) x.zC.length vc0):=(HB3.out.cell HL.out).trans (HCC.out 0 _ rfl)
  have lb:b<w3.heap.size:=Nat.lt_of_lt_of_le HL.out HB3.out.size
  by_cases q2:StripOk y (k:Int) (x.zC.length:Int)
  rotate_left
  ·rw[yW q2];have Q2:=hide q2;clear q2
   go_wp2
   go_ret
   exact⟨yH (yW fun h=>Q2.out (h.each k y HG.out).1).symm,HB3.out⟩
  rw[yX q2];have Q2:=hide q2;clear q2
  go_wp2
  clear p0 lb
  go_loopw [5] (fun i ws=> ∃ m:Nat,m≤k∧i= .int .i64 m∧(∀ j z,j<m→x.zC[j]?=some z→z.zU≠y.zU)∧Below w3.heap.size w3 ws) (fun i _=>k - (intOf i).toNat)
  case atStart=>exact⟨0,Nat.zero_le _,rfl,fun j z h=>absurd h (by omega),Below.refl _ _⟩
  case round=>
   obtain⟨m,hm,rfl,hn2,hbs⟩:=hrel
   have HN:=hide hn2;have HW4:=hide (yI HW3.out HW3.out.size hbs);have HB4:=hide (yI HB3.out HB3.out.size hbs);have HS4:=hide hbs;clear hn2 hbs
   have p0:wr.cell? ⟨b,o,none⟩=some (.slice (some ⟨b1,off,none⟩) x.zC.length vc0):=(HB4.out.cell HL.out).trans (HCC.out 0 _ rfl)
   have lb:b<wr.heap.size:=Nat.lt_of_lt_of_le HL.out HB4.out.size
   by_cases hltm:m<k
   rotate_left
   ·obtain rfl:m=k:=by omega
    go_wp2
    go_roundw
    case rel=>exact⟨m+1,by omega,by go_num,HS.out.step HG.out ⟨Q2.out,HN.out⟩,HW4.out⟩
    case measure=>simp[intOf];omega
   have hltz:m<x.zC.length:=by omega
   have hgk:=List.getElem?_eq_getElem hltz
   obtain⟨b2,off2,csz,hA,hb2,hcs,hcell⟩:=HX0.out m x.zC[m] hgk
   obtain⟨rfl,rfl⟩:b1=b2∧off=off2:=by injection hA with hA;injection hA with e1 e2;exact⟨e1,e2⟩
   clear hA
   generalize x.zC[m]=z at *
   have HJ:=hide hgk;clear hgk
   have HAz:=hide (T.at_elem (o:=off+m * 3) hb2 (show T.rds w z.fs csz by simpa only[GStrip.t,T.rd] using hcs) hcell (by omega));clear hcs hcell
   obtain⟨_,csy',hry,hcy⟩:=HAy.out
   obtain⟨_,rfl,_⟩:=GStrip.yN hry
   have cy0:wr.cell? ⟨b1,off+k * 3,none⟩=some (.string y.zU):=(HB4.out.cell hb1).trans (hcy 0 _ rfl)
   clear hry hcy
   obtain⟨_,csz',hrz,hcz⟩:=HAz.out
   obtain⟨_,rfl,_⟩:=GStrip.yN hrz
   have cz0:wr.cell? ⟨b1,off+m * 3,none⟩=some (.string z.zU):=(HB4.out.cell hb1).trans (hcz 0 _ rfl)
   clear hrz hcz
   have n2:((m:Int)<(x.zC.length:Int)):=by omega
   by_cases q3:z.zU=y.zU
   ·have e3:(z.zU.toList == y.zU.toList)=true:=by rw[str_eq];exact decide_eq_true q3
    have Q3:=hide q3;clear q3
    go_wp2
    have g0:=yF p0
    have g1:=yF cy0
    have g2:=yF cz0
    refine xA (by kernel_rfl) (by kernel_rfl) ?_
    repeat(first|go_big_quiet_skip|(go_big_quiet_want;go_big_quiet_op;first|go_big_quiet_on|(apply Exists.intro;refine⟨fun _=>?_,?_⟩;(· (fail));go_big_quiet_on)))
    refine wpQuiet_nil ?_
    rintro w9 ⟨uu,rfl⟩
    have hb9:=yG wr uu
    generalize bel wr uu=w9 at *
    have HB9:=hide (yI HB4.out HB4.out.size hb9);clear g0 g1 g2
    go_wp2
    go_ret
    exact⟨yH (yW fun h=>(h.each k y HG.out).2 m z hltm HJ.out Q3.out).symm,HB9.out⟩
   have e3:(z.zU.toList == y.zU.toList)=false:=by rw[str_eq];exact decide_eq_false q3
   have Q3:=hide q3;clear q3
   go_wp2
   have g0:=yF p0
   have g1:=yF cy0
   have g2:=yF cz0
   refine xA (by kernel_rfl) (by kernel_rfl) ?_
   repeat(first|go_big_quiet_skip|(go_big_quiet_want;go_big_quiet_op;first|go_big_quiet_on|(apply Exists.intro;refine⟨fun _=>?_,?_⟩;(· (fail));go_big_quiet_on)))
   refine wpQuiet_nil ?_
   rintro w9 ⟨uu,rfl⟩
   have hb9:=yG wr uu
   generalize bel wr uu=w9 at *
   have HB9:=hide (yI HB4.out HB4.out.size hb9);clear g0 g1 g2
   have HS9:=hide (yI HS4.out HS4.out.size hb9);clear hb9
   go_wp2
   go_roundw
   case rel=>exact⟨m+1,by omega,by go_num,fun j z' h hz=>by
    by_cases e:j=m
    ·subst e;rw[HJ.out] at hz;injection hz with hz;subst hz;exact Q3.out
    ·exact HN.out j z' (by omega) hz,HS9.out⟩
   case measure=>simp[intOf];omega
end Go.Proofs.YtoibekfhepnedaaGreat
