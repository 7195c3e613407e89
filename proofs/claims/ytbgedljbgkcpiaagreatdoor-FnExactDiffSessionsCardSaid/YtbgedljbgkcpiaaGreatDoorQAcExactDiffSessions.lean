/- Contract: the table of lengths, by the program. Contract: the table of lengths, by the reference. Contract: the table of lengths, by the reference. Contracts: changes that are valid. Contracts: lists of changes: laid, compared, valid. Plain laws on decimal numbers: what is written is read back. No program is named here. -/
import Derived.Test.YtbgedljbgkcpiaaGreatDoorQAaExactDiffSessions
import Derived.Test.YtbgedljbgkcpiaaGreatDoorQAbExactDiffSessions
import Derived.StillTailTactics
import Derived.Deep.RegionHeld
import Derived.Deep.RegionHeld3
import Derived.Deep.RegionHeldLaw
import Derived.Lib.ItoaNum
import Derived.Lib.ItoaLen
import Derived.Lib.ParseIntB
import Derived.Lib.ParseIntBCases
import Derived.Lib.ParseIntBTie
set_option linter.unusedVariables false
set_option linter.unusedSimpArgs false
set_option maxHeartbeats 4000000
set_option maxRecDepth 20000
section
namespace Go.Proofs.YtbgedljbgkcpiaaGreatDoor
open Go.RowKit
theorem info_int:(Tryz.prog.info? 3).map (fun i=>(i.zero,i.size,i.bytes))=some (some (.int .i64 0),1,8):=by kernel_rfl
theorem info_sl:(Tryz.prog.info? 135).map (fun i=>(i.zero,i.size,i.bytes))=some (some (.slice none 0 0),1,24):=by kernel_rfl
theorem c_common (va vb:Value) (a b:List ByteArray) (w:World) (hra:RdS w va a) (hrb:RdS w vb b) (ha:a.length≤200) (hb:b.length≤200):
  Calls Tryz.prog 79 #[va,vb] w fun e w'=> ∃ (g:Nat) (R:Nat→Nat),e= .returned (.slice (some ⟨g,0,none⟩) (a.length+1) (a.length+1))∧Mat 3 135 w' g R (a.length+1) (b.length+1) (lenM a b)∧Below w.heap.size w w':=by
 obtain⟨A1,cap1,rfl,hl1,hc1,hx1⟩:=hra.openS
 obtain⟨A2,cap2,rfl,hl2,hc2,hx2⟩:=hrb.openS
 have HX1:=hide hx1;have HX2:=hide hx2;clear hx1 hx2 hra hrb
 obtain⟨i1,hi1,hz10,hz11,hz12⟩:=info_parts info_sl
 obtain⟨i2,hi2,hz20,hz21,hz22⟩:=info_parts info_int
 go_enter Tryz.func79,Tryz.ntmps79
 go_wp2_with (at_make;refine wpList_make_full _ rfl _ _ _ rfl w.heap.size 135 i1 _ 1 Tryz.underlying133 hi1 hz10 hz11 .i64 .i64 _ _ (a.length+1) rfl rfl (by first|rfl|omega) (by first|rfl|omega) (by rw[hz12];omega) (by unfold maxLen;omega) (Nat.le_refl _) ?_;intro w1 hown1 hg1)
 have hbk1:=own_bk hown1
 have hg1s:=hbk1.lt
 have HB1:=hide ((Below.refl w.heap.size w).grown hg1 (Nat.le_refl _) (by simp))
 have HK1:=hide hbk1
 clear hown1 hg1 hbk1
 go_loopw [15] (fun iv wr=> ∃ (k:Nat) (R:Nat→Nat),k≤a.length+1∧iv= .int .i64 (k:Int)∧Bk wr w.heap.size 135 (arrA (fun i=>if i<k then .slice (some ⟨R i,0,none⟩) (b.length+1) (b.length+1) else .slice none 0 0) (a.length+1))∧(∀ i,i<k→Bk wr (R i) 3 (arrA (fun _=> .int .i64 0) (b.length+1)))∧(∀ i,i<k→w.heap.size<R i)∧(∀ i j,i<k→j<k→i≠j→R i≠R j)∧Below w.heap.size w wr) (fun iv _=>a.length+1 - (intOf iv).toNat)
 case atStart=>exact⟨0,fun _=>0,Nat.zero_le _,rfl,by simpa using HK1.out,by omega,by omega,by omega,HB1.out⟩
 case round=>
  obtain⟨k,R,hk,rfl,hbo,hbr,hrg,hrd,hb⟩:=hrel
  have HBO:=hide hbo;have HBR:=hide hbr;have HRG:=hide hrg;have HRD:=hide hrd;have HB:=hide hb;have hgl:=hbo.lt
  clear hbo hbr hrg hrd hb
  by_cases hlt:k<a.length+1
  ·have hlt2:(k:Int)<(a.length:Int)+1:=by omega
   go_wp2_with (at_make;refine wpList_make_full _ rfl _ _ _ rfl wr.heap.size 3 i2 _ 1 Tryz.underlying135 hi2 hz20 hz21 .i64 .i64 _ _ (b.length+1) rfl rfl (by first|rfl|omega) (by first|rfl|omega) (by rw[hz22];omega) (by unfold maxLen;omega) (Nat.le_refl _) ?_;intro w2 hown2 hg2;have hbk2:=own_bk hown2;have hbe2:=(Below.refl wr.heap.size wr).grown hg2 (Nat.le_refl _) (by simp);have HBO2:=hide (HBO.out.below hbe2 hgl);have HE2:=hide hbe2;have HK2:=hide hbk2;have c1:=(HBO.out.below hbe2 hgl).cell k;have f1:=(HBO.out.below hbe2 hgl).free k;rw[arrA_at hlt,if_neg (Nat.lt_irrefl _)] at c1;clear hown2 hg2 hbk2 hbe2)
   go_roundw
   case rel=>
    refine⟨k+1,fun i=>if i=k then wr.heap.size else R i,by omega,by go_num,?_,?_,?_,?_,(yH HB.out HB.out.size HE2.out).setCell (Nat.le_refl _) _⟩
    ·have:=HBO2.out.set_ k (.slice (some ⟨wr.heap.size,0,none⟩) (b.length+1) (b.length+1))
     rw[arrA_set,arrA_congr (W:=fun i=>if i<k+1 then Value.slice (some ⟨if i=k then wr.heap.size else R i,0,none⟩) (b.length+1) (b.length+1) else .slice none 0 0) (fun i _=>by
      by_cases h1:i=k
      ·subst h1;simp
      ·by_cases h2:i<k
       ·simp[h1,h2,show i<k+1 by omega]
       ·simp[h1,h2,show ¬ i<k+1 by omega])] at this
     exact this
    ·intro i hi
     by_cases h1:i=k
     ·simp only[h1,if_true]
      exact HK2.out.far (by show wr.heap.size≠w.heap.size;omega) _
     ·simp only[h1,if_false]
      have h2:i<k:=by omega
      exact((HBR.out i h2).below HE2.out (HBR.out i h2).lt).far (by show R i≠w.heap.size;have:=HRG.out i h2;omega) _
    ·intro i hi
     by_cases h1:i=k
     ·simp only[h1,if_true];exact hgl
     ·simp only[h1,if_false];exact HRG.out i (by omega)
    ·intro i j hi hj hij
     by_cases h1:i=k<;>by_cases h2:j=k
     ·omega
     ·simp only[h1,h2,if_true,if_false]
      have:=(HBR.out j (by omega)).lt;omega
     ·simp only[h1,h2,if_true,if_false]
      have:=(HBR.out i (by omega)).lt;omega
     ·simp only[h1,h2,if_false]
      exact HRD.out i j (by omega) (by omega) hij
   case measure=>simp[intOf];omega
  ·have HKE:=hide (show k=a.length+1 by omega)
   have hm0:Mat 3 135 wr w.heap.size R (a.length+1) (b.length+1) (fun _ _=>0):=
    ⟨by rw[←arrA_congr (V:=fun i=>if i<a.length+1 then Value.slice (some ⟨R i,0,none⟩) (b.length+1) (b.length+1) else .slice none 0 0) (fun i hi=>by simp[hi])];have:=HBO.out;rw[HKE.out] at this;exact this,fun i hi=>HBR.out i (by have:=HKE.out;omega),fun i hi=>by have:=HRG.out i (by have:=HKE.out;omega);omega,fun i j hi hj=>HRD.out i j (by have:=HKE.out;omega) (by have:=HKE.out;omega)⟩
   have HM0:=hide (hm0.congr MxF_start)
   clear hm0
   go_wp2_with fail
   generalize wr=wo at *
   go_loopw [7] (fun iv wr=> ∃ I:Nat,I≤a.length∧iv= .int .i64 ((I:Int) - 1)∧Mat 3 135 wr w.heap.size R (a.length+1) (b.length+1) (MxF a b I (b.length+1))∧Below w.heap.size w wr) (fun iv _=>(intOf iv+1).toNat)
   case atStart=>exact⟨a.length,Nat.le_refl _,rfl,HM0.out,HB.out⟩
   case round=>
    obtain⟨I,hI,rfl,hm,hbw⟩:=hrel
    have HMM:=hide hm;have HBW:=hide hbw;clear hm hbw
    cases I with
    |zero=>
     go_wp2
     go_ret
     exact⟨_,R,rfl,HMM.out.congr MxF_all,HBW.out⟩
    |succ i=>
     have hi1:((i+1:Nat):Int) - 1=(i:Int):=by omega
     rw[hi1]
     have HMI:=hide (HMM.out.congr MxF_in)
     go_wp2_with fail
     generalize wr=wp at *
     go_loopw [8] (fun jv wr=> ∃ J:Nat,J≤b.length∧jv= .int .i64 ((J:Int) - 1)∧Mat 3 135 wr w.heap.size R (a.length+1) (b.length+1) (MxF a b (i+1) J)∧Below w.heap.size w wr) (fun jv _=>(intOf jv+1).toNat)
     case atStart=>exact⟨b.length,Nat.le_refl _,rfl,HMI.out,HBW.out⟩
     case round=>
      obtain⟨J,hJ,rfl,hm,hbw⟩:=hrel
      have HM2:=hide hm;have HBW2:=hide hbw
      cases J with
      |zero=>
       clear hm hbw
       go_wp2
       go_roundw
       case rel=>exact⟨i,by omega,by go_num,HM2.out.congr MxF_out,HBW2.out⟩
       case measure=>first|(simp[intOf];done)|(simp[intOf];omega)
      |succ j=>
       have hj1:((j+1:Nat):Int) - 1=(j:Int):=by omega
       rw[hj1]
       have hia:i<a.length:=by omega
       have hjb:j<b.length:=by omega
       have hia3:(i:Int)<(a.length:Int):=by omega
       have hjb3:(j:Int)<(b.length:Int):=by omega
       have hia4:(i:Int)<(a.length:Int)+1:=by omega
       have hjb4:(j:Int)<(b.length:Int)+1:=by omega
       have hz1:(0:Int)≤(i:Int)+1:=by omega
       have hz2:(0:Int)≤(j:Int)+1:=by omega
       have hia5:(i:Int)+1<(a.length:Int)+1:=by omega
       have hjb5:(j:Int)+1<(b.length:Int)+1:=by omega
       have hxa:a[i]?=some a[i]:=List.getElem?_eq_getElem hia
       have hyb:b[j]?=some b[j]:=List.getElem?_eq_getElem hjb
       obtain⟨ab,ao,rfl,hab,e1⟩:=HX1.out i _ hxa
       obtain⟨bb,bo,rfl,hbb,e2⟩:=HX2.out j _ hyb
       have d1:=(HBW2.out.cell hab).trans e1
       have d2:=(HBW2.out.cell hbb).trans e2
       have HLE:=hide (lenM_eq hxa hyb)
       have hb1:=lenM_bd a b (i+1) (j+1);have hb2:=lenM_bd a b (i+1) j;have hb3:=lenM_bd a b i (j+1)
       have q1:=hm.out (i:=i) (by omega)
       have q2:=hm.out (i:=i+1) (by omega)
       have q3:=hm.at_ (i:=i+1) (j:=j+1) (by omega) (by omega)
       have q4:=hm.at_ (i:=i+1) (j:=j) (by omega) (by omega)
       have q5:=hm.at_ (i:=i) (j:=j+1) (by omega) (by omega)
       have q6:=hm.at_ (i:=i) (j:=j) (by omega) (by omega)
       have q7:=hm.free (i:=i) (by omega) j
       rw[MxF_low] at q3 q4
       rw[MxF_right] at q5
       clear e1 e2 hm hbw hxa hyb
       generalize a[i]=x at *
       generalize b[j]=y at *
       generalize hv1:lenM a b (i+1) (j+1)=v1 at *
       generalize hv2:lenM a b (i+1) j=v2 at *
       generalize hv3:lenM a b i (j+1)=v3 at *
       have hw1:IntKind.i64.wrap ((i:Int)+1)=(i:Int)+1:=IntWalk.i64_in _ (by omega)
       have hw2:IntKind.i64.wrap ((j:Int)+1)=(j:Int)+1:=IntWalk.i64_in _ (by omega)
       have hw3:IntKind.i64.wrap (v1+1)=v1+1:=IntWalk.i64_in _ (by omega)
       have HV1:=hide hv1;have HV2:=hide hv2;have HV3:=hide hv3
       clear hv1 hv2 hv3
       have HMM2:=HM2
       have HRW:=hide (show w.heap.size≤R i by have:=HRG.out i (by have:=HKE.out;omega);omega)
       by_cases hxy:x=y
       ·have hxb:(x.toList == y.toList)=true:=by rw[str_eq];exact decide_eq_true hxy
        have HL:=hide (HLE.out.trans (if_pos hxy))
        clear hxy
        go_wp2
        go_quiet (fail)
        go_wp2
        refine wp_region_still_tail 16 (by kernel_rfl) (by kernel_rfl) ?_
        simp only[List.take_succ_cons,List.take_zero,List.drop_succ_cons,List.drop_zero]
        change wpStill _ _ (World.drew (wr.drewN _)) (fun a'=>wpList _ _ _ _ a' (World.drew (wr.drewN _))) _ _
        repeat still_step
        try refine wpStill_nil ?_
        have HST:=hide (HMM2.out.set_ (i:=i) (by omega) j (v1+1))
        go_wp2
        go_roundw
        case rel=>exact⟨j,by omega,by go_num,Mat.congr (M:=fun r c=>if r=i∧c=j then v1+1 else MxF a b (i+1) (j+1) r c) HST.out (fun r c hr hc=>by rw[←MxF_step (i:=i) (j:=j) r c hr hc,HL.out]),by first|exact((below_drewN HBW2.out _).setCell (HRW.out) _)|exact(below_drewN (HBW2.out.setCell (HRW.out) _) _)|exact(below_drewN (below_drewN (HBW2.out.setCell (HRW.out) _) _) _)⟩
        case measure=>first|(simp[intOf];done)|(simp[intOf];omega)
       ·have hxb:(x.toList == y.toList)=false:=by rw[str_eq];exact decide_eq_false hxy
        have HL:=hide (HLE.out.trans (if_neg hxy))
        clear hxy
        go_wp2
        go_quiet (fail)
        go_wp2
        refine wp_region_still_tail 23 (by kernel_rfl) (by kernel_rfl) ?_
        simp only[List.take_succ_cons,List.take_zero,List.drop_succ_cons,List.drop_zero]
        change wpStill _ _ (World.drew (wr.drewN _)) (fun a'=>wpList _ _ _ _ a' (World.drew (wr.drewN _))) _ _
        repeat still_step
        try refine wpStill_nil ?_
        have HST:=hide (HMM2.out.set_ (i:=i) (by omega) j (max v2 v3))
        go_wp2
        go_roundw
        case rel=>exact⟨j,by omega,by go_num,Mat.congr (M:=fun r c=>if r=i∧c=j then max v2 v3 else MxF a b (i+1) (j+1) r c) HST.out (fun r c hr hc=>by rw[←MxF_step (i:=i) (j:=j) r c hr hc,HL.out]),by first|exact((below_drewN HBW2.out _).setCell (HRW.out) _)|exact(below_drewN (HBW2.out.setCell (HRW.out) _) _)|exact(below_drewN (below_drewN (HBW2.out.setCell (HRW.out) _) _) _)⟩
        case measure=>first|(simp[intOf];done)|(simp[intOf];omega)
end Go.Proofs.YtbgedljbgkcpiaaGreatDoor
end
section
namespace Go.Proofs.YtbgedljbgkcpiaaGreatDoor
open Go.RowKit
theorem info_i64':(Tryz.prog.info? 2).map (fun i=>(i.zero,i.size,i.bytes))=some (some (.int .i64 0),1,8):=by kernel_rfl
theorem info_sl64:(Tryz.prog.info? 24).map (fun i=>(i.zero,i.size,i.bytes))=some (some (.slice none 0 0),1,24):=by kernel_rfl
theorem c_l00Max (x y:Int) (w:World):Calls Tryz.prog 99 #[.int .i64 x,.int .i64 y] w fun e w'=>e= .returned (.int .i64 (max x y))∧w=w':=by
 by_cases h:y<x
 ·have hm:max x y=x:=by omega
  rw[hm]
  go_enter Tryz.func99,Tryz.ntmps99
  go_wp2
  go_ret
  exact⟨rfl,rfl⟩
 ·have hm:max x y=y:=by omega
  rw[hm]
  go_enter Tryz.func99,Tryz.ntmps99
  go_wp2
  go_ret
  exact⟨rfl,rfl⟩
/-- The table while the rows from k on are laid. -/
def MatP (TI TO:TypeId) (w:World) (g:Nat) (R:Nat→Nat) (n m k:Nat) (M:Nat→Nat→Int):Prop:=
 Bk w g TO (arrA (fun i=>if k≤i then .slice (some ⟨R i,0,none⟩) m m else .slice none 0 0) n)∧(∀ i,k≤i→i<n→Bk w (R i) TI (arrA (fun j=> .int .i64 (M i j)) m))∧(∀ i,k≤i→i<n→g<R i)∧(∀ i j,k≤i→k≤j→i<n→j<n→i≠j→R i≠R j)
section
variable {TI TO:TypeId} {w w':World} {g n m k:Nat} {R:Nat→Nat} {M M':Nat→Nat→Int}
theorem MatP.out (h:MatP TI TO w g R n m k M) {i:Nat} (hk:k≤i) (hi:i<n):w.cell? ⟨g,i,none⟩=some (.slice (some ⟨R i,0,none⟩) m m):=by rw[h.1.cell,arrA_at hi,if_pos hk]
theorem MatP.at_ (h:MatP TI TO w g R n m k M) {i j:Nat} (hk:k≤i) (hi:i<n) (hj:j<m):w.cell? ⟨R i,j,none⟩=some (.int .i64 (M i j)):=by rw[(h.2.1 i hk hi).cell,arrA_at hj]
theorem MatP.free (h:MatP TI TO w g R n m k M) {i:Nat} (hk:k≤i) (hi:i<n) (j:Nat):w.frozen? ⟨R i,j,none⟩=false:=(h.2.1 i hk hi).free j
theorem MatP.congr (h:MatP TI TO w g R n m k M) (he: ∀ i j,k≤i→i<n→j<m→M i j=M' i j):MatP TI TO w g R n m k M':=
 ⟨h.1,fun i hk hi=>by rw[←arrA_congr (V:=fun j=>Value.int .i64 (M i j)) (fun j hj=>by rw[he i j hk hi hj])];exact h.2.1 i hk hi,h.2.2⟩
theorem MatP.set_ (h:MatP TI TO w g R n m k M) {i:Nat} (hki:k≤i) (hi:i<n) (j:Nat) (x:Int):MatP TI TO (w.setCell ⟨R i,j,none⟩ (.int .i64 x)) g R n m k (fun a b=>if a=i∧b=j then x else M a b):=by
 refine⟨h.1.far (p:=⟨R i,j,none⟩) (fun e=>by have:=h.2.2.1 i hki hi;simp only at e;omega) _,fun q hkq hq=>?_,h.2.2⟩
 by_cases hqi:q=i
 ·subst hqi
  have:=(h.2.1 q hkq hq).set_ j (.int .i64 x)
  rw[arrA_set] at this
  rw[arrA_congr (W:=fun b=>if b=j then Value.int .i64 x else Value.int .i64 (M q b)) (fun b _=>by by_cases hb:b=j<;>simp[hb])]
  exact this
 ·have:=(h.2.1 q hkq hq).far (p:=⟨R i,j,none⟩) (h.2.2.2 q i hkq hki hq hi hqi) (.int .i64 x)
  rw[arrA_congr (W:=fun b=>Value.int .i64 (M q b)) (fun b _=>by simp[hqi])]
  exact this
/-- One row more, in front. -/
theorem MatP.row (h:MatP TI TO w g R n m (k+1) M) (hk:k<n) (hb:Below w.heap.size w w') (hz:Bk w' w.heap.size TI (arrA (fun _=> .int .i64 0) m)):
  MatP TI TO (w'.setCell ⟨g,k,none⟩ (.slice (some ⟨w.heap.size,0,none⟩) m m)) g (fun i=>if i=k then w.heap.size else R i) n m k (fun i j=>if i=k then 0 else M i j):=by
 have hgl:=h.1.lt
 refine⟨?_,fun i hki hi=>?_,fun i hki hi=>?_,fun i j hki hkj hi hj hij=>?_⟩
 ·have:=(h.1.below hb hgl).set_ k (.slice (some ⟨w.heap.size,0,none⟩) m m)
  rw[arrA_set,arrA_congr (W:=fun i=>if k≤i then Value.slice (some ⟨if i=k then w.heap.size else R i,0,none⟩) m m else .slice none 0 0) (fun i _=>by
   by_cases h1:i=k
   ·subst h1;simp
   ·by_cases h2:k+1≤i
    ·simp[h1,h2,show k≤i by omega]
    ·simp[h1,h2,show ¬ k≤i by omega])] at this
  exact this
 ·by_cases h1:i=k
  ·simp only[h1,if_true]
   exact hz.far (by show w.heap.size≠g;omega) _
  ·simp only[h1,if_false]
   have:=h.2.1 i (by omega) hi
   exact(this.below hb this.lt).far (by show R i≠g;have:=h.2.2.1 i (by omega) hi;omega) _
 ·by_cases h1:i=k
  ·simp only[h1,if_true];exact hgl
  ·simp only[h1,if_false];exact h.2.2.1 i (by omega) hi
 ·by_cases h1:i=k<;>by_cases h2:j=k
  ·omega
  ·simp only[h1,h2,if_true,if_false]
   have:=(h.2.1 j (by omega) hj).lt;omega
  ·simp only[h1,h2,if_true,if_false]
   have:=(h.2.1 i (by omega) hi).lt;omega
  ·simp only[h1,h2,if_false]
   exact h.2.2.2 i j (by omega) (by omega) hi hj hij
theorem MatP.all (h:MatP TI TO w g R n m 0 M):Mat TI TO w g R n m M:=
 ⟨by have:=h.1;simpa using this,fun i hi=>h.2.1 i (Nat.zero_le _) hi,fun i hi=>by have:=h.2.2.1 i (Nat.zero_le _) hi;omega,fun i j hi hj=>h.2.2.2 i j (Nat.zero_le _) (Nat.zero_le _) hi hj⟩
end
end Go.Proofs.YtbgedljbgkcpiaaGreatDoor
end
section
namespace Go.Proofs.YtbgedljbgkcpiaaGreatDoor
open Go.RowKit
theorem q_l00Max (x y:Int) (w:World):Calls Tryz.prog 99 #[.int .i64 x,.int .i64 y] w fun e w'=>e= .returned (.int .i64 (max x y))∧w'=w:=
 (c_l00Max x y w).mono fun _ _ ⟨h1,h2⟩=>⟨h1,h2.symm⟩
theorem MatP.drew_ {TI TO:TypeId} {w:World} {g n m k:Nat} {R:Nat→Nat} {M:Nat→Nat→Int} (h:MatP TI TO w g R n m k M):MatP TI TO w.drew g R n m k M:=h
theorem below_drew1 {B:Nat} {a w:World} (h:Below B a w):Below B a w.drew:=⟨h.os,h.tape,h.output,h.size,h.block⟩
def NxF (a b:List ByteArray) (i J r c:Nat):Int:=if r=i then (if J≤c then lenM a b i c else 0) else lenM a b r c
theorem NxF_start {a b:List ByteArray} {i:Nat} : ∀ r c,i≤r→r<a.length+1→c<b.length+1→(if r=i then (0:Int) else lenM a b r c)=NxF a b i b.length r c:=by
 intro r c _ hr hc
 unfold NxF
 by_cases h:r=i
 ·rw[if_pos h,if_pos h]
  split
  ·have:c=b.length:=by omega
   rw[this,lenM_col]
  ·rfl
 ·rw[if_neg h,if_neg h]
theorem NxF_low {a b:List ByteArray} {i J c:Nat} :NxF a b i J (i+1) c=lenM a b (i+1) c:=by
 unfold NxF;rw[if_neg (by omega)]
theorem NxF_right {a b:List ByteArray} {i J:Nat} :NxF a b i J i J=lenM a b i J:=by
 unfold NxF;rw[if_pos rfl,if_pos (Nat.le_refl _)]
theorem NxF_out {a b:List ByteArray} {i:Nat} : ∀ r c,i≤r→r<a.length+1→c<b.length+1→NxF a b i 0 r c=lenM a b r c:=by
 intro r c _ _ _
 unfold NxF
 by_cases h:r=i
 ·rw[if_pos h,if_pos (Nat.zero_le _),h]
 ·rw[if_neg h]
theorem NxF_step {a b:List ByteArray} {i j:Nat} (v:Int) (hv:v=lenM a b i j) (M:Nat→Nat→Int) (hM: ∀ r c,(r≠i∨c≠j)→M r c=NxF a b i (j+1) r c): ∀ r c,i≤r→r<a.length+1→c<b.length+1→(if r=i∧c=j then v else M r c)=NxF a b i j r c:=by
 intro r c _ hr hc
 by_cases h:r=i∧c=j
 ·rw[if_pos h,hv];unfold NxF;rw[if_pos h.1,if_pos (by omega),h.2]
 ·rw[if_neg h,hM r c (by omega)]
  unfold NxF
  by_cases h1:r=i
  ·rw[if_pos h1,if_pos h1]
   by_cases h2:j+1≤c
   ·rw[if_pos h2,if_pos (by omega)]
   ·rw[if_neg h2,if_neg (by omega)]
  ·rw[if_neg h1,if_neg h1]
theorem c_l32Common (va vb:Value) (a b:List ByteArray) (w:World) (hra:RdS w va a) (hrb:RdS w vb b) (ha:a.length≤200) (hb:b.length≤200):
  Calls Tryz.prog 57 #[va,vb] w fun e w'=> ∃ (g:Nat) (R:Nat→Nat),e= .returned (.slice (some ⟨g,0,none⟩) (a.length+1) (a.length+1))∧Mat 2 24 w' g R (a.length+1) (b.length+1) (lenM a b)∧Below w.heap.size w w':=by
 obtain⟨A1,cap1,rfl,hl1,hc1,hx1⟩:=hra.openS
 obtain⟨A2,cap2,rfl,hl2,hc2,hx2⟩:=hrb.openS
 have HX1:=hide hx1;have HX2:=hide hx2;clear hx1 hx2 hra hrb
 obtain⟨i1,hi1,hz10,hz11,hz12⟩:=info_parts info_sl64
 obtain⟨i2,hi2,hz20,hz21,hz22⟩:=info_parts info_i64'
 have hwa:IntKind.i64.wrap ((a.length:Int) - 1)=(a.length:Int) - 1:=IntWalk.i64_in _ (by omega)
 go_enter Tryz.func57,Tryz.ntmps57
 go_wp2_with (first
  |(at_make;refine wpList_make_full _ rfl _ _ _ rfl w.heap.size 24 i1 _ 1 Tryz.underlying22 hi1 hz10 hz11 .i64 .i64 _ _ (a.length+1) rfl rfl (by first|rfl|omega) (by first|rfl|omega) (by rw[hz12];omega) (by unfold maxLen;omega) (Nat.le_refl _) ?_;intro w1 hown1 hg1;have hbk1:=own_bk hown1;have hgl1:=hbk1.lt;have HB1:=hide ((Below.refl w.heap.size w).grown hg1 (Nat.le_refl _) (by simp));have HK1:=hide hbk1;clear hown1 hg1 hbk1)
  |(at_make;refine wpList_make_full _ rfl _ _ _ rfl w1.heap.size 2 i2 _ 1 Tryz.underlying24 hi2 hz20 hz21 .i64 .i64 _ _ (b.length+1) rfl rfl (by first|rfl|omega) (by first|rfl|omega) (by rw[hz22];omega) (by unfold maxLen;omega) (Nat.le_refl _) ?_;intro w2 hown2 hg2;have hbk2:=own_bk hown2;have hbe2:=(Below.refl w1.heap.size w1).grown hg2 (Nat.le_refl _) (by simp);have c1:=(HK1.out.below hbe2 hgl1).cell a.length;have f1:=(HK1.out.below hbe2 hgl1).free a.length;rw[arrA_at (Nat.lt_succ_self _)] at c1;have HE2:=hide hbe2;have HK2:=hide hbk2;clear hown2 hg2 hbk2 hbe2))
 have hm0:MatP 2 24 w1 w.heap.size (fun _=>0) (a.length+1) (b.length+1) (a.length+1) (lenM a b):=
  ⟨by rw[←arrA_congr (V:=fun _=>Value.slice none 0 0) (fun i hi=>by rw[if_neg (by omega)])];exact HK1.out,fun i h1 h2=>by omega,fun i h1 h2=>by omega,fun i j h1 h2 h3=>by omega⟩
 have hm1:=(hm0.row (Nat.lt_succ_self _) HE2.out HK2.out).congr (M':=lenM a b) (fun i j h1 h2 _=>by
  have:i=a.length:=by omega
  rw[if_pos this,this,lenM_row])
 have HM1:=hide hm1
 have HBS:=hide ((yH HB1.out HB1.out.size HE2.out).setCell (Nat.le_refl w.heap.size) (p:=⟨w.heap.size,a.length,none⟩) (.slice (some ⟨w1.heap.size,0,none⟩) (b.length+1) (b.length+1)))
 clear hm0 hm1
 generalize hG:(fun i=>if i=a.length then w1.heap.size else (fun _=>0) i)=R1 at HM1
 clear hG
 go_loopw [6] (fun iv wr=> ∃ (I:Nat) (R:Nat→Nat),I≤a.length∧iv= .int .i64 ((I:Int) - 1)∧MatP 2 24 wr w.heap.size R (a.length+1) (b.length+1) I (lenM a b)∧Below w.heap.size w wr) (fun iv _=>(intOf iv+1).toNat)
 case atStart=>exact⟨a.length,R1,Nat.le_refl _,rfl,HM1.out,HBS.out⟩
 case round=>
  obtain⟨I,R,hI,rfl,hm,hbw⟩:=hrel
  have HMM:=hide hm;have HBW:=hide hbw
  clear HM1 HBS HB1 HE2 HK2 HK1
  cases I with
  |zero=>
   clear hm hbw
   go_wp2
   go_ret
   exact⟨_,R,rfl,HMM.out.all,HBW.out⟩
  |succ i=>
   have hi1:((i+1:Nat):Int) - 1=(i:Int):=by omega
   rw[hi1]
   have hia:i<a.length:=by omega
   have hia3:(i:Int)<(a.length:Int):=by omega
   have hia4:(i:Int)<(a.length:Int)+1:=by omega
   have hgl:=hm.1.lt
   clear hm hbw
   have hwb:IntKind.i64.wrap ((b.length:Int) - 1)=(b.length:Int) - 1:=IntWalk.i64_in _ (by omega)
   go_wp2_with (at_make;refine wpList_make_full _ rfl _ _ _ rfl wr.heap.size 2 i2 _ 1 Tryz.underlying24 hi2 hz20 hz21 .i64 .i64 _ _ (b.length+1) rfl rfl (by first|rfl|omega) (by first|rfl|omega) (by rw[hz22];omega) (by unfold maxLen;omega) (Nat.le_refl _) ?_;intro w3 hown3 hg3;have hbk3:=own_bk hown3;have hbe3:=(Below.refl wr.heap.size wr).grown hg3 (Nat.le_refl _) (by simp);have c2:=(HMM.out.1.below hbe3 hgl).cell i;have f2:=(HMM.out.1.below hbe3 hgl).free i;rw[arrA_at (by omega),if_neg (Nat.not_succ_le_self _)] at c2;have HE3:=hide hbe3;have HK3:=hide hbk3;clear hown3 hg3 hbk3 hbe3)
   have HMP:=hide ((HMM.out.row (by omega) HE3.out HK3.out).congr NxF_start)
   have HBP:=hide ((yH HBW.out HBW.out.size HE3.out).setCell (Nat.le_refl w.heap.size) (p:=⟨w.heap.size,i,none⟩) (.slice (some ⟨wr.heap.size,0,none⟩) (b.length+1) (b.length+1)))
   generalize (fun q=>if q=i then wr.heap.size else R q)=R2 at HMP
   clear HMM HBW HE3 HK3
   generalize wr=wo at *
   go_loopw [7] (fun jv wr=> ∃ J:Nat,J≤b.length∧jv= .int .i64 ((J:Int) - 1)∧MatP 2 24 wr w.heap.size R2 (a.length+1) (b.length+1) i (NxF a b i J)∧Below w.heap.size w wr) (fun jv _=>(intOf jv+1).toNat)
   case atStart=>exact⟨b.length,Nat.le_refl _,rfl,HMP.out,HBP.out⟩
   case round=>
    obtain⟨J,hJ,rfl,hm,hbw⟩:=hrel
    have HM2:=hide hm;have HBW2:=hide hbw
    cases J with
    |zero=>
     clear hm hbw
     go_wp2
     go_roundw
     case rel=>exact⟨i,R2,by omega,by go_num,HM2.out.congr NxF_out,HBW2.out⟩
     case measure=>first|(simp[intOf];done)|(simp[intOf];omega)
    |succ j=>
     have hj1:((j+1:Nat):Int) - 1=(j:Int):=by omega
     rw[hj1]
     have hjb:j<b.length:=by omega
     have hjb3:(j:Int)<(b.length:Int):=by omega
     have hjb4:(j:Int)<(b.length:Int)+1:=by omega
     have hz1:(0:Int)≤(i:Int)+1:=by omega
     have hz2:(0:Int)≤(j:Int)+1:=by omega
     have hia5:(i:Int)+1<(a.length:Int)+1:=by omega
     have hjb5:(j:Int)+1<(b.length:Int)+1:=by omega
     have hxa:a[i]?=some a[i]:=List.getElem?_eq_getElem hia
     have hyb:b[j]?=some b[j]:=List.getElem?_eq_getElem hjb
     obtain⟨ab,ao,rfl,hab,e1⟩:=HX1.out i _ hxa
     obtain⟨bb,bo,rfl,hbb,e2⟩:=HX2.out j _ hyb
     have HLE:=hide (lenM_eq hxa hyb)
     have hb1:=lenM_bd a b (i+1) (j+1);have hb2:=lenM_bd a b (i+1) j;have hb3:=lenM_bd a b i (j+1)
     have q1:=hm.out (i:=i) (Nat.le_refl _) (by omega)
     have q2:=hm.out (i:=i+1) (by omega) (by omega)
     have q3:=hm.at_ (i:=i+1) (j:=j+1) (by omega) (by omega) (by omega)
     have q4:=hm.at_ (i:=i+1) (j:=j) (by omega) (by omega) (by omega)
     have q5:=hm.at_ (i:=i) (j:=j+1) (by omega) (by omega) (by omega)
     have q6:=hm.at_ (i:=i) (j:=j) (by omega) (by omega) (by omega)
     have q7:=hm.free (i:=i) (Nat.le_refl _) (by omega) j
     rw[NxF_low] at q3 q4
     rw[NxF_right] at q5
     have HRW:=hide (show w.heap.size≤R2 i by have:=hm.2.2.1 i (Nat.le_refl _) (by omega);omega)
     clear hm hbw hxa hyb
     generalize a[i]=x at *
     generalize b[j]=y at *
     generalize hv1:lenM a b (i+1) (j+1)=v1 at *
     generalize hv2:lenM a b (i+1) j=v2 at *
     generalize hv3:lenM a b i (j+1)=v3 at *
     have hw1:IntKind.i64.wrap ((i:Int)+1)=(i:Int)+1:=IntWalk.i64_in _ (by omega)
     have hw2:IntKind.i64.wrap ((j:Int)+1)=(j:Int)+1:=IntWalk.i64_in _ (by omega)
     have hw3:IntKind.i64.wrap (v1+1)=v1+1:=IntWalk.i64_in _ (by omega)
     have HV1:=hide hv1;have HV2:=hide hv2;have HV3:=hide hv3
     clear hv1 hv2 hv3
     clear HMP HBP
     have HE1:=hide e1;have HE2:=hide e2
     clear e1 e2
     go_wp2
     refine wp_region_still_tail 23 (by kernel_rfl) (by kernel_rfl) ?_
     simp only[List.take_succ_cons,List.take_zero,List.drop_succ_cons,List.drop_zero]
     change wpStill _ _ (World.drew wr) (fun a'=>wpList _ _ _ _ a' (World.drew wr)) _ _
     repeat still_step
     still_call (q_l00Max v2 v3 _)
     repeat still_step
     try refine wpStill_nil ?_
     have hmn:=(HM2.out.set_ (i:=i) (Nat.le_refl _) (by omega) j (max v2 v3)).drew_
     have hbn:=below_drew1 (HBW2.out.setCell HRW.out (p:=⟨R2 i,j,none⟩) (.int .i64 (max v2 v3)))
     clear q1 q2 q3 q4 q5
     go_wp2
     clear q6 q7
     generalize hwn:World.drew (World.setCell wr ⟨R2 i,j,none⟩ (.int .i64 (max v2 v3)))=wn at *
     clear hwn HM2 HBW2
     have d1:=(hbn.cell hab).trans HE1.out
     have d2:=(hbn.cell hbb).trans HE2.out
     have q1:=hmn.out (i:=i) (Nat.le_refl _) (by omega)
     have q2:=hmn.out (i:=i+1) (by omega) (by omega)
     have q3:=hmn.at_ (i:=i+1) (j:=j+1) (by omega) (by omega) (by omega)
     rw[if_neg (by omega),NxF_low,HV1.out] at q3
     have q6:=hmn.at_ (i:=i) (j:=j) (Nat.le_refl _) (by omega) (by omega)
     rw[if_pos ⟨rfl,rfl⟩] at q6
     have q7:=hmn.free (i:=i) (Nat.le_refl _) (by omega) j
     have HMN:=hide hmn;have HBN:=hide hbn
     clear hmn hbn
     by_cases hxy:x=y
     ·have hxb:(x.toList == y.toList)=true:=by rw[str_eq];exact decide_eq_true hxy
      have HL:=hide (HLE.out.trans (if_pos hxy))
      clear hxy
      go_quiet (fail)
      go_wp2
      refine wp_region_still_tail 16 (by kernel_rfl) (by kernel_rfl) ?_
      simp only[List.take_succ_cons,List.take_zero,List.drop_succ_cons,List.drop_zero]
      change wpStill _ _ (World.drew (wn.drewN _)) (fun a'=>wpList _ _ _ _ a' (World.drew (wn.drewN _))) _ _
      repeat still_step
      try refine wpStill_nil ?_
      have HST:=hide (HMN.out.set_ (i:=i) (Nat.le_refl _) (by omega) j (v1+1))
      go_wp2
      go_roundw
      case rel=>exact⟨j,by omega,by go_num,MatP.congr (M:=fun r c=>if r=i∧c=j then v1+1 else if r=i∧c=j then max v2 v3 else NxF a b i (j+1) r c) HST.out (NxF_step _ HL.out.symm _ (fun r c h=>if_neg (by omega))),by first|exact((below_drewN HBN.out _).setCell (HRW.out) _)|exact(below_drewN (HBN.out.setCell (HRW.out) _) _)|exact(below_drewN (below_drewN (HBN.out.setCell (HRW.out) _) _) _)⟩
      case measure=>first|(simp[intOf];done)|(simp[intOf];omega)
     ·have hxb:(x.toList == y.toList)=false:=by rw[str_eq];exact decide_eq_false hxy
      have HL:=hide (HLE.out.trans (if_neg hxy))
      clear hxy
      go_quiet (fail)
      go_wp2
      go_roundw
      case rel=>exact⟨j,by omega,by go_num,MatP.congr HMN.out (NxF_step _ HL.out.symm _ (fun r c h=>rfl)),by first|exact HBN.out|exact below_drewN HBN.out _⟩
      case measure=>first|(simp[intOf];done)|(simp[intOf];omega)
end Go.Proofs.YtbgedljbgkcpiaaGreatDoor
end
section
namespace Go.Proofs.YtbgedljbgkcpiaaGreatDoor
open Go.RowKit
theorem c_eqChange (c d:Chg) (w:World):
  Calls Tryz.prog 32 #[.agg #[.int .i64 c.k,.int .i64 c.p,.string c.t],.agg #[.int .i64 d.k,.int .i64 d.p,.string d.t]] w fun e w'=>e= .returned (.bool (decide (c=d)))∧Below w.heap.size w w':=by
 go_enter Tryz.func32,Tryz.ntmps32
 go_wp2
 all_goals go_ret
 all_goals refine⟨?_,((Below.refl _ _).alloc (Nat.le_refl _) _).alloc (by simp) _⟩
 all_goals refine yG ?_
 all_goals (obtain⟨k1,p1,t1⟩:=c;obtain⟨k2,p2,t2⟩:=d;simp_all [Chg.mk.injEq,str_eq])

end Go.Proofs.YtbgedljbgkcpiaaGreatDoor
end
section
namespace Go.Proofs.YtbgedljbgkcpiaaGreatDoor
open Go.RowKit
theorem info_chg:(Tryz.prog.info? 71).map (fun i=>(i.zero,i.size,i.bytes))=some (some (.agg #[.int .i64 0,.int .i64 0,.string ByteArray.empty]),3,32):=by kernel_rfl
theorem c_eqCC (c:Chg) (w:World):
  Calls Tryz.prog 32 #[.agg #[.int .i64 c.k,.int .i64 c.p,.string c.t],.agg #[.int .i64 c.k,.int .i64 c.p,.string c.t]] w fun e w'=>e= .returned (.bool true)∧Below w.heap.size w w':=
 (c_eqChange c c w).mono fun e w' ⟨h1,h2⟩=>⟨by rw[h1];simp,h2⟩
theorem c_eqCS (v1 v2:Value) (cs:List Chg) (w:World) (hr1:RdC w v1 cs) (hr2:RdC w v2 cs):Calls Tryz.prog 8 #[v1,v2] w fun e w'=>e= .returned (.bool true)∧Below w.heap.size w w':=by
 obtain⟨A1,cap1,rfl,hl1,hc1,hx1⟩:=hr1.openC
 obtain⟨A2,cap2,rfl,hl2,hc2,hx2⟩:=hr2.openC
 have HX1:=hide hx1;have HX2:=hide hx2;clear hx1 hx2 hr1 hr2
 go_enter Tryz.func8,Tryz.ntmps8
 go_wp2
 go_loopw [5] (fun i wr=> ∃ k:Nat,k≤cs.length∧i= .int .i64 k∧Below w.heap.size w wr) (fun i _=>cs.length - (intOf i).toNat)
 case atStart=>exact⟨0,Nat.zero_le _,rfl,Below.refl _ _⟩
 case round=>
  obtain⟨k,hk,rfl,hb⟩:=hrel
  have HB:=hide hb;clear hb
  by_cases hlt:k<cs.length
  ·obtain⟨b1,o1,rfl,hb1,e0,e1,e2⟩:=HX1.out k cs[k] (List.getElem?_eq_getElem hlt)
   obtain⟨b2,o2,rfl,hb2,e3,e4,e5⟩:=HX2.out k cs[k] (List.getElem?_eq_getElem hlt)
   have d0:=(HB.out.cell hb1).trans e0;have d1:=(HB.out.cell hb1).trans e1;have d2:=(HB.out.cell hb1).trans e2
   have d3:=(HB.out.cell hb2).trans e3;have d4:=(HB.out.cell hb2).trans e4;have d5:=(HB.out.cell hb2).trans e5
   have hq1:b1<wr.heap.size:=Nat.lt_of_lt_of_le hb1 HB.out.size
   have hq2:b2<wr.heap.size:=Nat.lt_of_lt_of_le hb2 HB.out.size
   clear e0 e1 e2 e3 e4 e5
   generalize hg:cs[k]=c at *
   have HG:=hide hg;clear hg
   go_wp2
   go_region_held3 (fun w'=>w'.cell? ⟨b1,o1+k * 3,none⟩=some (.int .i64 c.k)∧w'.cell? ⟨b1,o1+k * 3+1,none⟩=some (.int .i64 c.p)∧w'.cell? ⟨b1,o1+k * 3+2,none⟩=some (.string c.t)∧w'.cell? ⟨b2,o2+k * 3,none⟩=some (.int .i64 c.k)∧w'.cell? ⟨b2,o2+k * 3+1,none⟩=some (.int .i64 c.p)∧w'.cell? ⟨b2,o2+k * 3+2,none⟩=some (.string c.t)) (first|go_keep|(refine⟨(hb3.cell ?_).trans ?_,(hb3.cell ?_).trans ?_,(hb3.cell ?_).trans ?_,(hb3.cell ?_).trans ?_,(hb3.cell ?_).trans ?_,(hb3.cell ?_).trans ?_⟩<;>first|assumption|(simp[*];done)|(simp;omega))) (first|(go_at_call 32;refine(c_eqCC c _).mono ?_;rintro e w3 ⟨rfl,hb3⟩))
   have hb4:Below w.heap.size w w3:=yH HB.out HB.out.size (by first|exact hb3|exact undrew hb3|exact undrewN hb3)
   have HB4:=hide hb4;clear hb4 hb3
   go_wp2
   go_roundw
   case rel=>exact⟨k+1,by omega,by go_num,(by first|exact HB4.out|exact undrew HB4.out|exact Below.drew HB4.out|exact Below.drew (undrew HB4.out)|exact undrewN HB4.out|exact below_drewN HB4.out _)⟩
   case measure=>simp[intOf];omega
  ·go_wp2
   go_ret
   exact⟨rfl,HB.out⟩
end Go.Proofs.YtbgedljbgkcpiaaGreatDoor
end
section
namespace Go.Proofs.YtbgedljbgkcpiaaGreatDoor
open Go.Lib
/-- A number in decimal. -/
def decL (n:Int):List UInt8:=itoa n
def decS (n:Int):ByteArray:=mkS (decL n)
def digB (b:UInt8):Bool:=decide (48≤b.toNat∧b.toNat≤57)
def numV (a:Nat) (l:List UInt8):Nat:=l.foldl (fun a b=>a * 10+(b.toNat - 48)) a
theorem numV_nil (a:Nat):numV a []=a:=rfl
theorem numV_cons (a:Nat) (b:UInt8) (t:List UInt8):numV a (b :: t)=numV (a * 10+(b.toNat - 48)) t:=by unfold numV;rw[List.foldl_cons]
theorem numV_append (x y:List UInt8) (a:Nat):numV a (x++y)=numV (numV a x) y:=List.foldl_append
theorem numV_one (a:Nat) (b:UInt8):numV a [b]=a * 10+(b.toNat - 48):=by rw[numV_cons,numV_nil]
theorem dig_of {d:Nat} (h:d<10):(UInt8.ofNat (48+d)).toNat=48+d:=UInt8.toNat_ofNat_of_lt' (by show 48+d<256;omega)
theorem decDigits_small {u:Nat} (h:u<10):decDigits u= [UInt8.ofNat (48+u)]:=by rw[decDigits,dif_pos h]
theorem decDigits_big {u:Nat} (h: ¬ u<10):decDigits u=decDigits (u / 10)++ [UInt8.ofNat (48+u % 10)]:=by rw[decDigits,dif_neg h]
theorem dec_digits (u:Nat):(∀ b ∈ decDigits u,digB b=true)∧numV 0 (decDigits u)=u∧decDigits u≠ []:=by
 induction u using Nat.strongRecOn with
 |_ u ih=>
  by_cases h:u<10
  ·rw[decDigits_small h]
   refine⟨?_,?_,by simp⟩
   ·intro b hb
    simp only[List.mem_singleton] at hb
    subst hb
    unfold digB
    rw[dig_of h]
    simp;omega
   ·rw[numV_one,dig_of h];omega
  ·obtain⟨h1,h2,h3⟩:=ih (u / 10) (by omega)
   rw[decDigits_big h]
   refine⟨?_,?_,by simp⟩
   ·intro b hb
    rcases List.mem_append.1 hb with hb|hb
    ·exact h1 b hb
    ·simp only[List.mem_singleton] at hb
     subst hb
     unfold digB
     rw[dig_of (Nat.mod_lt _ (by omega))]
     have:=Nat.mod_lt u (show 10 > 0 by omega)
     simp;omega
   ·rw[numV_append,h2]
    rw[numV_one,dig_of (Nat.mod_lt _ (by omega))]
    omega
/-- The digits that are there already, when a number is taken apart from behind. -/
def preD (u:Nat):List UInt8:=if u=0 then [] else decDigits u
theorem preD_step {u:Nat} (h:u≠0):preD u=preD (u / 10)++ [UInt8.ofNat (48+u % 10)]:=by
 unfold preD
 rw[if_neg h]
 by_cases h1:u<10
 ·rw[decDigits_small h1,if_pos (by omega)]
  have:u % 10=u:=by omega
  rw[this];rfl
 ·rw[decDigits_big h1,if_neg (by omega)]
theorem preD_len (k:Nat): ∀ u,u<10 ^ k→(preD u).length≤k:=by
 induction k with
 |zero=>
      intro u h;have:u=0:=by simpa using h
      subst this;simp[preD]
 |succ k ih=>
  intro u h
  by_cases h0:u=0
  ·subst h0;simp[preD]
  ·rw[preD_step h0,List.length_append]
   have:=ih (u / 10) (by rw[Nat.pow_succ] at h;omega)
   simp;omega
theorem decL_zero:decL 0= [48]:=by
 unfold decL itoa
 rw[if_neg (by omega),decDigits_small (by simp)]
 rfl
theorem decL_pos {n:Int} (h:0<n):decL n=preD n.natAbs:=by
 unfold decL itoa preD
 rw[if_neg (by omega),if_neg (by omega)]
 congr 1;omega
theorem decL_neg {n:Int} (h:n<0):decL n=45 :: preD n.natAbs:=by
 unfold decL itoa preD
 rw[if_pos h,if_neg (by omega)]
theorem length_decL {n:Int} (h0: -9223372036854775808≤n) (h1:n≤9223372036854775807):(decL n).length≤21:=itoa_length_le n h0 h1
theorem decL_plain (n:Int): ∀ b ∈ decL n,b=45∨digB b=true:=by
 intro b hb
 unfold decL itoa at hb
 split at hb
 ·rcases List.mem_cons.1 hb with rfl|hb
  ·exact .inl rfl
  ·exact .inr ((dec_digits _).1 b hb)
 ·exact .inr ((dec_digits _).1 b hb)
end Go.Proofs.YtbgedljbgkcpiaaGreatDoor
end
