/- Contract: the changes from some lines to others (spec.l32Diff). Contract: the parts of a text, by the library. Contracts: the lines of a text, by both sides. -/
import Derived.Test.YtbgedljbgkcpiaaGreatDoorQAdExactDiffSessions
import Derived.Test.YtbgedljbgkcpiaaGreatDoorQAbExactDiffSessions
set_option linter.unusedVariables false
set_option linter.unusedSimpArgs false
set_option maxHeartbeats 4000000
set_option maxRecDepth 20000
section
namespace Go.Proofs.YtbgedljbgkcpiaaGreatDoor
open Go.RowKit
theorem c_l32Diff (va vb:Value) (a b:List ByteArray) (w:World) (hra:RdS w va a) (hrb:RdS w vb b) (ha:a.length≤200) (hb:b.length≤200):
  Calls Tryz.prog 21 #[va,vb] w fun e w'=> ∃ v',e= .returned v'∧OwC 71 w' w.heap.size v' (diffF 0 a b)∧Below w.heap.size w w':=by
 have HRA:=hide hra;have HRB:=hide hrb
 obtain⟨A1,cap1,rfl,hl1,hc1,hx1⟩:=hra.openS
 obtain⟨A2,cap2,rfl,hl2,hc2,hx2⟩:=hrb.openS
 have HX1:=hide hx1;have HX2:=hide hx2;clear hx1 hx2 hra hrb
 go_enter Tryz.func21,Tryz.ntmps21
 go_wp2_with (go_at_call 57;refine(c_l32Common _ _ a b _ HRA.out HRB.out ha hb).mono ?_;rintro e w1 ⟨g,R,rfl,hm1,hb1⟩;have hs1:=hb1.size;have HM:=hide hm1;have HB1:=hide hb1;have hgl:=hm1.1.lt;clear hm1 hb1)
 go_loopw [6,7,8] (fun o iv jv wr=> ∃ (i j:Nat) (L:List Chg),i≤a.length∧j≤b.length∧iv= .int .i64 (i:Int)∧jv= .int .i64 (j:Int)∧L.length≤i+j∧L++diffF i (a.drop i) (b.drop j)=diffF 0 a b∧OwC 71 wr w1.heap.size o L∧Below w.heap.size w wr∧Below w1.heap.size w1 wr) (fun _ iv jv _=>a.length - (intOf iv).toNat+(b.length - (intOf jv).toNat))
 case atStart=>exact⟨0,0,[],Nat.zero_le _,Nat.zero_le _,rfl,rfl,by simp,by simp,new_chg w1,HB1.out.alloc hs1 _,(Below.refl _ _).alloc (Nat.le_refl _) _⟩
 case round=>
  obtain⟨i,j,L,hi,hj,rfl,rfl,hL,heq,ho,hbw,hbb⟩:=hrel
  have HEQ:=hide heq;have HO:=hide ho;have HB:=hide hbw;have HBB:=hide hbb;have hsz:=hbb.size;have hgw:g<wr.heap.size:=Nat.lt_of_lt_of_le hgl hbb.size
  clear heq ho hbw hbb
  by_cases hia:i<a.length
  ·have hia3:(i:Int)<(a.length:Int):=by omega
   have hxa:a[i]?=some a[i]:=List.getElem?_eq_getElem hia
   obtain⟨ab,ao,rfl,hab,e1⟩:=HX1.out i _ hxa
   have d1:=(HB.out.cell hab).trans e1
   have hab2:ab<wr.heap.size:=Nat.lt_of_lt_of_le hab HB.out.size
   have HXA:=hide hxa
   clear e1 hxa
   generalize a[i]=x at *
   by_cases hjb:j<b.length
   ·have hjb3:(j:Int)<(b.length:Int):=by omega
    have hjn: ¬ (b.length:Int)≤(j:Int):=by omega
    have hjne:((j:Int) == (b.length:Int))=false:=by simp;omega
    have hyb:b[j]?=some b[j]:=List.getElem?_eq_getElem hjb
    obtain⟨bb,bo,rfl,hbb,e2⟩:=HX2.out j _ hyb
    have d2:=(HB.out.cell hbb).trans e2
    have hbb2:bb<wr.heap.size:=Nat.lt_of_lt_of_le hbb HB.out.size
    have HYB:=hide hyb
    clear e2 hyb
    generalize b[j]=y at *
    have hw1:IntKind.i64.wrap ((i:Int)+1)=(i:Int)+1:=IntWalk.i64_in _ (by omega)
    have hw2:IntKind.i64.wrap ((j:Int)+1)=(j:Int)+1:=IntWalk.i64_in _ (by omega)
    by_cases hxy:x=y
    ·have hxb:(x.toList == y.toList)=true:=by rw[str_eq];exact decide_eq_true hxy
     have HST:=hide (diff_both HXA.out HYB.out hxy)
     clear hxy
     go_wp2
     go_quiet (fail)
     go_wp2
     go_roundw
     case rel=>exact⟨i+1,j+1,L,by omega,by omega,by go_num,by go_num,by omega,by rw[←HST.out];exact HEQ.out,HO.out.all (by repeat(first|with_reducible exact Below.refl _ _|with_reducible assumption|with_reducible refine Below.setCell ?_ (by first|omega|(simp;done)|(simp;omega)) _|with_reducible refine Below.alloc ?_ (by first|omega|(simp;done)|(simp;omega)) _|with_reducible refine Below.drew ?_|with_reducible refine below_drewN ?_ _|exact Below.refl _ _|assumption|refine Below.drew ?_|refine below_drewN ?_ _|refine Below.alloc ?_ (by first|omega|(simp;done)|(simp;omega)) _|refine Below.setCell ?_ (by first|omega|(simp;done)|(simp;omega)) _)),yH HB.out HB.out.size (by repeat(first|with_reducible exact Below.refl _ _|with_reducible assumption|with_reducible refine Below.setCell ?_ (by first|omega|(simp;done)|(simp;omega)) _|with_reducible refine Below.alloc ?_ (by first|omega|(simp;done)|(simp;omega)) _|with_reducible refine Below.drew ?_|with_reducible refine below_drewN ?_ _|exact Below.refl _ _|assumption|refine Below.drew ?_|refine below_drewN ?_ _|refine Below.alloc ?_ (by first|omega|(simp;done)|(simp;omega)) _|refine Below.setCell ?_ (by first|omega|(simp;done)|(simp;omega)) _)),yH HBB.out HBB.out.size (by repeat(first|with_reducible exact Below.refl _ _|with_reducible assumption|with_reducible refine Below.setCell ?_ (by first|omega|(simp;done)|(simp;omega)) _|with_reducible refine Below.alloc ?_ (by first|omega|(simp;done)|(simp;omega)) _|with_reducible refine Below.drew ?_|with_reducible refine below_drewN ?_ _|exact Below.refl _ _|assumption|refine Below.drew ?_|refine below_drewN ?_ _|refine Below.alloc ?_ (by first|omega|(simp;done)|(simp;omega)) _|refine Below.setCell ?_ (by first|omega|(simp;done)|(simp;omega)) _))⟩
     case measure=>simp[intOf];omega
    ·have hxb:(x.toList == y.toList)=false:=by rw[str_eq];exact decide_eq_false hxy
     have hia4:(i:Int)<(a.length:Int)+1:=by omega
     have hjb4:(j:Int)<(b.length:Int)+1:=by omega
     have hz1:(0:Int)≤(i:Int)+1:=by omega
     have hz2:(0:Int)≤(j:Int)+1:=by omega
     have hia5:(i:Int)+1<(a.length:Int)+1:=by omega
     have hjb5:(j:Int)+1<(b.length:Int)+1:=by omega
     have q1:=(HBB.out.cell hgl).trans (HM.out.out (i:=i) (by omega))
     have q2:=(HBB.out.cell hgl).trans (HM.out.out (i:=i+1) (by omega))
     have q4:=(HBB.out.cell (HM.out.lt (i:=i+1) (by omega))).trans (HM.out.at_ (i:=i+1) (j:=j) (by omega) (by omega))
     have q5:=(HBB.out.cell (HM.out.lt (i:=i) (by omega))).trans (HM.out.at_ (i:=i) (j:=j+1) (by omega) (by omega))
     by_cases hle:lenM a b i (j+1)≤lenM a b (i+1) j
     ·have HST:=hide (diff_del HXA.out HYB.out hxy hle)
      generalize lenM a b (i+1) j=v2 at *
      generalize lenM a b i (j+1)=v3 at *
      clear hxy
      go_wp2
      go_quiet (fail)
      go_wp2
      go_quiet (fail)
      go_wp2_with (at_builtin;refine app1_chg (c:=⟨1,(i:Int),x⟩) rfl _ _ rfl rfl (HO.out.all (by repeat(first|with_reducible exact Below.refl _ _|with_reducible assumption|with_reducible refine Below.setCell ?_ (by first|omega|(simp;done)|(simp;omega)) _|with_reducible refine Below.alloc ?_ (by first|omega|(simp;done)|(simp;omega)) _|with_reducible refine Below.drew ?_|with_reducible refine below_drewN ?_ _|exact Below.refl _ _|assumption|refine Below.drew ?_|refine below_drewN ?_ _|refine Below.alloc ?_ (by first|omega|(simp;done)|(simp;omega)) _|refine Below.setCell ?_ (by first|omega|(simp;done)|(simp;omega)) _))) (by first|rfl|(show Value.slice (some ⟨wr.heap.size,0,none⟩) 1 1=_;simp)) (by omega) (by first|(simp[World.setCell];omega)|(simp;omega)) ?_;intro v1 w3 ho3 hg3 hv3;have hb3:=below_own (yH HB.out HB.out.size (by repeat(first|with_reducible exact Below.refl _ _|with_reducible assumption|with_reducible refine Below.setCell ?_ (by first|omega|(simp;done)|(simp;omega)) _|with_reducible refine Below.alloc ?_ (by first|omega|(simp;done)|(simp;omega)) _|with_reducible refine Below.drew ?_|with_reducible refine below_drewN ?_ _|exact Below.refl _ _|assumption|refine Below.drew ?_|refine below_drewN ?_ _|refine Below.alloc ?_ (by first|omega|(simp;done)|(simp;omega)) _|refine Below.setCell ?_ (by first|omega|(simp;done)|(simp;omega)) _))) (HO.out.all (by repeat(first|with_reducible exact Below.refl _ _|with_reducible assumption|with_reducible refine Below.setCell ?_ (by first|omega|(simp;done)|(simp;omega)) _|with_reducible refine Below.alloc ?_ (by first|omega|(simp;done)|(simp;omega)) _|with_reducible refine Below.drew ?_|with_reducible refine below_drewN ?_ _|exact Below.refl _ _|assumption|refine Below.drew ?_|refine below_drewN ?_ _|refine Below.alloc ?_ (by first|omega|(simp;done)|(simp;omega)) _|refine Below.setCell ?_ (by first|omega|(simp;done)|(simp;omega)) _))).2 hg3 hs1 (by have:=HB.out.size;first|(simp[World.setCell];omega)|(simp;omega));have hb4:=below_own (yH HBB.out HBB.out.size (by repeat(first|with_reducible exact Below.refl _ _|with_reducible assumption|with_reducible refine Below.setCell ?_ (by first|omega|(simp;done)|(simp;omega)) _|with_reducible refine Below.alloc ?_ (by first|omega|(simp;done)|(simp;omega)) _|with_reducible refine Below.drew ?_|with_reducible refine below_drewN ?_ _|exact Below.refl _ _|assumption|refine Below.drew ?_|refine below_drewN ?_ _|refine Below.alloc ?_ (by first|omega|(simp;done)|(simp;omega)) _|refine Below.setCell ?_ (by first|omega|(simp;done)|(simp;omega)) _))) (HO.out.all (by repeat(first|with_reducible exact Below.refl _ _|with_reducible assumption|with_reducible refine Below.setCell ?_ (by first|omega|(simp;done)|(simp;omega)) _|with_reducible refine Below.alloc ?_ (by first|omega|(simp;done)|(simp;omega)) _|with_reducible refine Below.drew ?_|with_reducible refine below_drewN ?_ _|exact Below.refl _ _|assumption|refine Below.drew ?_|refine below_drewN ?_ _|refine Below.alloc ?_ (by first|omega|(simp;done)|(simp;omega)) _|refine Below.setCell ?_ (by first|omega|(simp;done)|(simp;omega)) _))).2 hg3 (Nat.le_refl _) (by first|(simp[World.setCell];omega)|(simp;omega));have HO3:=hide ho3;have HB3:=hide hb3;have HB4:=hide hb4;clear ho3 hb3 hb4 hg3 hv3)
      go_roundw
      case rel=>exact⟨i+1,j,L++ [⟨1,(i:Int),x⟩],by omega,by omega,by go_num,by go_num,by simp;omega,by rw[←HEQ.out,HST.out];simp,HO3.out,HB3.out,HB4.out⟩
      case measure=>simp[intOf];omega
     ·have HST:=hide (diff_ins HXA.out HYB.out hxy (by omega))
      generalize lenM a b (i+1) j=v2 at *
      generalize lenM a b i (j+1)=v3 at *
      clear hxy
      go_wp2
      go_quiet (fail)
      go_wp2
      go_quiet (fail)
      go_wp2_with (at_builtin;refine app1_chg (c:=⟨2,(i:Int),y⟩) rfl _ _ rfl rfl (HO.out.all (by repeat(first|with_reducible exact Below.refl _ _|with_reducible assumption|with_reducible refine Below.setCell ?_ (by first|omega|(simp;done)|(simp;omega)) _|with_reducible refine Below.alloc ?_ (by first|omega|(simp;done)|(simp;omega)) _|with_reducible refine Below.drew ?_|with_reducible refine below_drewN ?_ _|exact Below.refl _ _|assumption|refine Below.drew ?_|refine below_drewN ?_ _|refine Below.alloc ?_ (by first|omega|(simp;done)|(simp;omega)) _|refine Below.setCell ?_ (by first|omega|(simp;done)|(simp;omega)) _))) (by first|rfl|(show Value.slice (some ⟨wr.heap.size,0,none⟩) 1 1=_;simp)) (by omega) (by first|(simp[World.setCell];omega)|(simp;omega)) ?_;intro v1 w3 ho3 hg3 hv3;have hb3:=below_own (yH HB.out HB.out.size (by repeat(first|with_reducible exact Below.refl _ _|with_reducible assumption|with_reducible refine Below.setCell ?_ (by first|omega|(simp;done)|(simp;omega)) _|with_reducible refine Below.alloc ?_ (by first|omega|(simp;done)|(simp;omega)) _|with_reducible refine Below.drew ?_|with_reducible refine below_drewN ?_ _|exact Below.refl _ _|assumption|refine Below.drew ?_|refine below_drewN ?_ _|refine Below.alloc ?_ (by first|omega|(simp;done)|(simp;omega)) _|refine Below.setCell ?_ (by first|omega|(simp;done)|(simp;omega)) _))) (HO.out.all (by repeat(first|with_reducible exact Below.refl _ _|with_reducible assumption|with_reducible refine Below.setCell ?_ (by first|omega|(simp;done)|(simp;omega)) _|with_reducible refine Below.alloc ?_ (by first|omega|(simp;done)|(simp;omega)) _|with_reducible refine Below.drew ?_|with_reducible refine below_drewN ?_ _|exact Below.refl _ _|assumption|refine Below.drew ?_|refine below_drewN ?_ _|refine Below.alloc ?_ (by first|omega|(simp;done)|(simp;omega)) _|refine Below.setCell ?_ (by first|omega|(simp;done)|(simp;omega)) _))).2 hg3 hs1 (by have:=HB.out.size;first|(simp[World.setCell];omega)|(simp;omega));have hb4:=below_own (yH HBB.out HBB.out.size (by repeat(first|with_reducible exact Below.refl _ _|with_reducible assumption|with_reducible refine Below.setCell ?_ (by first|omega|(simp;done)|(simp;omega)) _|with_reducible refine Below.alloc ?_ (by first|omega|(simp;done)|(simp;omega)) _|with_reducible refine Below.drew ?_|with_reducible refine below_drewN ?_ _|exact Below.refl _ _|assumption|refine Below.drew ?_|refine below_drewN ?_ _|refine Below.alloc ?_ (by first|omega|(simp;done)|(simp;omega)) _|refine Below.setCell ?_ (by first|omega|(simp;done)|(simp;omega)) _))) (HO.out.all (by repeat(first|with_reducible exact Below.refl _ _|with_reducible assumption|with_reducible refine Below.setCell ?_ (by first|omega|(simp;done)|(simp;omega)) _|with_reducible refine Below.alloc ?_ (by first|omega|(simp;done)|(simp;omega)) _|with_reducible refine Below.drew ?_|with_reducible refine below_drewN ?_ _|exact Below.refl _ _|assumption|refine Below.drew ?_|refine below_drewN ?_ _|refine Below.alloc ?_ (by first|omega|(simp;done)|(simp;omega)) _|refine Below.setCell ?_ (by first|omega|(simp;done)|(simp;omega)) _))).2 hg3 (Nat.le_refl _) (by first|(simp[World.setCell];omega)|(simp;omega));have HO3:=hide ho3;have HB3:=hide hb3;have HB4:=hide hb4;clear ho3 hb3 hb4 hg3 hv3)
      go_roundw
      case rel=>exact⟨i,j+1,L++ [⟨2,(i:Int),y⟩],by omega,by omega,by go_num,by go_num,by simp;omega,by rw[←HEQ.out,HST.out];simp,HO3.out,HB3.out,HB4.out⟩
      case measure=>simp[intOf];omega
   ·obtain rfl:j=b.length:=by omega
    have HST:=hide (diff_del0 (b:=b) HXA.out)
    go_wp2
    go_quiet (fail)
    go_wp2
    go_quiet (fail)
    go_wp2_with (at_builtin;refine app1_chg (c:=⟨1,(i:Int),x⟩) rfl _ _ rfl rfl (HO.out.all (by repeat(first|with_reducible exact Below.refl _ _|with_reducible assumption|with_reducible refine Below.setCell ?_ (by first|omega|(simp;done)|(simp;omega)) _|with_reducible refine Below.alloc ?_ (by first|omega|(simp;done)|(simp;omega)) _|with_reducible refine Below.drew ?_|with_reducible refine below_drewN ?_ _|exact Below.refl _ _|assumption|refine Below.drew ?_|refine below_drewN ?_ _|refine Below.alloc ?_ (by first|omega|(simp;done)|(simp;omega)) _|refine Below.setCell ?_ (by first|omega|(simp;done)|(simp;omega)) _))) (by first|rfl|(show Value.slice (some ⟨wr.heap.size,0,none⟩) 1 1=_;simp)) (by omega) (by first|(simp[World.setCell];omega)|(simp;omega)) ?_;intro v1 w3 ho3 hg3 hv3;have hb3:=below_own (yH HB.out HB.out.size (by repeat(first|with_reducible exact Below.refl _ _|with_reducible assumption|with_reducible refine Below.setCell ?_ (by first|omega|(simp;done)|(simp;omega)) _|with_reducible refine Below.alloc ?_ (by first|omega|(simp;done)|(simp;omega)) _|with_reducible refine Below.drew ?_|with_reducible refine below_drewN ?_ _|exact Below.refl _ _|assumption|refine Below.drew ?_|refine below_drewN ?_ _|refine Below.alloc ?_ (by first|omega|(simp;done)|(simp;omega)) _|refine Below.setCell ?_ (by first|omega|(simp;done)|(simp;omega)) _))) (HO.out.all (by repeat(first|with_reducible exact Below.refl _ _|with_reducible assumption|with_reducible refine Below.setCell ?_ (by first|omega|(simp;done)|(simp;omega)) _|with_reducible refine Below.alloc ?_ (by first|omega|(simp;done)|(simp;omega)) _|with_reducible refine Below.drew ?_|with_reducible refine below_drewN ?_ _|exact Below.refl _ _|assumption|refine Below.drew ?_|refine below_drewN ?_ _|refine Below.alloc ?_ (by first|omega|(simp;done)|(simp;omega)) _|refine Below.setCell ?_ (by first|omega|(simp;done)|(simp;omega)) _))).2 hg3 hs1 (by have:=HB.out.size;first|(simp[World.setCell];omega)|(simp;omega));have hb4:=below_own (yH HBB.out HBB.out.size (by repeat(first|with_reducible exact Below.refl _ _|with_reducible assumption|with_reducible refine Below.setCell ?_ (by first|omega|(simp;done)|(simp;omega)) _|with_reducible refine Below.alloc ?_ (by first|omega|(simp;done)|(simp;omega)) _|with_reducible refine Below.drew ?_|with_reducible refine below_drewN ?_ _|exact Below.refl _ _|assumption|refine Below.drew ?_|refine below_drewN ?_ _|refine Below.alloc ?_ (by first|omega|(simp;done)|(simp;omega)) _|refine Below.setCell ?_ (by first|omega|(simp;done)|(simp;omega)) _))) (HO.out.all (by repeat(first|with_reducible exact Below.refl _ _|with_reducible assumption|with_reducible refine Below.setCell ?_ (by first|omega|(simp;done)|(simp;omega)) _|with_reducible refine Below.alloc ?_ (by first|omega|(simp;done)|(simp;omega)) _|with_reducible refine Below.drew ?_|with_reducible refine below_drewN ?_ _|exact Below.refl _ _|assumption|refine Below.drew ?_|refine below_drewN ?_ _|refine Below.alloc ?_ (by first|omega|(simp;done)|(simp;omega)) _|refine Below.setCell ?_ (by first|omega|(simp;done)|(simp;omega)) _))).2 hg3 (Nat.le_refl _) (by first|(simp[World.setCell];omega)|(simp;omega));have HO3:=hide ho3;have HB3:=hide hb3;have HB4:=hide hb4;clear ho3 hb3 hb4 hg3 hv3)
    go_roundw
    case rel=>exact⟨i+1,b.length,L++ [⟨1,(i:Int),x⟩],by omega,by omega,by go_num,by go_num,by simp;omega,by rw[←HEQ.out,HST.out];simp,HO3.out,HB3.out,HB4.out⟩
    case measure=>simp[intOf];omega
  ·obtain rfl:i=a.length:=by omega
   by_cases hjb:j<b.length
   ·have hjb3:(j:Int)<(b.length:Int):=by omega
    have hyb:b[j]?=some b[j]:=List.getElem?_eq_getElem hjb
    obtain⟨bb,bo,rfl,hbb,e2⟩:=HX2.out j _ hyb
    have d2:=(HB.out.cell hbb).trans e2
    have hbb2:bb<wr.heap.size:=Nat.lt_of_lt_of_le hbb HB.out.size
    have HST:=hide (diff_ins0 (a:=a) hyb)
    clear e2 hyb
    generalize b[j]=y at *
    go_wp2
    go_quiet (fail)
    go_wp2
    go_quiet (fail)
    go_wp2_with (at_builtin;refine app1_chg (c:=⟨2,(a.length:Int),y⟩) rfl _ _ rfl rfl (HO.out.all (by repeat(first|with_reducible exact Below.refl _ _|with_reducible assumption|with_reducible refine Below.setCell ?_ (by first|omega|(simp;done)|(simp;omega)) _|with_reducible refine Below.alloc ?_ (by first|omega|(simp;done)|(simp;omega)) _|with_reducible refine Below.drew ?_|with_reducible refine below_drewN ?_ _|exact Below.refl _ _|assumption|refine Below.drew ?_|refine below_drewN ?_ _|refine Below.alloc ?_ (by first|omega|(simp;done)|(simp;omega)) _|refine Below.setCell ?_ (by first|omega|(simp;done)|(simp;omega)) _))) (by first|rfl|(show Value.slice (some ⟨wr.heap.size,0,none⟩) 1 1=_;simp)) (by omega) (by first|(simp[World.setCell];omega)|(simp;omega)) ?_;intro v1 w3 ho3 hg3 hv3;have hb3:=below_own (yH HB.out HB.out.size (by repeat(first|with_reducible exact Below.refl _ _|with_reducible assumption|with_reducible refine Below.setCell ?_ (by first|omega|(simp;done)|(simp;omega)) _|with_reducible refine Below.alloc ?_ (by first|omega|(simp;done)|(simp;omega)) _|with_reducible refine Below.drew ?_|with_reducible refine below_drewN ?_ _|exact Below.refl _ _|assumption|refine Below.drew ?_|refine below_drewN ?_ _|refine Below.alloc ?_ (by first|omega|(simp;done)|(simp;omega)) _|refine Below.setCell ?_ (by first|omega|(simp;done)|(simp;omega)) _))) (HO.out.all (by repeat(first|with_reducible exact Below.refl _ _|with_reducible assumption|with_reducible refine Below.setCell ?_ (by first|omega|(simp;done)|(simp;omega)) _|with_reducible refine Below.alloc ?_ (by first|omega|(simp;done)|(simp;omega)) _|with_reducible refine Below.drew ?_|with_reducible refine below_drewN ?_ _|exact Below.refl _ _|assumption|refine Below.drew ?_|refine below_drewN ?_ _|refine Below.alloc ?_ (by first|omega|(simp;done)|(simp;omega)) _|refine Below.setCell ?_ (by first|omega|(simp;done)|(simp;omega)) _))).2 hg3 hs1 (by have:=HB.out.size;first|(simp[World.setCell];omega)|(simp;omega));have hb4:=below_own (yH HBB.out HBB.out.size (by repeat(first|with_reducible exact Below.refl _ _|with_reducible assumption|with_reducible refine Below.setCell ?_ (by first|omega|(simp;done)|(simp;omega)) _|with_reducible refine Below.alloc ?_ (by first|omega|(simp;done)|(simp;omega)) _|with_reducible refine Below.drew ?_|with_reducible refine below_drewN ?_ _|exact Below.refl _ _|assumption|refine Below.drew ?_|refine below_drewN ?_ _|refine Below.alloc ?_ (by first|omega|(simp;done)|(simp;omega)) _|refine Below.setCell ?_ (by first|omega|(simp;done)|(simp;omega)) _))) (HO.out.all (by repeat(first|with_reducible exact Below.refl _ _|with_reducible assumption|with_reducible refine Below.setCell ?_ (by first|omega|(simp;done)|(simp;omega)) _|with_reducible refine Below.alloc ?_ (by first|omega|(simp;done)|(simp;omega)) _|with_reducible refine Below.drew ?_|with_reducible refine below_drewN ?_ _|exact Below.refl _ _|assumption|refine Below.drew ?_|refine below_drewN ?_ _|refine Below.alloc ?_ (by first|omega|(simp;done)|(simp;omega)) _|refine Below.setCell ?_ (by first|omega|(simp;done)|(simp;omega)) _))).2 hg3 (Nat.le_refl _) (by first|(simp[World.setCell];omega)|(simp;omega));have HO3:=hide ho3;have HB3:=hide hb3;have HB4:=hide hb4;clear ho3 hb3 hb4 hg3 hv3)
    go_roundw
    case rel=>exact⟨a.length,j+1,L++ [⟨2,(a.length:Int),y⟩],by omega,by omega,by go_num,by go_num,by simp;omega,by rw[←HEQ.out,HST.out];simp,HO3.out,HB3.out,HB4.out⟩
    case measure=>simp[intOf];omega
   ·obtain rfl:j=b.length:=by omega
    have hall:L=diffF 0 a b:=by have:=HEQ.out;rw[diff_end] at this;simpa using this
    go_wp2
    go_ret
    exact⟨_,rfl,by rw[←hall];exact HO.out.more hs1,HB.out⟩
end Go.Proofs.YtbgedljbgkcpiaaGreatDoor
end
section
namespace Go.Proofs.YtbgedljbgkcpiaaGreatDoor
open Go.RowKit
theorem partsB_hit {s:ByteArray} (h:fstI 10 s.data.toList<s.size):partsB 10 s=s.extract 0 (fstI 10 s.data.toList) :: partsB 10 (s.extract (fstI 10 s.data.toList+1) s.size):=by
 have hl:s.data.toList.length=s.size:=Array.length_toList
 unfold partsB
 have e:(s.data.toList.drop (fstI 10 s.data.toList+1)).take (s.size - (fstI 10 s.data.toList+1))=s.data.toList.drop (fstI 10 s.data.toList+1):=List.take_of_length_le (by rw[List.length_drop,hl];omega)
 rw[partsL_cut,if_pos (by rw[hl];exact h),List.map_cons,mkS_take,mkS_sub,data_mkS,e]
theorem partsB_miss {s:ByteArray} (h: ¬ fstI 10 s.data.toList<s.size):partsB 10 s= [s]:=by
 have hl:s.data.toList.length=s.size:=Array.length_toList
 unfold partsB
 rw[partsL_cut,if_neg (by rw[hl];exact h),List.map_cons,List.map_nil,mkS_data]
theorem rep_set {d:List ByteArray} {n i:Nat} (x:ByteArray) (h:d.length=i) (hi:i<n):(d++List.replicate (n - i) ByteArray.empty).set i x=(d++ [x])++List.replicate (n - (i+1)) ByteArray.empty:=by
 subst h
 rw[List.set_append_right _ _ (Nat.le_refl _),Nat.sub_self]
 have:n - d.length=(n - (d.length+1))+1:=by omega
 rw[this,List.replicate_succ,List.set_cons_zero]
 simp
theorem c_genSplit (s:ByteArray) (w:World) (hs:s.size≤4294967280):Calls Tryz.prog 119 #[.string s,.string ⟨#[10]⟩,.int .i64 0,.int .i64 (-1)] w fun e w'=> ∃ cap,e= .returned (.slice (some ⟨w.heap.size,0,none⟩) (partsB 10 s).length cap)∧OwS 9 w' w.heap.size (.slice (some ⟨w.heap.size,0,none⟩) (partsB 10 s).length cap) (partsB 10 s)∧Below w.heap.size w w':=by
 have hcl:s.data.toList.count 10≤s.size:=by have:=List.count_le_length (a:=(10:UInt8)) (l:=s.data.toList);rw[Array.length_toList] at this;exact this
 have hpl:=length_partsB 10 s
 generalize hN:s.data.toList.count 10=N at *
 have hcnt:Lib.countByte s.data.toList 10=N:=hN
 have hmin:(if (N:Int)+1≤(s.size:Int)+1 then (N:Int)+1 else (s.size:Int)+1)=(N:Int)+1:=if_pos (by omega)
 obtain⟨i0,hi,hz0,hz1,hz2⟩:=info_parts info_str
 have HP:=hide hpl;have HN:=hide hN;clear hpl hN
 have hne:((⟨#[10]⟩:ByteArray).toList == (⟨#[]⟩:ByteArray).toList)=false:=by rw[str_eq];exact decide_eq_false (fun e=>by have:=congrArg ByteArray.size e;simp[ByteArray.size] at this)
 go_enter Tryz.func119,Tryz.ntmps119
 go_wp2_with fail
 refine(Tryz.strings_Count_one s 10 _).mono ?_;rintro e w' ⟨rfl,rfl⟩;rw[hcnt]
 go_wp2_with (at_make;refine wpList_make_full _ rfl _ _ _ rfl w'.heap.size 9 i0 _ 1 Tryz.underlying55 hi hz0 hz1 .i64 .i64 _ _ (N+1) rfl rfl (by first|rfl|omega) (by first|rfl|omega) (by rw[hz2];omega) (by unfold maxLen;omega) (Nat.le_refl _) ?_;intro w1 hown1 hg1)
 have ho1:OwS 9 w1 w'.heap.size _ _:=OwG.made strV_len (by omega) ByteArray.empty rfl hown1
 have hb1:Below w'.heap.size w' w1:=(Below.refl _ _).grown hg1 (Nat.le_refl _) (by simp)
 have HO:=hide ho1;have HB:=hide hb1;clear ho1 hb1 hown1 hg1
 go_loopw [0,10] (fun t iv wr=> ∃ (i:Nat) (sk:ByteArray) (d:List ByteArray),i≤N∧t= .string sk∧iv= .int .i64 (i:Int)∧d.length=i∧partsB 10 s=d++partsB 10 sk∧sk.size≤s.size∧OwS 9 wr w'.heap.size (.slice (some ⟨w'.heap.size,0,none⟩) (N+1) (N+1)) (d++List.replicate (N+1 - i) ByteArray.empty)∧Below w'.heap.size w' wr) (fun _ iv _=>N - (intOf iv).toNat)
 case atStart=>exact⟨0,s,[],Nat.zero_le _,rfl,rfl,rfl,by simp,Nat.le_refl _,by simpa using HO.out,HB.out⟩
 case round=>
  obtain⟨i,sk,d,hiN,rfl,rfl,hd,hpp,hsk,ho,hb⟩:=hrel
  have hc2:sk.data.toList.count 10+i=N:=by
   have h1:=HP.out
   rw[hpp,List.length_append,length_partsB,hd] at h1;omega
  have HD:=hide hd;have HPP:=hide hpp;have HO:=hide ho;have HB:=hide hb;clear hd hpp ho hb
  have hcf:=count_fst (c:=10) (l:=sk.data.toList)
  have hll:sk.data.toList.length=sk.size:=Array.length_toList
  rw[hll] at hcf
  have hfi:=fst_idx 10 sk.data.toList
  rw[hll] at hfi
  by_cases hlt:i<N
  ·have hm:fstI 10 sk.data.toList<sk.size:=by
    by_cases h:fstI 10 sk.data.toList<sk.size
    ·exact h
    ·rw[if_neg h] at hcf;omega
   have hix:=hfi.1 hm
   have HPH:=hide (partsB_hit hm)
   generalize hM:fstI 10 sk.data.toList=m at *
   have HCF:=hide hcf;have HFI:=hide hfi;have HM:=hide hM;have HC2:=hide hc2;clear hcf hfi hM hc2 hll
   have hq2:wr.cell? ⟨w'.heap.size,i,none⟩=some (.string ByteArray.empty):=by
    have:=HO.out.cellN (k:=i) (j:=0) (x:=ByteArray.empty) (u:= .string ByteArray.empty) (by rw[List.getElem?_append_right (by rw[HD.out];omega),HD.out,Nat.sub_self,List.getElem?_replicate,if_pos (by omega)]) rfl
    simpa using this
   have hq3:=HO.out.freeN i
   go_wp2_with (go_at_call 118;refine(Tryz.strings_Index_one sk 10 _).mono ?_;rintro e w2 ⟨rfl,rfl⟩;rw[hix])
   go_roundw
   case rel=>exact⟨i+1,sk.extract (m+1) sk.size,d++ [sk.extract 0 m],by omega,rfl,by go_num,by simp[HD.out],by rw[HPP.out,HPH.out];simp,by rw[ByteArray.size_extract];omega,by have:=(OwS_set HO.out i (sk.extract 0 m)).1;rw[rep_set _ HD.out (by omega)] at this;exact this,HB.out.setCell (Nat.le_refl _) _⟩
   case measure=>simp[intOf];omega
  ·obtain rfl:i=N:=by omega
   have hm: ¬ fstI 10 sk.data.toList<sk.size:=by
    intro h
    rw[if_pos h] at hcf;omega
   have HPH:=hide (partsB_miss hm)
   have hq2:wr.cell? ⟨w'.heap.size,i,none⟩=some (.string ByteArray.empty):=by
    have:=HO.out.cellN (k:=i) (j:=0) (x:=ByteArray.empty) (u:= .string ByteArray.empty) (by rw[List.getElem?_append_right (by rw[HD.out];omega),HD.out,Nat.sub_self,List.getElem?_replicate,if_pos (by omega)]) rfl
    simpa using this
   have hq3:=HO.out.freeN i
   clear hcf hfi hc2 hm hll
   go_wp2
   go_ret
   have hall:partsB 10 s=d++ [sk]:=by rw[HPP.out,HPH.out]
   have hres:=(OwS_set HO.out i sk).1
   rw[rep_set _ HD.out (by omega),Nat.sub_self,List.replicate_zero,List.append_nil,←hall] at hres
   have hlen:(partsB 10 s).length=i+1:=HP.out
   rw[hlen]
   exact⟨i+1,rfl,hres,HB.out.setCell (Nat.le_refl _) _⟩
end Go.Proofs.YtbgedljbgkcpiaaGreatDoor
end
section
namespace Go.Proofs.YtbgedljbgkcpiaaGreatDoor
open Go.RowKit
theorem count_le (s:ByteArray):s.data.toList.count 10≤s.size:=by
 have:=List.count_le_length (a:=(10:UInt8)) (l:=s.data.toList);rw[Array.length_toList] at this;exact this
theorem c_Split (s:ByteArray) (w:World) (hs:s.size≤1048576):Calls Tryz.prog 80 #[.string s,.string ⟨#[10]⟩] w fun e w'=> ∃ cap,e= .returned (.slice (some ⟨w.heap.size,0,none⟩) (partsB 10 s).length cap)∧OwS 9 w' w.heap.size (.slice (some ⟨w.heap.size,0,none⟩) (partsB 10 s).length cap) (partsB 10 s)∧Below w.heap.size w w':=by
 go_enter Tryz.func80,Tryz.ntmps80
 go_wp2_with fail
 refine(c_genSplit s _ (by omega)).mono ?_;rintro e w1 ⟨cap,rfl,ho,hb⟩
 have HO:=hide ho;have HB:=hide hb;clear ho hb
 go_wp2
 go_ret
 exact⟨cap,rfl,HO.out,HB.out⟩
theorem linesF_take (s:ByteArray):linesF s=(partsB 10 s).take (s.data.toList.count 10):=by
 unfold linesF;rw[List.dropLast_eq_take,length_partsB];rfl
theorem c_splitLines (s:ByteArray) (w:World) (hs:s.size≤1048576):Calls Tryz.prog 31 #[.string s] w fun e w'=> ∃ v,e= .returned v∧OwS 9 w' w.heap.size v (linesF s)∧Below w.heap.size w w':=by
 have hl:=length_partsB 10 s
 have hlt:=linesF_take s
 have hn:=count_le s
 generalize hN:s.data.toList.count 10=N at *
 generalize hP:partsB 10 s=ps at *
 generalize hL:linesF s=ls at *
 have HP:=hide hP;have HL:=hide hL;have HLT:=hide hlt;have HPL:=hide hl;clear hP hL hlt hN
 go_enter Tryz.func31,Tryz.ntmps31
 go_wp2_with fail
 refine(c_Split s _ hs).mono ?_;rintro e w1 ⟨cap,rfl,ho,hb⟩
 rw[HP.out] at ho
 rw[HP.out,HPL.out]
 rw[HPL.out] at ho
 have hcp:=cap_of ho.rd rfl
 have h1:ps.length=N+1:=hl
 have HO:=hide ho;have HB:=hide hb;clear ho hb hl
 have hcc:N≤cap:=by omega
 have hc2:cap≤9223372036854775807:=hcp.2.2
 clear hcp
 go_wp2
 go_ret
 exact⟨_,rfl,by rw[HLT.out];exact HO.out.cut (by omega),HB.out⟩
theorem text_last (s:ByteArray):decide (lastF s= [])=(decide (s=⟨#[]⟩) || Lib.hasSuffix s.data.toList [10]):=by
 have h:=last_suffix s.data.toList
 have h1:(s.data.toList= [])↔s=⟨#[]⟩:=by
  constructor
  ·intro e;apply ByteArray.ext;apply Array.toList_inj.1;exact e
  ·rintro rfl;rfl
 rw[h1] at h
 unfold lastF Lib.hasSuffix
 rw[Bool.eq_iff_iff]
 simp only[decide_eq_true_eq,Bool.or_eq_true,List.isSuffixOf_iff_suffix]
 exact h
theorem c_isText (s:ByteArray) (w:World) (hs:s.size≤1048576):Calls Tryz.prog 29 #[.string s] w fun e w'=>e= .returned (.bool (textB s))∧w=w':=by
 have ht:textB s=((decide (s=⟨#[]⟩) || Lib.hasSuffix s.data.toList [10]) && decide (s.data.toList.count 10≤200)):=by
  unfold textB;rw[text_last,length_linesF]
 have hse:s.toList.isEmpty=decide (s=⟨#[]⟩):=by
  have h:=str_eq (a:=s) (b:=⟨#[]⟩)
  rw[←h,toList_eq,toList_eq]
  cases s.data.toList<;>rfl
 have hn:=count_le s
 have hcnt:Lib.countByte s.data.toList 10=s.data.toList.count 10:=rfl
 generalize hH:Lib.hasSuffix s.data.toList [10]=H at *
 generalize hC:s.data.toList.count 10=C at *
 generalize hT:textB s=T at *
 have hH2:Lib.hasSuffix s.data.toList ([10]:List UInt8)=H:=hH
 have HT:=hide ht;have HH:=hide hH2;have HC:=hide hC;have HCC:=hide hcnt;clear ht hT hH hH2 hC hcnt
 cases hd:decide (s=⟨#[]⟩)
 all_goals
  rw[hd] at hse
  rw[hd] at HT
  clear hd
  cases H
  all_goals
   by_cases h2:C≤200
   all_goals
    go_enter Tryz.func29,Tryz.ntmps29
    go_wp2_with (first|(go_at_call 77;refine(Tryz.strings_HasSuffix s ⟨#[10]⟩ _ (by omega)).mono ?_;rintro e w' ⟨rfl,rfl⟩;rw[HH.out])|(go_at_call 78;refine(Tryz.strings_Count_one s 10 _).mono ?_;rintro e w' ⟨rfl,rfl⟩;rw[HCC.out]))
    go_ret
    exact⟨by rw[HT.out];first|rfl|(simp[h2];done)|(simp[h2];omega),rfl⟩
/-- The state of a split between two bytes. -/
def partI (c:UInt8) (s:ByteArray) (f i:Nat) (out:List ByteArray):Prop:=partsB c s=out++(glue ((s.data.toList.drop f).take (i - f)) (partsL c (s.data.toList.drop i))).map mkS
theorem partI_start (c:UInt8) (s:ByteArray):partI c s 0 0 []:=by
 unfold partI partsB
 have:glue ((s.data.toList.drop 0).take (0 - 0)) (partsL c (s.data.toList.drop 0))=partsL c s.data.toList:=by simp[glue_nil (partsL_ne _ _)]
 rw[this];rfl
theorem partI_hit {c:UInt8} {s:ByteArray} {f i:Nat} {out:List ByteArray} (h:partI c s f i out) (hb:s.data.toList[i]?=some c):partI c s (i+1) (i+1) (out++ [s.extract f i]):=by
 have hi:=(List.getElem?_eq_some_iff.1 hb).1
 have he:=(List.getElem?_eq_some_iff.1 hb).2
 unfold partI at *
 rw[h,List.drop_eq_getElem_cons hi,he,glue_hit,mkS_sub]
 simp
theorem partI_miss {c b:UInt8} {s:ByteArray} {f i:Nat} {out:List ByteArray} (h:partI c s f i out) (hf:f≤i) (hb:s.data.toList[i]?=some b) (hc:b≠c):partI c s f (i+1) out:=by
 have hi:=(List.getElem?_eq_some_iff.1 hb).1
 have he:=(List.getElem?_eq_some_iff.1 hb).2
 unfold partI at *
 rw[h,List.drop_eq_getElem_cons hi,he,glue_miss hc]
 have e:(s.data.toList.drop f).take (i - f)++ [b]=(s.data.toList.drop f).take (i+1 - f):=by
  rw[show i+1 - f=(i - f)+1 by omega,List.take_add_one,List.getElem?_drop,show f+(i - f)=i by omega,hb];rfl
 rw[e]
theorem partI_end {c:UInt8} {s:ByteArray} {f:Nat} {out:List ByteArray} (h:partI c s f s.size out):partsB c s=out++ [s.extract f s.size]:=by
 unfold partI at h
 have e:s.data.toList.drop s.size= []:=List.drop_eq_nil_of_le (by rw[Array.length_toList];exact Nat.le_refl _)
 rw[h,e,mkS_sub]
 simp[partsL,glue]
theorem partI_len {c:UInt8} {s:ByteArray} {f i:Nat} {out:List ByteArray} (h:partI c s f i out):out.length≤s.size:=by
 have h1:=congrArg List.length h
 rw[length_partsB,List.length_append,List.length_map] at h1
 have h2:s.data.toList.count c≤s.size:=by have:=List.count_le_length (a:=c) (l:=s.data.toList);rw[Array.length_toList] at this;exact this
 have h3:0<(glue ((s.data.toList.drop f).take (i - f)) (partsL c (s.data.toList.drop i))).length:=by
  cases hp:partsL c (s.data.toList.drop i)<;>simp[glue]
 omega
theorem c_l01Split (c:UInt8) (s:ByteArray) (w:World) (hs:s.size≤1048576):Calls Tryz.prog 95 #[.string s,.int .u8 (c.toNat:Int)] w fun e w'=> ∃ v,e= .returned v∧OwS 9 w' w.heap.size v (partsB c s)∧Below w.heap.size w w':=by
 have hcc:=UInt8.toNat_lt c
 generalize hcn:c.toNat=cn at *
 have HCN:=hide hcn;clear hcn
 go_enter Tryz.func95,Tryz.ntmps95
 go_wp2
 go_loopw [5,6,7] (fun o fv iv wr=> ∃ (f i:Nat) (out:List ByteArray),f≤i∧i≤s.size∧fv= .int .i64 (f:Int)∧iv= .int .i64 (i:Int)∧partI c s f i out∧OwS 9 wr w.heap.size o out∧Below w.heap.size w wr) (fun _ _ iv _=>s.size - (intOf iv).toNat)
 case atStart=>exact⟨0,0,[],Nat.le_refl _,Nat.zero_le _,rfl,rfl,partI_start _ _,new_str w,(Below.refl _ _).alloc (Nat.le_refl _) _⟩
 case round=>
  obtain⟨f,i,out,hfi,his,rfl,rfl,hp,ho,hb⟩:=hrel
  have hpl:=partI_len hp
  have HP:=hide hp;have HO:=hide ho;have HB:=hide hb;have hsz:=hb.size;clear hp ho hb
  by_cases hlt:i<s.size
  ·have hgb:s.data.toList[i]?=some (s.data.toList[i]'(by rw[Array.length_toList];exact hlt)):=List.getElem?_eq_getElem _
   have hbb:bA s i=(s.data.toList[i]'(by rw[Array.length_toList];exact hlt)).toNat:=by unfold bA;rw[List.getD_eq_getElem?_getD,hgb];rfl
   have hge:=bA_get hlt
   generalize hgg:s.data.toList[i]'(by rw[Array.length_toList];exact hlt)=b at *
   have HG:=hide hgb;clear hgb hgg
   by_cases hbc:bA s i=cn
   ·have hb2:((bA s i:Int) == (cn:Int))=true:=by rw[hbc];simp
    have HH:=hide (show b=c from UInt8.toNat_inj.1 (by rw[←hbb,hbc,HCN.out]));clear hbc hbb
    rw[←hge] at hb2
    go_wp2_with (at_builtin;refine app1_str (n:=s.extract f i) rfl _ _ rfl rfl HO.out rfl (by omega) hsz ?_;intro v1 w1 ho1 hg1 hv1;have hb1:=below_own HB.out HO.out.2 hg1 (Nat.le_refl _) hsz;have HO1:=hide ho1;have HB1:=hide hb1;clear ho1 hb1 hg1 hv1)
    go_roundw
    case rel=>exact⟨i+1,i+1,out++ [s.extract f i],by omega,by omega,by go_num,by go_num,partI_hit HP.out (by rw[HG.out,HH.out]),HO1.out,HB1.out⟩
    case measure=>simp[intOf];omega
   ·have hb2:((bA s i:Int) == (cn:Int))=false:=by simp;omega
    have HH:=hide (show b≠c from fun e=>hbc (by rw[hbb,e,HCN.out]));clear hbc hbb
    rw[←hge] at hb2
    go_wp2
    go_roundw
    case rel=>exact⟨f,i+1,out,by omega,by omega,rfl,by go_num,partI_miss HP.out hfi HG.out HH.out,HO.out,HB.out⟩
    case measure=>simp[intOf];omega
  ·obtain rfl:i=s.size:=by omega
   have HE:=hide (partI_end HP.out)
   go_wp2_with (at_builtin;refine app1_str (n:=s.extract f s.size) rfl _ _ rfl rfl HO.out rfl (by omega) hsz ?_;intro v1 w1 ho1 hg1 hv1;have hb1:=below_own HB.out HO.out.2 hg1 (Nat.le_refl _) hsz;have HO1:=hide ho1;have HB1:=hide hb1;clear ho1 hb1 hg1 hv1)
   go_ret
   exact⟨_,rfl,by rw[HE.out];exact HO1.out,HB1.out⟩
end Go.Proofs.YtbgedljbgkcpiaaGreatDoor
end
