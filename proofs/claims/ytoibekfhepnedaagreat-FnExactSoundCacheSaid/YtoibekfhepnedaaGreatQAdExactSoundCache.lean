/- Contracts: lists of samples, copies, differences. Contracts: equal lists, marks, copies, differences. -/
import Derived.Test.YtoibekfhepnedaaGreatQAcExactSoundCache
set_option linter.unusedVariables false
set_option linter.unusedSimpArgs false
set_option maxHeartbeats 400000
section
namespace Go.Proofs.YtoibekfhepnedaaGreat
open Go.RowKit
theorem info_i64:(Tryz.prog.info? 2).map (fun i=>(i.zero,i.size,i.bytes))=some (some (.int .i64 0),1,8):=by kernel_rfl
theorem app1_i64 {w:World} {ops:Array Oper} {rest:List Oper} {o:Oper} {a:Act} {Q:Exit→Act→World→Prop} {n:Int} (hgd:o.guard=none) (s x:Operand)
  (ho:o.op= .call { callee:= .builtin .append,args:= #[s,x],argTypes:= #[26,26] }) {B:Nat} {v:Value} {xs:List Int} (hs:a.eval s=v) (hown:OwI 2 w B v xs)
  (hx:a.eval x= .slice (some ⟨w.heap.size,0,none⟩) 1 1) (hl:xs.length+1≤17592186044416) (hB:B≤w.heap.size)
  (h: ∀ v' w',OwI 2 w' B v' (xs++ [n])→w.grownBy w' v.ownBlock→(∀ k,v'.ownBlock=some k→v.ownBlock=some k∨w.heap.size≤k)→wpList Tryz.prog ops Q rest (a.put o.dst v') w'):
  wpList Tryz.prog ops Q (o :: rest) a (w.alloc (.cells #[.int .i64 n] 2)):=
 app_one hgd s x _ ho B _ _ 1 8 Tryz.underlying26 info_i64 rfl (by omega) v xs.length _ hs hown hx rfl (by simp[Value.oneCell']) (by omega) (by omega) hB
  fun v' w' h1 h2 h3=>h v' w' (by unfold OwI;simpa using h1) h2 h3
theorem appm_i64 {w:World} {ops:Array Oper} {rest:List Oper} {o:Oper} {a:Act} {Q:Exit→Act→World→Prop} (hgd:o.guard=none) (s x:Operand)
  (ho:o.op= .call { callee:= .builtin .append,args:= #[s,x],argTypes:= #[26,26] }) {B:Nat} {v:Value} {xs:List Int} (hs:a.eval s=v) (hown:OwI 2 w B v xs)
  {y:Value} {ys:List Int} (hx:a.eval x=y) (hr:RdI w y ys) (hl:xs.length+ys.length≤17592186044416) (hB:B≤w.heap.size)
  (h: ∀ v' w',OwI 2 w' B v' (xs++ys)→w.grownBy w' v.ownBlock→(∀ k,v'.ownBlock=some k→v.ownBlock=some k∨w.heap.size≤k)→wpList Tryz.prog ops Q rest (a.put o.dst v') w'):
  wpList Tryz.prog ops Q (o :: rest) a w:=
 app_many hgd s x _ ho B _ _ 1 8 Tryz.underlying26 info_i64 rfl (by omega) v xs.length _ hs hown y ys.length _ hx hr (ints_oneCell _ _) (by omega) (by omega) hB
  fun v' w' h1 h2 h3=>h v' w' (by unfold OwI;simpa using h1) h2 h3
theorem new_i64 (w:World):OwI 2 (w.alloc (.cells #[] 2)) w.heap.size (.slice (some ⟨w.heap.size,0,none⟩) 0 0) []:=World.ownsRow_made w #[] 0 (Nat.le_refl _) (by decide) rfl
theorem c_areSamples (v:Value) (xs:List Int) (w:World) (hr:RdI w v xs):Calls Tryz.prog 131 #[v] w fun e w'=>e= .returned (.bool (smpB xs))∧w=w':=by
 obtain⟨A,cap,rfl,hl,hc,hx⟩:=hr.open_
 have HX:=hide hx;clear hx hr
 go_enter Tryz.func131,Tryz.ntmps131
 go_wp2
 go_loop [7] (fun i=> ∃ k:Nat,k≤xs.length∧i= .int .i64 k∧smpB (xs.take k)=true) (fun i=>xs.length - (intOf i).toNat)
 case atStart=>exact⟨0,Nat.zero_le _,rfl,by simp[smpB]⟩
 case round=>
  obtain⟨k,hk,rfl,hs⟩:=hrel
  have HS:=hide hs;clear hs
  by_cases hlt:k<xs.length
  ·obtain⟨b,off,rfl,hb,hcell⟩:=HX.out k xs[k] (List.getElem?_eq_getElem hlt)
   by_cases hsm:Smp xs[k]
   ·have hd:decide (Smp xs[k])=true:=by simpa using hsm
    go_wp2_with (go_at_call 169;refine(c_isSample _ _).mono ?_;rintro e w' ⟨rfl,rfl⟩)
    go_round
    case rel=>exact⟨k+1,by omega,by go_num,smpB_take_succ (List.getElem?_eq_getElem hlt) HS.out hsm⟩
    case measure=>simp[intOf];omega
   ·have hd:decide (Smp xs[k])=false:=by simpa using hsm
    go_wp2_with (go_at_call 169;refine(c_isSample _ _).mono ?_;rintro e w' ⟨rfl,rfl⟩)
    go_ret
    exact⟨by simp[smpB_no (List.getElem?_eq_getElem hlt) hsm],rfl⟩
  ·go_wp2
   go_ret
   have:k=xs.length:=by omega
   subst this
   have:=HS.out
   rw[List.take_length] at this
   exact⟨by simp[this],rfl⟩
theorem c_isSignal (v:Value) (xs:List Int) (w:World) (hr:RdI w v xs):Calls Tryz.prog 219 #[v] w fun e w'=>e= .returned (.bool (sigB xs))∧w=w':=by
 obtain⟨A,cap,rfl,hl,hc,hx⟩:=hr.open_
 have HX:=hide hx;clear hx
 have HR:=hide hr;clear hr
 by_cases h4:xs.length≤4000
 all_goals
  go_enter Tryz.func219,Tryz.ntmps219
  go_wp2_with (go_at_call 131;refine(c_areSamples _ _ _ HR.out).mono ?_;rintro e w' ⟨rfl,rfl⟩)
  go_ret
  first|exact⟨by simp[sigB,h4],rfl⟩|exact⟨by simp[sigB];omega,rfl⟩
theorem c_toInt64S (v:Value) (xs:List Int) (w:World) (hr:RdI w v xs) (hn:xs.length≤1048576):Calls Tryz.prog 59 #[v] w fun e w'=> ∃ v',e= .returned v'∧OwI 2 w' w.heap.size v' xs∧Below w.heap.size w w':=by
 obtain⟨A,cap,rfl,hl,hc,hx⟩:=hr.open_
 have HX:=hide hx;clear hx
 have HR:=hide hr;clear hr
 obtain⟨i0,hi,hz0,hz1,hz2⟩:=info_parts info_i64
 go_enter Tryz.func59,Tryz.ntmps59
 go_wp2_with (at_make;refine wpList_make_full _ rfl _ _ _ rfl w.heap.size 2 i0 _ 1 Tryz.underlying26 hi hz0 hz1 .i64 .i64 _ _ xs.length rfl rfl rfl rfl (by rw[hz2];omega) (by unfold maxLen;omega) (Nat.le_refl _) ?_;intro w1 hown1 hg1)
 have ho1:OwI 2 w1 w.heap.size _ _:=OwI.made _ w1 (n:=xs.length) hg1.size (by unfold maxLen;omega) 0 hown1
 have hb1:Below w.heap.size w w1:=(Below.refl _ _).grown hg1 (Nat.le_refl _) (by simp)
 clear hown1 hg1
 have HO:=hide ho1;have HB:=hide hb1;clear ho1 hb1
 go_loopw [4] (fun i wr=> ∃ k:Nat,k≤xs.length∧i= .int .i64 k∧OwI 2 wr w.heap.size (.slice (some ⟨w.heap.size,0,none⟩) xs.length xs.length) (xs.take k++(List.replicate xs.length 0).drop k)∧Below w.heap.size w wr) (fun i _=>xs.length - (intOf i).toNat)
 case atStart=>exact⟨0,Nat.zero_le _,rfl,by simpa using HO.out,HB.out⟩
 case round=>
  obtain⟨k,hk,rfl,ho,hb⟩:=hrel
  have HO:=hide ho;have HB:=hide hb;clear ho hb
  by_cases hlt:k<xs.length
  ·obtain⟨b,off,rfl,hbw,hcell⟩:=HX.out k xs[k] (List.getElem?_eq_getElem hlt)
   have h1:wr.cell? ⟨b,off+k,none⟩=some (.int .i64 xs[k]):=(HB.out.cell hbw).trans hcell
   have h2:wr.cell? ⟨w.heap.size,k,none⟩=some (.int .i64 0):=HO.out.cellN (by rw[getElem?_mix (by simp) (by simpa using hlt)];simp[hlt])
   have h3:=HO.out.freeN k
   go_wp2
   go_roundw
   case rel=>exact⟨k+1,by omega,by go_num,by have:=HO.out.setN k xs[k];rw[set_mix (by simp) (List.getElem?_eq_getElem hlt)] at this;exact this,HB.out.setCell (Nat.le_refl _) _⟩
   case measure=>simp[intOf];omega
  ·go_wp2
   go_ret
   have:k=xs.length:=by omega
   subst this
   exact⟨_,rfl,by have:=HO.out;simpa using this,HB.out⟩
end Go.Proofs.YtoibekfhepnedaaGreat
end
section
namespace Go.Proofs.YtoibekfhepnedaaGreat
open Go.RowKit
theorem c_eqInt64S (v1 v2:Value) (xs ys:List Int) (w:World) (hr1:RdI w v1 xs) (hr2:RdI w v2 ys):Calls Tryz.prog 63 #[v1,v2] w fun e w'=>e= .returned (.bool (decide (xs=ys)))∧Dr w w':=by
 obtain⟨A1,cap1,rfl,hl1,hc1,hx1⟩:=hr1.open_
 obtain⟨A2,cap2,rfl,hl2,hc2,hx2⟩:=hr2.open_
 have HX1:=hide hx1;have HX2:=hide hx2;clear hx1 hx2 hr1 hr2
 by_cases hll:xs.length=ys.length
 ·have hb:((xs.length:Int) != (ys.length:Int))=false:=by simp[hll]
  have HL:=hide hll;clear hll
  go_enter Tryz.func63,Tryz.ntmps63
  go_wp2
  go_loopw [5] (fun i wr=> ∃ k:Nat,k≤xs.length∧i= .int .i64 k∧xs.take k=ys.take k∧Dr w wr) (fun i _=>xs.length - (intOf i).toNat)
  case atStart=>exact⟨0,Nat.zero_le _,rfl,rfl,Dr.refl _⟩
  case round=>
   obtain⟨k,hk,rfl,hs,nr,rfl⟩:=hrel
   have HS:=hide hs;clear hs
   by_cases hlt:k<xs.length
   ·have hlt2:k<ys.length:=by have:=HL.out;omega
    obtain⟨b1,off1,rfl,hb1,hcell1⟩:=HX1.out k xs[k] (List.getElem?_eq_getElem hlt)
    obtain⟨b2,off2,rfl,hb2,hcell2⟩:=HX2.out k ys[k] (List.getElem?_eq_getElem hlt2)
    by_cases he:xs[k]=ys[k]
    ·have hd:(xs[k] != ys[k])=false:=by simp[he]
     have HE:=hide he;clear he
     go_wp2
     go_quiet (fail)
     go_wp2
     go_roundw
     case rel=>exact⟨k+1,by omega,by go_num,takes_succ HS.out (List.getElem?_eq_getElem hlt) (by rw[HE.out];exact List.getElem?_eq_getElem hlt2),(by repeat(first|exact Dr.refl _|exact⟨_,rfl⟩|refine Dr.drewN ?_ _|refine Dr.drew ?_))⟩
     case measure=>simp[intOf];omega
    ·have hd:(xs[k] != ys[k])=true:=by simp[he]
     have HE:=hide he;clear he
     go_wp2
     go_quiet (fail)
     go_wp2
     go_ret
     exact⟨by simp[ne_at (List.getElem?_eq_getElem hlt) (List.getElem?_eq_getElem hlt2) HE.out],(by repeat(first|exact Dr.refl _|exact⟨_,rfl⟩|refine Dr.drewN ?_ _|refine Dr.drew ?_))⟩
   ·go_wp2
    go_ret
    exact⟨by simp[eq_of_takes (k:=k) (by omega) HL.out HS.out],(by repeat(first|exact Dr.refl _|exact⟨_,rfl⟩|refine Dr.drewN ?_ _|refine Dr.drew ?_))⟩
 ·have hb:((xs.length:Int) != (ys.length:Int))=true:=by simp;omega
  have hne:xs≠ys:=fun e=>hll (by rw[e])
  have HN:=hide hne;clear hll hne
  go_enter Tryz.func63,Tryz.ntmps63
  go_wp2
  go_ret
  exact⟨by simp[HN.out],Dr.refl _⟩
theorem c_eqI (v1 v2:Value) (xs:List Int) (w:World) (hr1:RdI w v1 xs) (hr2:RdI w v2 xs):Calls Tryz.prog 63 #[v1,v2] w fun e w'=>e= .returned (.bool true)∧Dr w w':=
 (c_eqInt64S v1 v2 xs xs w hr1 hr2).mono fun e w' ⟨h1,h2⟩=>⟨by rw[h1];simp,h2⟩
end Go.Proofs.YtoibekfhepnedaaGreat
end
