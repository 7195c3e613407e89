/- Contracts of the smallest functions. Contracts: lists of samples, copies, differences. Contracts: equal lists, marks, copies, differences. Contracts: wrapped numbers, copies, differences. Contracts: differences of an order; PredictSignal of both sides. Contracts: what is valid, by the program: lists, clips, names, sends. Contracts: check values, two bytes, the head of a store. -/
import Derived.Test.YteiflbhcehajkaaGreatQAaExactEditCache
import Derived.Test.YteiflbhcehajkaaGreatRows
import Derived.Deep.RegionWith
import Derived.Test.YteiflbhcehajkaaGreatQAcExactEditCache
import Derived.Deep.RegionHeld3
set_option linter.unusedVariables false
set_option linter.unusedSimpArgs false
set_option maxHeartbeats 2000000
set_option maxRecDepth 20000
section
namespace Go.Proofs.YteiflbhcehajkaaGreat
open Go.RowKit
theorem c_l00In (n a b:Int) (w:World):Calls Tryz.prog 74 #[.int .i64 n,.int .i64 a,.int .i64 b] w fun e w'=>e= .returned (.bool (inB n a b))∧w=w':=by
 by_cases h:a≤n
 all_goals
  go_enter Tryz.func74,Tryz.ntmps74
  go_wp2
  go_ret
  exact⟨by first|(simp[inB,h];done)|(simp[inB];omega),rfl⟩
theorem c_within (n a b:Int) (w:World):Calls Tryz.prog 84 #[.int .i64 n,.int .i64 a,.int .i64 b] w fun e w'=>e= .returned (.bool (inB n a b))∧w=w':=by
 by_cases h:a≤n
 all_goals
  go_enter Tryz.func84,Tryz.ntmps84
  go_wp2
  go_ret
  exact⟨by first|(simp[inB,h];done)|(simp[inB];omega),rfl⟩
theorem c_l01Sample (n:Int) (w:World):Calls Tryz.prog 114 #[.int .i64 n] w fun e w'=>e= .returned (.bool (decide (Smp n)))∧w=w':=by
 go_enter Tryz.func114,Tryz.ntmps114
 go_wp2_with (go_at_call 74;refine(c_l00In _ _ _ _).mono ?_;rintro e w' ⟨rfl,rfl⟩)
 go_ret
 exact⟨rfl,rfl⟩
theorem c_isSample (n:Int) (w:World):Calls Tryz.prog 123 #[.int .i64 n] w fun e w'=>e= .returned (.bool (decide (Smp n)))∧w=w':=by
 go_enter Tryz.func123,Tryz.ntmps123
 go_wp2_with (go_at_call 84;refine(c_within _ _ _ _).mono ?_;rintro e w' ⟨rfl,rfl⟩)
 go_ret
 exact⟨rfl,rfl⟩
theorem c_l03Ok (v:Value) (xs:List Int) (w:World) (hr:RdI w v xs):Calls Tryz.prog 60 #[v] w fun e w'=>e= .returned (.bool (sigB xs))∧w=w':=by
 obtain⟨A,cap,rfl,hl,hc,hx⟩:=hr.open_
 have HX:=hide hx;clear hx hr
 by_cases h4:xs.length≤4000
 ·go_enter Tryz.func60,Tryz.ntmps60
  go_wp2
  go_loop [3] (fun i=> ∃ k:Nat,k≤xs.length∧i= .int .i64 k∧smpB (xs.take k)=true) (fun i=>xs.length - (intOf i).toNat)
  case atStart=>exact⟨0,Nat.zero_le _,rfl,by simp[smpB]⟩
  case round=>
   obtain⟨k,hk,rfl,hs⟩:=hrel
   have HS:=hide hs;clear hs
   by_cases hlt:k<xs.length
   ·obtain⟨b,off,rfl,hb,hcell⟩:=HX.out k xs[k] (List.getElem?_eq_getElem hlt)
    by_cases hsm:Smp xs[k]
    ·have hd:decide (Smp xs[k])=true:=by simpa using hsm
     go_wp2_with (go_at_call 114;refine(c_l01Sample _ _).mono ?_;rintro e w' ⟨rfl,rfl⟩)
     go_round
     case rel=>exact⟨k+1,by omega,by go_num,smpB_take_succ (List.getElem?_eq_getElem hlt) HS.out hsm⟩
     case measure=>simp[intOf];omega
    ·have hd:decide (Smp xs[k])=false:=by simpa using hsm
     go_wp2_with (go_at_call 114;refine(c_l01Sample _ _).mono ?_;rintro e w' ⟨rfl,rfl⟩)
     go_ret
     exact⟨by simp[sigB,smpB_no (List.getElem?_eq_getElem hlt) hsm],rfl⟩
   ·go_wp2
    go_ret
    have:k=xs.length:=by omega
    subst this
    have:=HS.out
    rw[List.take_length] at this
    exact⟨by simp[sigB,h4,this],rfl⟩
 ·go_enter Tryz.func60,Tryz.ntmps60
  go_wp2
  go_ret
  exact⟨by simp[sigB];omega,rfl⟩
end Go.Proofs.YteiflbhcehajkaaGreat
end
section
namespace Go.Proofs.YteiflbhcehajkaaGreat
open Go.RowKit
theorem info_i64:(Tryz.prog.info? 2).map (fun i=>(i.zero,i.size,i.bytes))=some (some (.int .i64 0),1,8):=by kernel_rfl
theorem app1_i64 {w:World} {ops:Array Oper} {rest:List Oper} {o:Oper} {a:Act} {Q:Exit→Act→World→Prop} {n:Int} (hgd:o.guard=none) (s x:Operand)
  (ho:o.op= .call { callee:= .builtin .append,args:= #[s,x],argTypes:= #[24,24] }) {B:Nat} {v:Value} {xs:List Int} (hs:a.eval s=v) (hown:OwI 2 w B v xs)
  (hx:a.eval x= .slice (some ⟨w.heap.size,0,none⟩) 1 1) (hl:xs.length+1≤17592186044416) (hB:B≤w.heap.size)
  (h: ∀ v' w',OwI 2 w' B v' (xs++ [n])→w.grownBy w' v.ownBlock→(∀ k,v'.ownBlock=some k→v.ownBlock=some k∨w.heap.size≤k)→wpList Tryz.prog ops Q rest (a.put o.dst v') w'):
  wpList Tryz.prog ops Q (o :: rest) a (w.alloc (.cells #[.int .i64 n] 2)):=
 app_one hgd s x _ ho B _ _ 1 8 Tryz.underlying24 info_i64 rfl (by omega) v xs.length _ hs hown hx rfl (by simp[Value.oneCell']) (by omega) (by omega) hB
  fun v' w' h1 h2 h3=>h v' w' (by unfold OwI;simpa using h1) h2 h3
theorem appm_i64 {w:World} {ops:Array Oper} {rest:List Oper} {o:Oper} {a:Act} {Q:Exit→Act→World→Prop} (hgd:o.guard=none) (s x:Operand)
  (ho:o.op= .call { callee:= .builtin .append,args:= #[s,x],argTypes:= #[24,24] }) {B:Nat} {v:Value} {xs:List Int} (hs:a.eval s=v) (hown:OwI 2 w B v xs)
  {y:Value} {ys:List Int} (hx:a.eval x=y) (hr:RdI w y ys) (hl:xs.length+ys.length≤17592186044416) (hB:B≤w.heap.size)
  (h: ∀ v' w',OwI 2 w' B v' (xs++ys)→w.grownBy w' v.ownBlock→(∀ k,v'.ownBlock=some k→v.ownBlock=some k∨w.heap.size≤k)→wpList Tryz.prog ops Q rest (a.put o.dst v') w'):
  wpList Tryz.prog ops Q (o :: rest) a w:=
 app_many hgd s x _ ho B _ _ 1 8 Tryz.underlying24 info_i64 rfl (by omega) v xs.length _ hs hown y ys.length _ hx hr (ints_oneCell _ _) (by omega) (by omega) hB
  fun v' w' h1 h2 h3=>h v' w' (by unfold OwI;simpa using h1) h2 h3
theorem new_i64 (w:World):OwI 2 (w.alloc (.cells #[] 2)) w.heap.size (.slice (some ⟨w.heap.size,0,none⟩) 0 0) []:=World.ownsRow_made w #[] 0 (Nat.le_refl _) (by decide) rfl
theorem c_areSamples (v:Value) (xs:List Int) (w:World) (hr:RdI w v xs):Calls Tryz.prog 67 #[v] w fun e w'=>e= .returned (.bool (smpB xs))∧w=w':=by
 obtain⟨A,cap,rfl,hl,hc,hx⟩:=hr.open_
 have HX:=hide hx;clear hx hr
 go_enter Tryz.func67,Tryz.ntmps67
 go_wp2
 go_loop [7] (fun i=> ∃ k:Nat,k≤xs.length∧i= .int .i64 k∧smpB (xs.take k)=true) (fun i=>xs.length - (intOf i).toNat)
 case atStart=>exact⟨0,Nat.zero_le _,rfl,by simp[smpB]⟩
 case round=>
  obtain⟨k,hk,rfl,hs⟩:=hrel
  have HS:=hide hs;clear hs
  by_cases hlt:k<xs.length
  ·obtain⟨b,off,rfl,hb,hcell⟩:=HX.out k xs[k] (List.getElem?_eq_getElem hlt)
   by_cases hsm:Smp xs[k]
   ·have hd:decide (Smp xs[k])=true:=by simpa using hsm
    go_wp2_with (go_at_call 123;refine(c_isSample _ _).mono ?_;rintro e w' ⟨rfl,rfl⟩)
    go_round
    case rel=>exact⟨k+1,by omega,by go_num,smpB_take_succ (List.getElem?_eq_getElem hlt) HS.out hsm⟩
    case measure=>simp[intOf];omega
   ·have hd:decide (Smp xs[k])=false:=by simpa using hsm
    go_wp2_with (go_at_call 123;refine(c_isSample _ _).mono ?_;rintro e w' ⟨rfl,rfl⟩)
    go_ret
    exact⟨by simp[smpB_no (List.getElem?_eq_getElem hlt) hsm],rfl⟩
  ·go_wp2
   go_ret
   have:k=xs.length:=by omega
   subst this
   have:=HS.out
   rw[List.take_length] at this
   exact⟨by simp[this],rfl⟩
theorem c_isSignal (v:Value) (xs:List Int) (w:World) (hr:RdI w v xs):Calls Tryz.prog 198 #[v] w fun e w'=>e= .returned (.bool (sigB xs))∧w=w':=by
 obtain⟨A,cap,rfl,hl,hc,hx⟩:=hr.open_
 have HX:=hide hx;clear hx
 have HR:=hide hr;clear hr
 by_cases h4:xs.length≤4000
 all_goals
  go_enter Tryz.func198,Tryz.ntmps198
  go_wp2_with (go_at_call 67;refine(c_areSamples _ _ _ HR.out).mono ?_;rintro e w' ⟨rfl,rfl⟩)
  go_ret
  first|exact⟨by simp[sigB,h4],rfl⟩|exact⟨by simp[sigB];omega,rfl⟩
theorem c_toInt64S (v:Value) (xs:List Int) (w:World) (hr:RdI w v xs) (hn:xs.length≤1048576):Calls Tryz.prog 26 #[v] w fun e w'=> ∃ v',e= .returned v'∧OwI 2 w' w.heap.size v' xs∧Below w.heap.size w w':=by
 obtain⟨A,cap,rfl,hl,hc,hx⟩:=hr.open_
 have HX:=hide hx;clear hx
 have HR:=hide hr;clear hr
 obtain⟨i0,hi,hz0,hz1,hz2⟩:=info_parts info_i64
 go_enter Tryz.func26,Tryz.ntmps26
 go_wp2_with (at_make;refine wpList_make_full _ rfl _ _ _ rfl w.heap.size 2 i0 _ 1 Tryz.underlying24 hi hz0 hz1 .i64 .i64 _ _ xs.length rfl rfl rfl rfl (by rw[hz2];omega) (by unfold maxLen;omega) (Nat.le_refl _) ?_;intro w1 hown1 hg1)
 have ho1:OwI 2 w1 w.heap.size _ _:=OwI.made _ w1 (n:=xs.length) hg1.size (by unfold maxLen;omega) 0 hown1
 have hb1:Below w.heap.size w w1:=(Below.refl _ _).grown hg1 (Nat.le_refl _) (by simp)
 clear hown1 hg1
 have HO:=hide ho1;have HB:=hide hb1;clear ho1 hb1
 go_loopw [4] (fun i wr=> ∃ k:Nat,k≤xs.length∧i= .int .i64 k∧OwI 2 wr w.heap.size (.slice (some ⟨w.heap.size,0,none⟩) xs.length xs.length) (xs.take k++(List.replicate xs.length 0).drop k)∧Below w.heap.size w wr) (fun i _=>xs.length - (intOf i).toNat)
 case atStart=>exact⟨0,Nat.zero_le _,rfl,by simpa using HO.out,HB.out⟩
 case round=>
  obtain⟨k,hk,rfl,ho,hb⟩:=hrel
  have HO:=hide ho;have HB:=hide hb;clear ho hb
  by_cases hlt:k<xs.length
  ·obtain⟨b,off,rfl,hbw,hcell⟩:=HX.out k xs[k] (List.getElem?_eq_getElem hlt)
   have h1:wr.cell? ⟨b,off+k,none⟩=some (.int .i64 xs[k]):=(HB.out.cell hbw).trans hcell
   have h2:wr.cell? ⟨w.heap.size,k,none⟩=some (.int .i64 0):=HO.out.cellN (by rw[getElem?_mix (by simp) (by simpa using hlt)];simp[hlt])
   have h3:=HO.out.freeN k
   go_wp2
   go_roundw
   case rel=>exact⟨k+1,by omega,by go_num,by have:=HO.out.setN k xs[k];rw[set_mix (by simp) (List.getElem?_eq_getElem hlt)] at this;exact this,HB.out.setCell (Nat.le_refl _) _⟩
   case measure=>simp[intOf];omega
  ·go_wp2
   go_ret
   have:k=xs.length:=by omega
   subst this
   exact⟨_,rfl,by have:=HO.out;simpa using this,HB.out⟩
end Go.Proofs.YteiflbhcehajkaaGreat
end
section
namespace Go.Proofs.YteiflbhcehajkaaGreat
open Go.RowKit
theorem c_eqInt64S (v1 v2:Value) (xs ys:List Int) (w:World) (hr1:RdI w v1 xs) (hr2:RdI w v2 ys):Calls Tryz.prog 30 #[v1,v2] w fun e w'=>e= .returned (.bool (decide (xs=ys)))∧Dr w w':=by
 obtain⟨A1,cap1,rfl,hl1,hc1,hx1⟩:=hr1.open_
 obtain⟨A2,cap2,rfl,hl2,hc2,hx2⟩:=hr2.open_
 have HX1:=hide hx1;have HX2:=hide hx2;clear hx1 hx2 hr1 hr2
 by_cases hll:xs.length=ys.length
 ·have hb:((xs.length:Int) != (ys.length:Int))=false:=by simp[hll]
  have HL:=hide hll;clear hll
  go_enter Tryz.func30,Tryz.ntmps30
  go_wp2
  go_loopw [5] (fun i wr=> ∃ k:Nat,k≤xs.length∧i= .int .i64 k∧xs.take k=ys.take k∧Dr w wr) (fun i _=>xs.length - (intOf i).toNat)
  case atStart=>exact⟨0,Nat.zero_le _,rfl,rfl,Dr.refl _⟩
  case round=>
   obtain⟨k,hk,rfl,hs,nr,rfl⟩:=hrel
   have HS:=hide hs;clear hs
   by_cases hlt:k<xs.length
   ·have hlt2:k<ys.length:=by have:=HL.out;omega
    obtain⟨b1,off1,rfl,hb1,hcell1⟩:=HX1.out k xs[k] (List.getElem?_eq_getElem hlt)
    obtain⟨b2,off2,rfl,hb2,hcell2⟩:=HX2.out k ys[k] (List.getElem?_eq_getElem hlt2)
    by_cases he:xs[k]=ys[k]
    ·have hd:(xs[k] != ys[k])=false:=by simp[he]
     have HE:=hide he;clear he
     go_wp2
     go_quiet (fail)
     go_wp2
     go_roundw
     case rel=>exact⟨k+1,by omega,by go_num,takes_succ HS.out (List.getElem?_eq_getElem hlt) (by rw[HE.out];exact List.getElem?_eq_getElem hlt2),(by repeat(first|exact Dr.refl _|exact⟨_,rfl⟩|refine Dr.drewN ?_ _|refine Dr.drew ?_))⟩
     case measure=>simp[intOf];omega
    ·have hd:(xs[k] != ys[k])=true:=by simp[he]
     have HE:=hide he;clear he
     go_wp2
     go_quiet (fail)
     go_wp2
     go_ret
     exact⟨by simp[ne_at (List.getElem?_eq_getElem hlt) (List.getElem?_eq_getElem hlt2) HE.out],(by repeat(first|exact Dr.refl _|exact⟨_,rfl⟩|refine Dr.drewN ?_ _|refine Dr.drew ?_))⟩
   ·go_wp2
    go_ret
    exact⟨by simp[eq_of_takes (k:=k) (by omega) HL.out HS.out],(by repeat(first|exact Dr.refl _|exact⟨_,rfl⟩|refine Dr.drewN ?_ _|refine Dr.drew ?_))⟩
 ·have hb:((xs.length:Int) != (ys.length:Int))=true:=by simp;omega
  have hne:xs≠ys:=fun e=>hll (by rw[e])
  have HN:=hide hne;clear hll hne
  go_enter Tryz.func30,Tryz.ntmps30
  go_wp2
  go_ret
  exact⟨by simp[HN.out],Dr.refl _⟩
theorem c_markInt64S (E:TypeId) (B:Nat) (v:Value) (xs:List Int) (m:Nat) (w:World) (ho:OwI E w B v xs) (hm:m+xs.length≤4611686018427387904):
  Calls Tryz.prog 49 #[v,.int .i64 m] w fun e w'=>e= .returned (.int .i64 ((m+xs.length:Nat):Int))∧OwI E w' B v (marks m xs.length)∧w.grownBy w' v.ownBlock:=by
 rcases Nat.eq_zero_or_pos xs.length with hz|hz
 ·have hx:xs= []:=List.eq_nil_of_length_eq_zero hz
  subst hx
  obtain⟨A,cap,rfl,hl,hc,_⟩:=ho.rd.open_
  have HO:=hide ho;clear ho hz
  simp only[List.length_nil] at *
  go_enter Tryz.func49,Tryz.ntmps49
  go_wp2
  refine wp_loop_rounds 1 ?_
  rw[rounds_succ]
  go_wp2
  go_ret
  exact⟨by simp,by simpa[marks] using HO.out,World.grownBy.refl _ _⟩
 ·obtain⟨g,cap,rfl,hl,hg,hgw⟩:=ho.form hz
  have HO:=hide ho;clear ho
  go_enter Tryz.func49,Tryz.ntmps49
  go_wp2
  go_loopw [1,5] (fun t i wr=> ∃ k:Nat,k≤xs.length∧i= .int .i64 k∧t= .int .i64 ((m+k:Nat):Int)∧OwI E wr B (.slice (some ⟨g,0,none⟩) xs.length cap) ((marks m xs.length).take k++xs.drop k)∧w.grownBy wr (some g)) (fun _ i _=>xs.length - (intOf i).toNat)
  case atStart=>exact⟨0,Nat.zero_le _,rfl,rfl,by simpa using HO.out,World.grownBy.refl _ _⟩
  case round=>
   obtain⟨k,hk,rfl,rfl,ho,hb⟩:=hrel
   have HO:=hide ho;have HB:=hide hb;clear ho hb
   by_cases hlt:k<xs.length
   ·have h2:wr.cell? ⟨g,k,none⟩=some (.int .i64 xs[k]):=HO.out.cellN (by rw[getElem?_mix (length_marks _ _) hlt];exact List.getElem?_eq_getElem hlt)
    have h3:=HO.out.freeN k
    go_wp2
    go_roundw
    case rel=>exact⟨k+1,by omega,by go_num,by go_num,by have:=HO.out.setN k ((m+k:Nat):Int);rw[set_mix (length_marks _ _) (marks_at hlt)] at this;exact this,HB.out.trans (HO.out.grownN k _)⟩
    case measure=>simp[intOf];omega
   ·go_wp2
    go_ret
    have:k=xs.length:=by omega
    subst this
    exact⟨rfl,by have:=HO.out;rw[List.take_of_length_le (by simp[length_marks]),List.drop_length,List.append_nil] at this;unfold OwI at *;rw[length_marks] at *;exact this,HB.out⟩
/-- The number that 'held' returns. -/
def heldF (xs:List Int) (m:Nat):Int:=if xs=marks m xs.length then ((m+xs.length:Nat):Int) else -1
theorem c_heldInt64S (v:Value) (xs:List Int) (m:Nat) (w:World) (hr:RdI w v xs) (hm:m+xs.length≤4611686018427387904):
  Calls Tryz.prog 53 #[v,.int .i64 m] w fun e w'=>e= .returned (.int .i64 (heldF xs m))∧w=w':=by
 obtain⟨A,cap,rfl,hl,hc,hx⟩:=hr.open_
 have HX:=hide hx;clear hx hr
 go_enter Tryz.func53,Tryz.ntmps53
 go_wp2
 go_loop [1,5] (fun t i=> ∃ k:Nat,k≤xs.length∧i= .int .i64 k∧t= .int .i64 ((m+k:Nat):Int)∧xs.take k=(marks m xs.length).take k) (fun _ i=>xs.length - (intOf i).toNat)
 case atStart=>exact⟨0,Nat.zero_le _,rfl,rfl,rfl⟩
 case round=>
  obtain⟨k,hk,rfl,rfl,hs⟩:=hrel
  have HS:=hide hs;clear hs
  by_cases hlt:k<xs.length
  ·obtain⟨b,off,rfl,hb,hcell⟩:=HX.out k xs[k] (List.getElem?_eq_getElem hlt)
   by_cases he:xs[k]=((m+k:Nat):Int)
   ·have hd:(xs[k] != ((m:Int)+(k:Int)))=false:=by rw[he];simp
    have HE:=hide he;clear he
    go_wp2
    go_round
    case rel=>exact⟨k+1,by omega,by go_num,by go_num,takes_succ HS.out (List.getElem?_eq_getElem hlt) (by rw[HE.out];exact marks_at hlt)⟩
    case measure=>simp[intOf];omega
   ·have hd:(xs[k] != ((m:Int)+(k:Int)))=true:=by simp;omega
    have HE:=hide he;clear he
    go_wp2
    go_ret
    exact⟨by unfold heldF;rw[if_neg (ne_at (List.getElem?_eq_getElem hlt) (marks_at hlt) HE.out)];rfl,rfl⟩
  ·go_wp2
   go_ret
   have hk2:k=xs.length:=by omega
   have:=eq_of_takes hk2 (length_marks _ _).symm HS.out
   exact⟨by unfold heldF;rw[if_pos this];simp;omega,rfl⟩
theorem c_eqI (v1 v2:Value) (xs:List Int) (w:World) (hr1:RdI w v1 xs) (hr2:RdI w v2 xs):Calls Tryz.prog 30 #[v1,v2] w fun e w'=>e= .returned (.bool true)∧Dr w w':=
 (c_eqInt64S v1 v2 xs xs w hr1 hr2).mono fun e w' ⟨h1,h2⟩=>⟨by rw[h1];simp,h2⟩
theorem c_heldI (v:Value) (n m:Nat) (w:World) (hr:RdI w v (marks m n)) (hm:m+n≤4611686018427387904):
  Calls Tryz.prog 53 #[v,.int .i64 m] w fun e w'=>e= .returned (.int .i64 ((m+n:Nat):Int))∧w=w':=
 (c_heldInt64S v (marks m n) m w hr (by rw[length_marks];exact hm)).mono fun e w' ⟨h1,h2⟩=>⟨by rw[h1,heldF,length_marks,if_pos rfl],h2⟩
end Go.Proofs.YteiflbhcehajkaaGreat
end
section
namespace Go.Proofs.YteiflbhcehajkaaGreat
open Go.RowKit
theorem c_l00Own (v:Value) (xs:List Int) (w:World) (hr:RdI w v xs) (hn:xs.length≤1048576):Calls Tryz.prog 106 #[v] w fun e w'=> ∃ v',e= .returned v'∧OwI 2 w' w.heap.size v' xs∧Below w.heap.size w w':=by
 have HR:=hide hr;clear hr
 go_enter Tryz.func106,Tryz.ntmps106
 go_wp2_with (at_builtin;refine appm_i64 rfl _ _ rfl rfl (new_i64 w) rfl (Rd.alloc HR.out _) (by simp;omega) (by simp) ?_;intro v1 w1 ho hg hv)
 go_ret
 exact⟨_,rfl,by simpa using ho,below_own ((Below.refl _ _).alloc (Nat.le_refl _) _) (new_i64 w) hg (Nat.le_refl _) (by simp)⟩
theorem c_clone (v:Value) (xs:List Int) (w:World) (hr:RdI w v xs) (hn:xs.length≤1048576):Calls Tryz.prog 57 #[v] w fun e w'=> ∃ v',e= .returned v'∧OwI 2 w' w.heap.size v' xs∧Below w.heap.size w w':=by
 have HR:=hide hr;clear hr
 go_enter Tryz.func57,Tryz.ntmps57
 go_wp2_with (at_builtin;refine appm_i64 rfl _ _ rfl rfl (new_i64 w) rfl (Rd.alloc HR.out _) (by simp;omega) (by simp) ?_;intro v1 w1 ho hg hv)
 go_ret
 exact⟨_,rfl,by simpa using ho,below_own ((Below.refl _ _).alloc (Nat.le_refl _) _) (new_i64 w) hg (Nat.le_refl _) (by simp)⟩
end Go.Proofs.YteiflbhcehajkaaGreat
end
section
namespace Go.Proofs.YteiflbhcehajkaaGreat
open Go.RowKit
theorem c_size (v:Value) (xs:List Int) (w:World) (hr:RdI w v xs):Calls Tryz.prog 66 #[v] w fun e w'=>e= .returned (.int .i64 (xs.length:Int))∧w=w':=by
 obtain⟨A,cap,rfl,hl,hc,hx⟩:=hr.open_
 clear hx hr
 go_enter Tryz.func66,Tryz.ntmps66
 go_wp2
 go_ret
 exact⟨rfl,rfl⟩
end Go.Proofs.YteiflbhcehajkaaGreat
end
section
namespace Go.Proofs.YteiflbhcehajkaaGreat
open Go.RowKit
theorem yY {n a b:Int} :inB n a b=true↔a≤n∧n≤b:=by simp[inB]
theorem inB_not {n a b:Int} (h:inB n a b=false) (k:a≤n∧n≤b):False:=by simp[inB] at h;omega
theorem c_areIndices (v:Value) (xs:List Int) (n:Int) (w:World) (hr:RdI w v xs) (h0:0≤n) (h1:n≤9223372036854775807):Calls Tryz.prog 68 #[v,.int .i64 n] w fun e w'=>e= .returned (.bool (tf (Idx xs n)))∧w=w':=by
 obtain⟨A,cap,rfl,hl,hc,hx⟩:=hr.open_
 have HX:=hide hx;clear hx hr
 go_enter Tryz.func68,Tryz.ntmps68
 go_wp2
 go_loop [9] (fun i=> ∃ k:Nat,k≤xs.length∧i= .int .i64 k∧Upto xs (fun _ x=>0≤x∧x≤n - 1) k) (fun i=>xs.length - (intOf i).toNat)
 case atStart=>exact⟨0,Nat.zero_le _,rfl,Upto.zero⟩
 case round=>
  obtain⟨k,hk,rfl,hs⟩:=hrel
  have HS:=hide hs;clear hs
  by_cases hlt:k<xs.length
  ·have hgk:=List.getElem?_eq_getElem hlt
   obtain⟨b,off,rfl,hb,hcell⟩:=HX.out k xs[k] hgk
   generalize xs[k]=x at *
   have HG:=hide hgk;clear hgk
   by_cases hq:inB x 0 (n - 1)=true
   ·go_wp2_with (go_at_call 84;refine(c_within _ _ _ _).mono ?_;rintro e w' ⟨rfl,rfl⟩)
    go_round
    case rel=>exact⟨k+1,by omega,by go_num,HS.out.step HG.out (yY.1 hq)⟩
    case measure=>simp[intOf];omega
   ·have hq':inB x 0 (n - 1)=false:=by simpa using hq
    clear hq
    go_wp2_with (go_at_call 84;refine(c_within _ _ _ _).mono ?_;rintro e w' ⟨rfl,rfl⟩)
    go_ret
    exact⟨yF (yV (fun hh=>inB_not hq' (hh k x HG.out))).symm,rfl⟩
  ·have hall:=hide (HS.out.all (by omega))
   go_wp2
   go_ret
   exact⟨yF ((yW hall.out).symm),rfl⟩
theorem c_areSignals (v:Value) (xs:List (List Int)) (w:World) (hr:T.rd w (T.sl 24 1 (xs.map (T.ints 2))) [v]):Calls Tryz.prog 145 #[v] w fun e w'=>e= .returned (.bool (tf (Each xs fun _ l=>sigB l=true)))∧w=w':=by
 obtain⟨A,cap,rfl,hl,hc,hx⟩:=T.yK hr
 have HX:=hide hx;clear hx hr
 go_enter Tryz.func145,Tryz.ntmps145
 go_wp2
 go_loop [7] (fun i=> ∃ k:Nat,k≤xs.length∧i= .int .i64 k∧Upto xs (fun _ l=>sigB l=true) k) (fun i=>xs.length - (intOf i).toNat)
 case atStart=>exact⟨0,Nat.zero_le _,rfl,Upto.zero⟩
 case round=>
  obtain⟨k,hk,rfl,hs⟩:=hrel
  have HS:=hide hs;clear hs
  by_cases hlt:k<xs.length
  ·have hgk:=List.getElem?_eq_getElem hlt
   obtain⟨b,off,cs,rfl,hb,hcs,hcell⟩:=HX.out k xs[k] hgk
   generalize xs[k]=l at *
   have HG:=hide hgk;clear hgk
   obtain⟨v3,rfl⟩:=T.rd_one hcs
   have d0:=hcell 0 v3 rfl
   rw[Nat.mul_one,Nat.add_zero] at d0
   have R:=hide (T.yQ.1 hcs);clear hcs hcell
   obtain⟨A3,c3,rfl,l3,m3,x3⟩:=R.out.open_
   clear x3
   by_cases hq:sigB l=true
   ·go_wp2_with (go_at_call 198;refine(c_isSignal _ l _ R.out).mono ?_;rintro e w' ⟨rfl,rfl⟩)
    go_round
    case rel=>exact⟨k+1,by omega,by go_num,HS.out.step HG.out hq⟩
    case measure=>simp[intOf];omega
   ·have hq':sigB l=false:=by simpa using hq
    clear hq
    go_wp2_with (go_at_call 198;refine(c_isSignal _ l _ R.out).mono ?_;rintro e w' ⟨rfl,rfl⟩)
    go_ret
    exact⟨yF (yV (fun hh=>by rw[hh k l HG.out] at hq';exact absurd hq' (by simp))).symm,rfl⟩
  ·have hall:=hide (HS.out.all (by omega));clear HS
   go_wp2
   go_ret
   exact⟨yF (yW hall.out).symm,rfl⟩
theorem c_areSources (v:Value) (xs:List (List Int)) (w:World) (hr:T.rd w (T.sl 24 1 (xs.map (T.ints 2))) [v]):Calls Tryz.prog 85 #[v] w fun e w'=>e= .returned (.bool (tf (SourcesOk xs)))∧w=w':=by
 have R:=hide hr
 obtain⟨A,cap,rfl,hl,hc,hx⟩:=T.yK hr
 clear hx hr
 by_cases h6:xs.length≤6
 ·go_enter Tryz.func85,Tryz.ntmps85
  go_wp2_with (go_at_call 145;refine(c_areSignals _ xs _ R.out).mono ?_;rintro e w' ⟨rfl,rfl⟩)
  go_ret
  exact⟨yF (tf_iff ⟨fun h=>⟨h,h6⟩,fun h=>h.each⟩),rfl⟩
 ·go_enter Tryz.func85,Tryz.ntmps85
  go_wp2
  go_ret
  exact⟨yF (yV fun h=>h6 h.few).symm,rfl⟩
theorem c_areTables (v:Value) (xs:List (List Int)) (w:World) (hr:T.rd w (T.sl 24 1 (xs.map (T.ints 2))) [v]):Calls Tryz.prog 230 #[v] w fun e w'=>e= .returned (.bool (tf (TablesOk xs)))∧w=w':=by
 obtain⟨A,cap,rfl,hl,hc,hx⟩:=T.yK hr
 have HX:=hide hx;clear hx hr
 go_enter Tryz.func230,Tryz.ntmps230
 go_wp2
 go_loop [8] (fun i=> ∃ k:Nat,k≤xs.length∧i= .int .i64 k∧Upto xs (fun _ t=>(t.length=2∨t.length=4∨t.length=8∨t.length=16)∧smpB t=true) k) (fun i=>xs.length - (intOf i).toNat)
 case atStart=>exact⟨0,Nat.zero_le _,rfl,Upto.zero⟩
 case round=>
  obtain⟨k,hk,rfl,hs⟩:=hrel
  have HS:=hide hs;clear hs
  by_cases hlt:k<xs.length
  ·have hgk:=List.getElem?_eq_getElem hlt
   obtain⟨b,off,cs,rfl,hb,hcs,hcell⟩:=HX.out k xs[k] hgk
   generalize xs[k]=l at *
   have HG:=hide hgk;clear hgk
   obtain⟨v3,rfl⟩:=T.rd_one hcs
   have d0:=hcell 0 v3 rfl
   rw[Nat.mul_one,Nat.add_zero] at d0
   have R:=hide (T.yQ.1 hcs);clear hcs hcell
   obtain⟨A3,c3,rfl,l3,m3,x3⟩:=R.out.open_
   clear x3
   by_cases hn:l.length=2∨l.length=4∨l.length=8∨l.length=16
   ·by_cases hq:smpB l=true
    ·rcases hn with hn|hn|hn|hn
     ·skip
      have n2:((l.length:Int) != 2)=false:=by simp;omega
      clear hn
      have hn:l.length=2∨l.length=4∨l.length=8∨l.length=16:=by simp at n2;omega
      have HN:=hide hn;clear hn
      go_wp2_with (go_at_call 67;refine(c_areSamples _ l _ R.out).mono ?_;rintro e w' ⟨rfl,rfl⟩)
      go_round
      case rel=>exact⟨k+1,by omega,by go_num,HS.out.step HG.out ⟨HN.out,hq⟩⟩
      case measure=>simp[intOf];omega
     ·skip
      have n2:((l.length:Int) != 2)=true:=by simp;omega
      have n4:((l.length:Int) != 4)=false:=by simp;omega
      clear hn
      have hn:l.length=2∨l.length=4∨l.length=8∨l.length=16:=by simp at n4;omega
      have HN:=hide hn;clear hn
      go_wp2_with (go_at_call 67;refine(c_areSamples _ l _ R.out).mono ?_;rintro e w' ⟨rfl,rfl⟩)
      go_round
      case rel=>exact⟨k+1,by omega,by go_num,HS.out.step HG.out ⟨HN.out,hq⟩⟩
      case measure=>simp[intOf];omega
     ·skip
      have n2:((l.length:Int) != 2)=true:=by simp;omega
      have n4:((l.length:Int) != 4)=true:=by simp;omega
      have n8:((l.length:Int) != 8)=false:=by simp;omega
      clear hn
      have hn:l.length=2∨l.length=4∨l.length=8∨l.length=16:=by simp at n8;omega
      have HN:=hide hn;clear hn
      go_wp2_with (go_at_call 67;refine(c_areSamples _ l _ R.out).mono ?_;rintro e w' ⟨rfl,rfl⟩)
      go_round
      case rel=>exact⟨k+1,by omega,by go_num,HS.out.step HG.out ⟨HN.out,hq⟩⟩
      case measure=>simp[intOf];omega
     ·skip
      have n2:((l.length:Int) != 2)=true:=by simp;omega
      have n4:((l.length:Int) != 4)=true:=by simp;omega
      have n8:((l.length:Int) != 8)=true:=by simp;omega
      have n16:((l.length:Int) != 16)=false:=by simp;omega
      clear hn
      have hn:l.length=2∨l.length=4∨l.length=8∨l.length=16:=by simp at n16;omega
      have HN:=hide hn;clear hn
      go_wp2_with (go_at_call 67;refine(c_areSamples _ l _ R.out).mono ?_;rintro e w' ⟨rfl,rfl⟩)
      go_round
      case rel=>exact⟨k+1,by omega,by go_num,HS.out.step HG.out ⟨HN.out,hq⟩⟩
      case measure=>simp[intOf];omega
    ·have hq':smpB l=false:=by simpa using hq
     clear hq
     rcases hn with hn|hn|hn|hn
     ·skip
      have n2:((l.length:Int) != 2)=false:=by simp;omega
      clear hn
      go_wp2_with (go_at_call 67;refine(c_areSamples _ l _ R.out).mono ?_;rintro e w' ⟨rfl,rfl⟩)
      go_ret
      exact⟨yF (yV (fun hh=>by rw[(hh.each k l HG.out).2] at hq';exact absurd hq' (by simp))).symm,rfl⟩
     ·skip
      have n2:((l.length:Int) != 2)=true:=by simp;omega
      have n4:((l.length:Int) != 4)=false:=by simp;omega
      clear hn
      go_wp2_with (go_at_call 67;refine(c_areSamples _ l _ R.out).mono ?_;rintro e w' ⟨rfl,rfl⟩)
      go_ret
      exact⟨yF (yV (fun hh=>by rw[(hh.each k l HG.out).2] at hq';exact absurd hq' (by simp))).symm,rfl⟩
     ·skip
      have n2:((l.length:Int) != 2)=true:=by simp;omega
      have n4:((l.length:Int) != 4)=true:=by simp;omega
      have n8:((l.length:Int) != 8)=false:=by simp;omega
      clear hn
      go_wp2_with (go_at_call 67;refine(c_areSamples _ l _ R.out).mono ?_;rintro e w' ⟨rfl,rfl⟩)
      go_ret
      exact⟨yF (yV (fun hh=>by rw[(hh.each k l HG.out).2] at hq';exact absurd hq' (by simp))).symm,rfl⟩
     ·skip
      have n2:((l.length:Int) != 2)=true:=by simp;omega
      have n4:((l.length:Int) != 4)=true:=by simp;omega
      have n8:((l.length:Int) != 8)=true:=by simp;omega
      have n16:((l.length:Int) != 16)=false:=by simp;omega
      clear hn
      go_wp2_with (go_at_call 67;refine(c_areSamples _ l _ R.out).mono ?_;rintro e w' ⟨rfl,rfl⟩)
      go_ret
      exact⟨yF (yV (fun hh=>by rw[(hh.each k l HG.out).2] at hq';exact absurd hq' (by simp))).symm,rfl⟩
   ·have n2:((l.length:Int) != 2)=true:=by simp;omega
    have n4:((l.length:Int) != 4)=true:=by simp;omega
    have n8:((l.length:Int) != 8)=true:=by simp;omega
    have n16:((l.length:Int) != 16)=true:=by simp;omega
    go_wp2
    go_ret
    exact⟨yF (yV (fun hh=>hn (hh.each k l HG.out).1)).symm,rfl⟩
  ·have hall:=hide (HS.out.all (by omega));clear HS
   by_cases h4:xs.length≤4
   ·go_wp2
    go_ret
    exact⟨yF (by rw[yW ⟨hall.out,h4⟩];simp;omega),rfl⟩
   ·go_wp2
    go_ret
    exact⟨yF (by rw[yV fun h=>h4 h.few];simp;omega),rfl⟩
theorem c_isClip (x:GClip) (cs:List Value) (w:World) (h:T.rds w x.fs cs):Calls Tryz.prog 148 #[.agg cs.toArray] w fun e w'=>e= .returned (.bool (tf (ClipOk x)))∧Below w.heap.size w w':=by
 obtain rfl:=GClip.yL h
 clear h
 have HB0:=hide (show Below w.heap.size w (w.alloc (.cells #[.int .i64 x.zO,.int .i64 x.zI,.int .i64 x.zA,.int .i64 x.zW,.int .i64 x.zQ] 60)) from(Below.refl _ _).alloc (Nat.le_refl _) _)
 have HK0:=hide (Bk.born w 60 #[.int .i64 x.zO,.int .i64 x.zI,.int .i64 x.zA,.int .i64 x.zW,.int .i64 x.zQ])
 go_enter Tryz.func148,Tryz.ntmps148
 by_cases h1:inB x.zO 0 5=true
 rotate_left
 ·have hq:inB x.zO 0 5=false:=by simpa using h1
  go_wp2_with (go_at_call 84;refine(c_within _ _ _ _).mono ?_;rintro e w' ⟨rfl,rfl⟩)
  go_ret
  exact⟨yF (yV fun hh=>by exact h1 hh.source).symm,HB0.out⟩
 by_cases h2:inB x.zA 1 4000=true
 rotate_left
 ·have hq:inB x.zA 1 4000=false:=by simpa using h2
  go_wp2_with (go_at_call 84;refine(c_within _ _ _ _).mono ?_;rintro e w' ⟨rfl,rfl⟩)
  go_ret
  exact⟨yF (yV fun hh=>by exact h2 hh.length).symm,HB0.out⟩
 have hb:=yY.1 h2
 by_cases h3:inB x.zI 0 (4000 - x.zA)=true
 rotate_left
 ·have hq:inB x.zI 0 (4000 - x.zA)=false:=by simpa using h3
  go_wp2_with (go_at_call 84;refine(c_within _ _ _ _).mono ?_;rintro e w' ⟨rfl,rfl⟩)
  go_ret
  exact⟨yF (yV fun hh=>by exact h3 hh.from_).symm,HB0.out⟩
 by_cases h4:inB x.zW 0 (4000 - x.zA)=true
 rotate_left
 ·have hq:inB x.zW 0 (4000 - x.zA)=false:=by simpa using h4
  go_wp2_with (go_at_call 84;refine(c_within _ _ _ _).mono ?_;rintro e w' ⟨rfl,rfl⟩)
  go_ret
  exact⟨yF (yV fun hh=>by exact h4 hh.at_).symm,HB0.out⟩
 by_cases h5:Smp x.zQ
 rotate_left
 ·have hq:decide (Smp x.zQ)=false:=by simpa using h5
  go_wp2_with (first|(go_at_call 84;refine(c_within _ _ _ _).mono ?_;rintro e w' ⟨rfl,rfl⟩)|(go_at_call 123;refine(c_isSample _ _).mono ?_;rintro e w' ⟨rfl,rfl⟩))
  go_ret
  exact⟨yF (yV fun hh=>by exact h5 hh.gain).symm,HB0.out⟩
 have hq:decide (Smp x.zQ)=true:=by simpa using h5
 go_wp2_with (first|(go_at_call 84;refine(c_within _ _ _ _).mono ?_;rintro e w' ⟨rfl,rfl⟩)|(go_at_call 123;refine(c_isSample _ _).mono ?_;rintro e w' ⟨rfl,rfl⟩))
 go_ret
 exact⟨yF (by rw[yW ⟨h1,h2,h3,h4,h5⟩]),HB0.out⟩
end Go.Proofs.YteiflbhcehajkaaGreat
end
section
namespace Go.Proofs.YteiflbhcehajkaaGreat
open Go.RowKit
end Go.Proofs.YteiflbhcehajkaaGreat
end
