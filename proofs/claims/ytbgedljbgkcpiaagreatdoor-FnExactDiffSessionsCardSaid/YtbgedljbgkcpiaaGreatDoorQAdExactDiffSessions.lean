/- Contract: the text of a mark. Words for memory: a slice of the call's own between two marks of the heap. No program is named here. Contracts: marks in lists of changes; append of a change. Contracts: which lists of changes are valid; the law ValidChanges. Arguments: a slice of structs that came in reads as a list. No program is named here. Contracts: which lists of changes are valid, by the reference; the law ValidChanges. Contracts: marks held in lists of changes; changes that lead back, by both sides. Plain steps of the changes from some lines to others. Contract: the changes from some lines to others (impl.diff). -/
import Derived.Test.YtbgedljbgkcpiaaGreatDoorQAbExactDiffSessions
import Derived.Test.YtbgedljbgkcpiaaGreatDoorQAcExactDiffSessions
import Derived.Deep.RegionHeld3
import Derived.Deep.Slices
import Derived.ChangeSame
import Derived.ChangeArms
set_option linter.unusedVariables false
set_option linter.unusedSimpArgs false
set_option maxHeartbeats 4000000
set_option maxRecDepth 20000
section
namespace Go.Proofs.YtbgedljbgkcpiaaGreatDoor
open Go.RowKit
/-- The text of a mark. -/
def mrkB (k:Nat):ByteArray:=mkS (109 :: preD k)
theorem str_of0 {w:World} {v:Value} {bs:List UInt8} (h:RdY w v bs):(convert 104 9 v).run Tryz.prog w= .ok (.string (mkS bs)) w:=
 run_str Tryz.underlying104 Tryz.underlying5 Tryz.underlying9 h
theorem byte_cell (n:Nat) (h:n<256) (w:World):RdY (w.alloc (.cells #[.int .u8 (n:Int)] 5)) (.slice (some ⟨w.heap.size,0,none⟩) 1 1) [UInt8.ofNat n]:=by
 have e1:((UInt8.ofNat n).toNat:Int)=(n:Int):=by rw[UInt8.toNat_ofNat_of_lt' (by exact h)]
 have:=World.ownsRow_lit (base:=w.heap.size) (e:=5) (size:=1) w #[.int .u8 (n:Int)] 1 (Nat.le_refl _) (by decide) rfl
 refine OwY.rd (E:=5) (B:=w.heap.size) ?_
 unfold OwY
 simp only[List.length_cons,List.length_nil,List.map_cons,List.map_nil,e1]
 exact this
theorem c_markText (k:Nat) (w:World) (h0:0<k) (hk:k≤4611686018427387904):Calls Tryz.prog 43 #[.int .i64 (k:Int)] w fun e w'=>e= .returned (.string (mrkB k))∧Below w.heap.size w w':=by
 have hkk: ¬ (k:Int)≤0:=by omega
 go_enter Tryz.func43,Tryz.ntmps43
 go_wp2
 go_loopw [0,3] (fun kv o wr=> ∃ (m:Nat) (l:List UInt8),m≤k∧kv= .int .i64 (m:Int)∧o= .string (mkS l)∧preD k=preD m++l∧Below w.heap.size w wr) (fun kv _ _=>(intOf kv).toNat)
 case atStart=>exact⟨k,[],Nat.le_refl _,rfl,rfl,by simp,Below.refl _ _⟩
 case round=>
  obtain⟨m,l,hm,rfl,rfl,hp,hb⟩:=hrel
  have hll:(mkS l).size≤19:=by have h1:=congrArg List.length hp;have h2:=preD_len 19 k (by omega);rw[List.length_append] at h1;rw[size_mkS];omega
  have HP:=hide hp;have HB:=hide hb;clear hp hb
  by_cases hz:0<m
  ·have hmod:(m:Int) % 10=((m % 10:Nat):Int):=by omega
   have hdiv:(m:Int) / 10=((m / 10:Nat):Int):=by omega
   have hd:m % 10<10:=Nat.mod_lt _ (by omega)
   have HS:=hide (preD_step (u:=m) (by omega))
   generalize hdd:m % 10=d at *
   have hq:m / 10<m:=by omega
   generalize hqq:m / 10=q at *
   have hcv: ∀ W:World,(convert 104 9 (.slice (some ⟨W.heap.size,0,none⟩) 1 1)).run Tryz.prog (W.alloc (.cells #[.int .u8 (48+(d:Int))] 5))= .ok (.string (mkS [UInt8.ofNat (48+d)])) (W.alloc (.cells #[.int .u8 (48+(d:Int))] 5)):=fun W=>str_of0 (byte_cell (48+d) (by omega) W)
   have happ:mkS [UInt8.ofNat (48+d)]++mkS l=mkS ([UInt8.ofNat (48+d)]++l):=mkS_append _ _
   generalize hcc:UInt8.ofNat (48+d)=c at *
   have h1s:(mkS [c]).size=1:=size_mkS _
   have HA:=hide happ;clear happ hcc
   clear hdd hqq
   go_wp2
   go_roundw
   case rel=>exact⟨q,[c]++l,by omega,by go_num,by rw[HA.out],by rw[HP.out,HS.out];simp,HB.out.alloc HB.out.size _⟩
   case measure=>simp[intOf];omega
  ·have hl:preD k=l:=by have:=HP.out;rw[this,show m=0 by omega];simp[preD]
   have hz2: ¬ (0:Int)<(m:Int):=by omega
   have happ:mkS [109]++mkS l=mrkB k:=by rw[mkS_append,mrkB,hl];rfl
   have HA:=hide happ;clear happ
   have h1s:(⟨#[109]⟩:ByteArray).size=1:=rfl
   go_wp2
   go_ret
   exact⟨ret_str (by rw[←HA.out];rfl),HB.out⟩
end Go.Proofs.YtbgedljbgkcpiaaGreatDoor
end
section
namespace Go.Proofs.YtbgedljbgkcpiaaGreatDoor
open Go.RowKit
def FrG {α:Type} (enc:α→List Value) (sz:Nat) (E:TypeId) (w:World) (lo hi:Nat) (v:Value) (xs:List α):Prop:=OwG enc sz E w lo v xs∧ ∀ k,v.ownBlock=some k→k<hi
section
variable {α:Type} {enc:α→List Value} {sz:Nat} {w w':World} {E:TypeId} {lo hi:Nat} {v:Value} {xs ys:List α}
theorem FrG.born (h:OwG enc sz E w' w.heap.size v xs):FrG enc sz E w' w.heap.size w'.heap.size v xs:=⟨h,fun k hk=>(h.lt k hk).2⟩
theorem FrG.rd (h:FrG enc sz E w lo hi v xs):RdG enc sz w v xs:=h.1.rd
theorem FrG.below {B:Nat} (h:FrG enc sz E w lo hi v xs) (hb:Below B w w') (hB:hi≤B):FrG enc sz E w' lo hi v xs:=⟨h.1.below hb fun b hb=>Nat.lt_of_lt_of_le (h.2 b hb) hB,h.2⟩
theorem FrG.mark (h:FrG enc sz E w lo hi v xs) (h2:OwG enc sz E w' lo v ys):FrG enc sz E w' lo hi v ys:=⟨h2,h.2⟩
theorem FrG.other {β:Type} {enc':β→List Value} {sz':Nat} {E':TypeId} {lo' hi':Nat} {v':Value} {zs:List β} (h:FrG enc sz E w lo hi v xs) (h':FrG enc' sz' E' w lo' hi' v' zs) (hg:w.grownBy w' v'.ownBlock) (hd:hi≤lo'∨hi'≤lo):FrG enc sz E w' lo hi v xs:=by
 refine⟨⟨h.1.1,h.1.2.1,?_⟩,h.2⟩
 rcases h.1.2.2 with hn|⟨g,cap,cur,rfl,hbg,hg',rest⟩
 ·exact .inl hn
 ·refine .inr ⟨g,cap,cur,rfl,hbg,?_,rest⟩
  rw[hg.block g (Array.getElem?_eq_some_iff.1 hg').1 ?_]
  ·exact hg'
  ·intro e
   have h1:=h'.1.lt g e.symm
   have h2:=h'.2 g e.symm
   have h3:=h.2 g rfl
   omega
theorem FrG.below_mark {B:Nat} {w0:World} (h:FrG enc sz E w lo hi v xs) (hb:Below B w0 w) (hg:w.grownBy w' v.ownBlock) (h1:B≤lo) (h2:B≤w.heap.size):Below B w0 w':=below_own hb h.1.2 hg h1 h2
theorem grown_set (w:World) (g o:Nat) (u:Value):w.grownBy (w.setCell ⟨g,o,none⟩ u) (some g):=
 ⟨rfl,rfl,rfl,by simp[World.setCell],fun k _ hne=>Below.heap_setCell w _ u k (fun e=>hne (by rw[e]))⟩
theorem grown_below {w w':World} (h:Below w.heap.size w w') (r:Option Nat):w.grownBy w' r:=⟨h.os,h.tape,h.output,h.size,fun k hk _=>h.block k hk⟩
end
end Go.Proofs.YtbgedljbgkcpiaaGreatDoor
end
section
namespace Go.Proofs.YtbgedljbgkcpiaaGreatDoor
open Go.RowKit
/-- The changes with which a list is marked. -/
def mrkC (j:Nat):Chg:=⟨(j:Int),((j+1:Nat):Int),mrkB (j+2)⟩
def mrkCs (m n:Nat):List Chg:=(List.range n).map fun i=>mrkC (m+3 * i)
theorem length_mrkCs (k n:Nat):(mrkCs k n).length=n:=by simp[mrkCs]
theorem mrkCs_at {k n i:Nat} (h:i<n):(mrkCs k n)[i]?=some (mrkC (k+3 * i)):=by simp[mrkCs,h]
theorem OwC_two {E:TypeId} {w:World} {B n g cap:Nat} {cs:List Chg} {k:Nat} {old:Chg} (h:OwC E w B (.slice (some ⟨g,0,none⟩) n cap) cs) (hk:cs[k]?=some old) (a b:Int):
  ∀ w2,Below ((w.setCell ⟨g,k * 3,none⟩ (.int .i64 a)).setCell ⟨g,k * 3+1,none⟩ (.int .i64 b)).heap.size ((w.setCell ⟨g,k * 3,none⟩ (.int .i64 a)).setCell ⟨g,k * 3+1,none⟩ (.int .i64 b)) w2→
   w2.cell? ⟨g,k * 3+2,none⟩=some (.string old.t)∧w2.frozen? ⟨g,k * 3+2,none⟩=false∧
   ∀ t,OwC E (w2.setCell ⟨g,k * 3+2,none⟩ (.string t)) B (.slice (some ⟨g,0,none⟩) n cap) (cs.set k ⟨a,b,t⟩):=by
 intro w2 hb
 obtain rfl:=h.sizeN
 have hlt:=(List.getElem?_eq_some_iff.1 hk).1
 have h1:=World.ownsRow.stored h.2 (k * 3) (.int .i64 a)
 have h2:=World.ownsRow.stored h1.1 (k * 3+1) (.int .i64 b)
 have h3:=own_all h2.1 hb
 have hl:(cs.flatMap chgV).length=cs.length * 3:=flat_len chgV_len cs
 refine⟨?_,World.ownsRow.frozenAt h3 _,fun t=>⟨h.1,?_⟩⟩
 ·rw[World.ownsRow.cellAt h3 (k * 3+2) (by omega),List.getElem?_set_ne (by omega),List.getElem?_set_ne (by omega)]
  exact flat_at chgV_len hk rfl
 ·have h4:=World.ownsRow.stored h3 (k * 3+2) (.string t)
  rw[List.length_set,←flat_set3 ⟨a,b,t⟩ hlt]
  exact h4.1
theorem c_markCS (B:Nat) (v:Value) (xs:List Chg) (m:Nat) (w:World) (ho:OwC 71 w B v xs) (h0:0<m) (hm:m+3 * xs.length≤4611686018427387904) (hB:B≤w.heap.size):
  Calls Tryz.prog 11 #[v,.int .i64 m] w fun e w'=>e= .returned (.int .i64 ((m+3 * xs.length:Nat):Int))∧OwC 71 w' B v (mrkCs m xs.length)∧w.grownBy w' v.ownBlock:=by
 rcases Nat.eq_zero_or_pos xs.length with hz|hz
 ·have hx:xs= []:=List.eq_nil_of_length_eq_zero hz
  subst hx
  obtain⟨A,cap,rfl,hl,hc,_⟩:=ho.rd.open_
  have HO:=hide ho;clear ho hz
  simp only[List.length_nil] at *
  go_enter Tryz.func11,Tryz.ntmps11
  go_wp2
  refine wp_loop_rounds 1 ?_
  rw[rounds_succ]
  go_wp2
  go_ret
  exact⟨by simp,by simpa[mrkCs] using HO.out,World.grownBy.refl _ _⟩
 ·obtain⟨g,cap,rfl,hl,hg,hgw⟩:=ho.form hz
  have HO:=hide ho;clear ho
  go_enter Tryz.func11,Tryz.ntmps11
  go_wp2
  go_loopw [1,5] (fun t i wr=> ∃ (k j:Nat),k≤xs.length∧i= .int .i64 k∧t= .int .i64 (j:Int)∧j=m+3 * k∧OwC 71 wr B (.slice (some ⟨g,0,none⟩) xs.length cap) ((mrkCs m xs.length).take k++xs.drop k)∧w.grownBy wr (some g)) (fun _ i _=>xs.length - (intOf i).toNat)
  case atStart=>exact⟨0,m,Nat.zero_le _,rfl,rfl,by omega,by simpa using HO.out,World.grownBy.refl _ _⟩
  case round=>
   obtain⟨k,j,hk,rfl,rfl,hj,ho,hb⟩:=hrel
   have HO:=hide ho;have HB:=hide hb;have hsz:B≤wr.heap.size:=Nat.le_trans hB hb.size
   by_cases hlt:k<xs.length
   ·have HSM:=hide (set_mix (length_mrkCs m xs.length) (mrkCs_at (k:=m) hlt))
    have hmx:=(getElem?_mix (length_mrkCs m xs.length) hlt).trans (List.getElem?_eq_getElem hlt)
    have hml:k<((mrkCs m xs.length).take k++xs.drop k).length:=(List.getElem?_eq_some_iff.1 hmx).1
    generalize hL:(mrkCs m xs.length).take k++xs.drop k=L at *
    generalize xs[k]=x at *
    have c0:=ho.cellN hmx (j:=0) rfl;have c1:=ho.cellN hmx (j:=1) rfl;have c2:=ho.cellN hmx (j:=2) rfl
    have f0:=ho.freeN (k * 3);have f1:=ho.freeN (k * 3+1);have f2:=ho.freeN (k * 3+2)
    rw[Nat.add_zero] at c0
    have HT:=hide (OwC_two ho hmx (j:Int) ((j+1:Nat):Int))
    have HJ:=hide hj
    have hjb:j+2≤4611686018427387904:=by omega
    clear hmx hml hj hL ho hb
    go_wp2_with (go_at_call 43;refine(c_markText (j+2) _ (by omega) hjb).mono ?_;rintro e w2 ⟨rfl,hb2⟩;obtain⟨c3,f3,ht3⟩:=HT.out w2 hb2;have HB2:=hide (((HB.out.trans (grown_set _ g _ _)).trans (grown_set _ g _ _)).trans (grown_below hb2 _));have HT3:=hide ht3;clear hb2 ht3)
    go_roundw
    case rel=>exact⟨k+1,j+3,by omega,by go_num,by go_num,by rw[HJ.out];omega,by have:=HT3.out (mrkB (j+2));rw[show (⟨(j:Int),((j+1:Nat):Int),mrkB (j+2)⟩:Chg)=mrkC (m+3 * k) by rw[HJ.out];rfl,HSM.out] at this;exact this,HB2.out.trans (grown_set _ g _ _)⟩
    case measure=>simp[intOf];omega
   ·go_wp2
    go_ret
    have:k=xs.length:=by omega
    subst this
    exact⟨by rw[hj];rfl,by have:=HO.out;rw[List.take_of_length_le (by simp[length_mrkCs]),List.drop_length,List.append_nil] at this;exact this,HB.out⟩
end Go.Proofs.YtbgedljbgkcpiaaGreatDoor
end
section
namespace Go.Proofs.YtbgedljbgkcpiaaGreatDoor
open Go.RowKit
end Go.Proofs.YtbgedljbgkcpiaaGreatDoor
end
section
namespace Go.Proofs.YtbgedljbgkcpiaaGreatDoor
open Go.RowKit Go.ChangeShapes Go.WideShapes Go.Deep
end Go.Proofs.YtbgedljbgkcpiaaGreatDoor
end
section
namespace Go.Proofs.YtbgedljbgkcpiaaGreatDoor
open Go.RowKit
end Go.Proofs.YtbgedljbgkcpiaaGreatDoor
end
section
namespace Go.Proofs.YtbgedljbgkcpiaaGreatDoor
open Go.RowKit
theorem str_selfC (s:ByteArray):(s.toList == s.toList)=true:=by simp
theorem c_heldCS (v:Value) (n m:Nat) (w:World) (hr:RdC w v (mrkCs m n)) (h0:0<m) (hm:m+3 * n≤4611686018427387904):
  Calls Tryz.prog 12 #[v,.int .i64 m] w fun e w'=>e= .returned (.int .i64 ((m+3 * n:Nat):Int))∧Below w.heap.size w w':=by
 obtain⟨A,cap,rfl,hl,hc,hx⟩:=hr.openC
 have HX:=hide hx;clear hx hr
 rw[length_mrkCs] at hl ⊢
 go_enter Tryz.func12,Tryz.ntmps12
 go_wp2
 go_loopw [1,5] (fun t i wr=> ∃ k j:Nat,k≤n∧i= .int .i64 k∧t= .int .i64 (j:Int)∧j=m+3 * k∧Below w.heap.size w wr) (fun _ i _=>n - (intOf i).toNat)
 case atStart=>exact⟨0,m,Nat.zero_le _,rfl,rfl,rfl,Below.refl _ _⟩
 case round=>
  obtain⟨k,j,hk,rfl,rfl,hj,hb⟩:=hrel
  have HB:=hide hb;clear hb
  by_cases hlt:k<n
  ·obtain⟨b,off,rfl,hbw,e0,e1,e2⟩:=HX.out k _ (mrkCs_at hlt)
   rw[←hj] at e0 e1 e2
   have d0:wr.cell? ⟨b,off+k * 3,none⟩=some (.int .i64 (j:Int)):=(HB.out.cell hbw).trans e0
   have d1:wr.cell? ⟨b,off+k * 3+1,none⟩=some (.int .i64 ((j:Int)+1)):=(HB.out.cell hbw).trans e1
   have d2:wr.cell? ⟨b,off+k * 3+2,none⟩=some (.string (mrkB (j+2))):=(HB.out.cell hbw).trans e2
   have hbr:b<wr.heap.size:=Nat.lt_of_lt_of_le hbw HB.out.size
   have hjb:j+2≤4611686018427387904:=by omega
   have HJ:=hide hj
   clear e0 e1 e2 hj
   go_wp2
   go_region_held3 (fun w'=>w'.cell? ⟨b,off+k * 3+2,none⟩=some (.string (mrkB (j+2)))) (first|go_keep|(refine(hb3.cell ?_).trans ?_<;>first|assumption|(simp[*];done)|(simp;omega))) (first|(go_at_call 43;refine(c_markText (j+2) _ (by omega) hjb).mono ?_;rintro e w3 ⟨rfl,hb3⟩))
   have hb4:Below w.heap.size w w3:=yH HB.out HB.out.size (by first|exact hb3|exact undrew hb3|exact undrewN hb3)
   have HB4:=hide hb4;clear hb4 hb3
   have hse:=str_selfC (mrkB (j+2))
   go_wp2
   go_roundw
   case rel=>exact⟨k+1,j+3,by omega,by go_num,by go_num,by rw[HJ.out];omega,(by first|exact HB4.out|exact undrew HB4.out|exact Below.drew HB4.out|exact Below.drew (undrew HB4.out)|exact undrewN HB4.out|exact below_drewN HB4.out _)⟩
   case measure=>simp[intOf];omega
  ·obtain rfl:k=n:=by omega
   go_wp2
   go_ret
   exact⟨by rw[hj];rfl,HB.out⟩
theorem app1_chg {w:World} {ops:Array Oper} {rest:List Oper} {o:Oper} {a:Act} {Q:Exit→Act→World→Prop} {c:Chg} (hgd:o.guard=none) (s x:Operand)
  (ho:o.op= .call { callee:= .builtin .append,args:= #[s,x],argTypes:= #[32,32] }) {B:Nat} {v:Value} {xs:List Chg} (hs:a.eval s=v) (hown:OwC 71 w B v xs)
  (hx:a.eval x= .slice (some ⟨w.heap.size,0,none⟩) 1 1) (hl:xs.length+1≤4398046511104) (hB:B≤w.heap.size)
  (h: ∀ v' w',OwC 71 w' B v' (xs++ [c])→w.grownBy w' v.ownBlock→(∀ k,v'.ownBlock=some k→v.ownBlock=some k∨w.heap.size≤k)→wpList Tryz.prog ops Q rest (a.put o.dst v') w'):
  wpList Tryz.prog ops Q (o :: rest) a (w.alloc (.cells #[.int .i64 c.k,.int .i64 c.p,.string c.t] 71)):=
 app_one hgd s x _ ho B _ _ 3 32 Tryz.underlying32 info_chg rfl (by omega) v xs.length _ hs hown.2 hx rfl (by simp[Value.oneCell']) (by omega) (by omega) hB
  fun v' w' h1 h2 h3=>h v' w' ⟨chgV_len,by
                        have e:(xs++ [c]).flatMap chgV=xs.flatMap chgV++ [.int .i64 c.k,.int .i64 c.p,.string c.t]:=by simp[chgV]
                        rw[e,List.length_append];exact h1⟩ h2 h3
theorem new_chg (w:World):OwC 71 (w.alloc (.cells #[] 71)) w.heap.size (.slice (some ⟨w.heap.size,0,none⟩) 0 0) []:=⟨chgV_len,World.ownsRow_made w #[] 0 (Nat.le_refl _) (by decide) rfl⟩
end Go.Proofs.YtbgedljbgkcpiaaGreatDoor
end
section
namespace Go.Proofs.YtbgedljbgkcpiaaGreatDoor
section
open Go.RowKit
theorem diff_both {a b:List ByteArray} {i j:Nat} {x y:ByteArray} (hx:a[i]?=some x) (hy:b[j]?=some y) (h:x=y):
  diffF i (a.drop i) (b.drop j)=diffF (i+1) (a.drop (i+1)) (b.drop (j+1)):=by
 obtain⟨hi,rfl⟩:=List.getElem?_eq_some_iff.1 hx
 obtain⟨hj,rfl⟩:=List.getElem?_eq_some_iff.1 hy
 rw[List.drop_eq_getElem_cons hi,List.drop_eq_getElem_cons hj,diffF,if_pos h]
theorem diff_del {a b:List ByteArray} {i j:Nat} {x y:ByteArray} (hx:a[i]?=some x) (hy:b[j]?=some y) (h: ¬ x=y) (hl:lenM a b i (j+1)≤lenM a b (i+1) j):
  diffF i (a.drop i) (b.drop j)=⟨1,(i:Int),x⟩ :: diffF (i+1) (a.drop (i+1)) (b.drop j):=by
 obtain⟨hi,rfl⟩:=List.getElem?_eq_some_iff.1 hx
 obtain⟨hj,rfl⟩:=List.getElem?_eq_some_iff.1 hy
 unfold lenM at hl
 rw[List.drop_eq_getElem_cons hi,List.drop_eq_getElem_cons hj] at hl ⊢
 rw[diffF,if_neg h,if_pos (by omega)]
theorem diff_ins {a b:List ByteArray} {i j:Nat} {x y:ByteArray} (hx:a[i]?=some x) (hy:b[j]?=some y) (h: ¬ x=y) (hl:lenM a b (i+1) j<lenM a b i (j+1)):
  diffF i (a.drop i) (b.drop j)=⟨2,(i:Int),y⟩ :: diffF i (a.drop i) (b.drop (j+1)):=by
 obtain⟨hi,rfl⟩:=List.getElem?_eq_some_iff.1 hx
 obtain⟨hj,rfl⟩:=List.getElem?_eq_some_iff.1 hy
 unfold lenM at hl
 rw[List.drop_eq_getElem_cons hi,List.drop_eq_getElem_cons hj] at hl ⊢
 rw[diffF,if_neg h,if_neg (by omega)]
theorem diff_del0 {a b:List ByteArray} {i:Nat} {x:ByteArray} (hx:a[i]?=some x):
  diffF i (a.drop i) (b.drop b.length)=⟨1,(i:Int),x⟩ :: diffF (i+1) (a.drop (i+1)) (b.drop b.length):=by
 obtain⟨hi,rfl⟩:=List.getElem?_eq_some_iff.1 hx
 rw[List.drop_eq_getElem_cons hi,List.drop_length,diffF]
theorem diff_ins0 {a b:List ByteArray} {j:Nat} {y:ByteArray} (hy:b[j]?=some y):
  diffF a.length (a.drop a.length) (b.drop j)=⟨2,(a.length:Int),y⟩ :: diffF a.length (a.drop a.length) (b.drop (j+1)):=by
 obtain⟨hj,rfl⟩:=List.getElem?_eq_some_iff.1 hy
 rw[List.drop_eq_getElem_cons hj,List.drop_length,diffF]
theorem diff_end {a b:List ByteArray} :diffF a.length (a.drop a.length) (b.drop b.length)= []:=by
 rw[List.drop_length,List.drop_length,diffF]
end
open Go.RowKit
theorem c_diff (va vb:Value) (a b:List ByteArray) (w:World) (hra:RdS w va a) (hrb:RdS w vb b) (ha:a.length≤200) (hb:b.length≤200):
  Calls Tryz.prog 30 #[va,vb] w fun e w'=> ∃ v',e= .returned v'∧OwC 71 w' w.heap.size v' (diffF 0 a b)∧Below w.heap.size w w':=by
 have HRA:=hide hra;have HRB:=hide hrb
 obtain⟨A1,cap1,rfl,hl1,hc1,hx1⟩:=hra.openS
 obtain⟨A2,cap2,rfl,hl2,hc2,hx2⟩:=hrb.openS
 have HX1:=hide hx1;have HX2:=hide hx2;clear hx1 hx2 hra hrb
 go_enter Tryz.func30,Tryz.ntmps30
 go_wp2_with (go_at_call 79;refine(c_common _ _ a b _ HRA.out HRB.out ha hb).mono ?_;rintro e w1 ⟨g,R,rfl,hm1,hb1⟩;have hs1:=hb1.size;have HM:=hide hm1;have HB1:=hide hb1;have hgl:=hm1.1.lt;clear hm1 hb1)
 go_loopw [6,7,8] (fun o iv jv wr=> ∃ (i j:Nat) (L:List Chg),i≤a.length∧j≤b.length∧iv= .int .i64 (i:Int)∧jv= .int .i64 (j:Int)∧L.length≤i+j∧L++diffF i (a.drop i) (b.drop j)=diffF 0 a b∧OwC 71 wr w1.heap.size o L∧Below w.heap.size w wr∧Below w1.heap.size w1 wr) (fun _ iv jv _=>a.length - (intOf iv).toNat+(b.length - (intOf jv).toNat))
 case atStart=>exact⟨0,0,[],Nat.zero_le _,Nat.zero_le _,rfl,rfl,by simp,by simp,new_chg w1,HB1.out.alloc hs1 _,(Below.refl _ _).alloc (Nat.le_refl _) _⟩
 case round=>
  obtain⟨i,j,L,hi,hj,rfl,rfl,hL,heq,ho,hbw,hbb⟩:=hrel
  have HEQ:=hide heq;have HO:=hide ho;have HB:=hide hbw;have HBB:=hide hbb;have hsz:=hbb.size;have hgw:g<wr.heap.size:=Nat.lt_of_lt_of_le hgl hbb.size
  clear heq ho hbw hbb
  by_cases hia:i<a.length
  ·have hia3:(i:Int)<(a.length:Int):=by omega
   have hxa:a[i]?=some a[i]:=List.getElem?_eq_getElem hia
   obtain⟨ab,ao,rfl,hab,e1⟩:=HX1.out i _ hxa
   have d1:=(HB.out.cell hab).trans e1
   have hab2:ab<wr.heap.size:=Nat.lt_of_lt_of_le hab HB.out.size
   have HXA:=hide hxa
   clear e1 hxa
   generalize a[i]=x at *
   by_cases hjb:j<b.length
   ·have hjb3:(j:Int)<(b.length:Int):=by omega
    have hjn: ¬ (b.length:Int)≤(j:Int):=by omega
    have hjne:((j:Int) == (b.length:Int))=false:=by simp;omega
    have hyb:b[j]?=some b[j]:=List.getElem?_eq_getElem hjb
    obtain⟨bb,bo,rfl,hbb,e2⟩:=HX2.out j _ hyb
    have d2:=(HB.out.cell hbb).trans e2
    have hbb2:bb<wr.heap.size:=Nat.lt_of_lt_of_le hbb HB.out.size
    have HYB:=hide hyb
    clear e2 hyb
    generalize b[j]=y at *
    have hw1:IntKind.i64.wrap ((i:Int)+1)=(i:Int)+1:=IntWalk.i64_in _ (by omega)
    have hw2:IntKind.i64.wrap ((j:Int)+1)=(j:Int)+1:=IntWalk.i64_in _ (by omega)
    by_cases hxy:x=y
    ·have hxb:(x.toList == y.toList)=true:=by rw[str_eq];exact decide_eq_true hxy
     have HST:=hide (diff_both HXA.out HYB.out hxy)
     clear hxy
     go_wp2
     go_quiet (fail)
     go_wp2
     go_roundw
     case rel=>exact⟨i+1,j+1,L,by omega,by omega,by go_num,by go_num,by omega,by rw[←HST.out];exact HEQ.out,HO.out.all (by repeat(first|with_reducible exact Below.refl _ _|with_reducible assumption|with_reducible refine Below.setCell ?_ (by first|omega|(simp;done)|(simp;omega)) _|with_reducible refine Below.alloc ?_ (by first|omega|(simp;done)|(simp;omega)) _|with_reducible refine Below.drew ?_|with_reducible refine below_drewN ?_ _|exact Below.refl _ _|assumption|refine Below.drew ?_|refine below_drewN ?_ _|refine Below.alloc ?_ (by first|omega|(simp;done)|(simp;omega)) _|refine Below.setCell ?_ (by first|omega|(simp;done)|(simp;omega)) _)),yH HB.out HB.out.size (by repeat(first|with_reducible exact Below.refl _ _|with_reducible assumption|with_reducible refine Below.setCell ?_ (by first|omega|(simp;done)|(simp;omega)) _|with_reducible refine Below.alloc ?_ (by first|omega|(simp;done)|(simp;omega)) _|with_reducible refine Below.drew ?_|with_reducible refine below_drewN ?_ _|exact Below.refl _ _|assumption|refine Below.drew ?_|refine below_drewN ?_ _|refine Below.alloc ?_ (by first|omega|(simp;done)|(simp;omega)) _|refine Below.setCell ?_ (by first|omega|(simp;done)|(simp;omega)) _)),yH HBB.out HBB.out.size (by repeat(first|with_reducible exact Below.refl _ _|with_reducible assumption|with_reducible refine Below.setCell ?_ (by first|omega|(simp;done)|(simp;omega)) _|with_reducible refine Below.alloc ?_ (by first|omega|(simp;done)|(simp;omega)) _|with_reducible refine Below.drew ?_|with_reducible refine below_drewN ?_ _|exact Below.refl _ _|assumption|refine Below.drew ?_|refine below_drewN ?_ _|refine Below.alloc ?_ (by first|omega|(simp;done)|(simp;omega)) _|refine Below.setCell ?_ (by first|omega|(simp;done)|(simp;omega)) _))⟩
     case measure=>simp[intOf];omega
    ·have hxb:(x.toList == y.toList)=false:=by rw[str_eq];exact decide_eq_false hxy
     have hia4:(i:Int)<(a.length:Int)+1:=by omega
     have hjb4:(j:Int)<(b.length:Int)+1:=by omega
     have hz1:(0:Int)≤(i:Int)+1:=by omega
     have hz2:(0:Int)≤(j:Int)+1:=by omega
     have hia5:(i:Int)+1<(a.length:Int)+1:=by omega
     have hjb5:(j:Int)+1<(b.length:Int)+1:=by omega
     have q1:=(HBB.out.cell hgl).trans (HM.out.out (i:=i) (by omega))
     have q2:=(HBB.out.cell hgl).trans (HM.out.out (i:=i+1) (by omega))
     have q4:=(HBB.out.cell (HM.out.lt (i:=i+1) (by omega))).trans (HM.out.at_ (i:=i+1) (j:=j) (by omega) (by omega))
     have q5:=(HBB.out.cell (HM.out.lt (i:=i) (by omega))).trans (HM.out.at_ (i:=i) (j:=j+1) (by omega) (by omega))
     by_cases hle:lenM a b i (j+1)≤lenM a b (i+1) j
     ·have HST:=hide (diff_del HXA.out HYB.out hxy hle)
      generalize lenM a b (i+1) j=v2 at *
      generalize lenM a b i (j+1)=v3 at *
      clear hxy
      go_wp2
      go_quiet (fail)
      go_wp2
      go_quiet (fail)
      go_wp2_with (at_builtin;refine app1_chg (c:=⟨1,(i:Int),x⟩) rfl _ _ rfl rfl (HO.out.all (by repeat(first|with_reducible exact Below.refl _ _|with_reducible assumption|with_reducible refine Below.setCell ?_ (by first|omega|(simp;done)|(simp;omega)) _|with_reducible refine Below.alloc ?_ (by first|omega|(simp;done)|(simp;omega)) _|with_reducible refine Below.drew ?_|with_reducible refine below_drewN ?_ _|exact Below.refl _ _|assumption|refine Below.drew ?_|refine below_drewN ?_ _|refine Below.alloc ?_ (by first|omega|(simp;done)|(simp;omega)) _|refine Below.setCell ?_ (by first|omega|(simp;done)|(simp;omega)) _))) (by first|rfl|(show Value.slice (some ⟨wr.heap.size,0,none⟩) 1 1=_;simp)) (by omega) (by first|(simp[World.setCell];omega)|(simp;omega)) ?_;intro v1 w3 ho3 hg3 hv3;have hb3:=below_own (yH HB.out HB.out.size (by repeat(first|with_reducible exact Below.refl _ _|with_reducible assumption|with_reducible refine Below.setCell ?_ (by first|omega|(simp;done)|(simp;omega)) _|with_reducible refine Below.alloc ?_ (by first|omega|(simp;done)|(simp;omega)) _|with_reducible refine Below.drew ?_|with_reducible refine below_drewN ?_ _|exact Below.refl _ _|assumption|refine Below.drew ?_|refine below_drewN ?_ _|refine Below.alloc ?_ (by first|omega|(simp;done)|(simp;omega)) _|refine Below.setCell ?_ (by first|omega|(simp;done)|(simp;omega)) _))) (HO.out.all (by repeat(first|with_reducible exact Below.refl _ _|with_reducible assumption|with_reducible refine Below.setCell ?_ (by first|omega|(simp;done)|(simp;omega)) _|with_reducible refine Below.alloc ?_ (by first|omega|(simp;done)|(simp;omega)) _|with_reducible refine Below.drew ?_|with_reducible refine below_drewN ?_ _|exact Below.refl _ _|assumption|refine Below.drew ?_|refine below_drewN ?_ _|refine Below.alloc ?_ (by first|omega|(simp;done)|(simp;omega)) _|refine Below.setCell ?_ (by first|omega|(simp;done)|(simp;omega)) _))).2 hg3 hs1 (by have:=HB.out.size;first|(simp[World.setCell];omega)|(simp;omega));have hb4:=below_own (yH HBB.out HBB.out.size (by repeat(first|with_reducible exact Below.refl _ _|with_reducible assumption|with_reducible refine Below.setCell ?_ (by first|omega|(simp;done)|(simp;omega)) _|with_reducible refine Below.alloc ?_ (by first|omega|(simp;done)|(simp;omega)) _|with_reducible refine Below.drew ?_|with_reducible refine below_drewN ?_ _|exact Below.refl _ _|assumption|refine Below.drew ?_|refine below_drewN ?_ _|refine Below.alloc ?_ (by first|omega|(simp;done)|(simp;omega)) _|refine Below.setCell ?_ (by first|omega|(simp;done)|(simp;omega)) _))) (HO.out.all (by repeat(first|with_reducible exact Below.refl _ _|with_reducible assumption|with_reducible refine Below.setCell ?_ (by first|omega|(simp;done)|(simp;omega)) _|with_reducible refine Below.alloc ?_ (by first|omega|(simp;done)|(simp;omega)) _|with_reducible refine Below.drew ?_|with_reducible refine below_drewN ?_ _|exact Below.refl _ _|assumption|refine Below.drew ?_|refine below_drewN ?_ _|refine Below.alloc ?_ (by first|omega|(simp;done)|(simp;omega)) _|refine Below.setCell ?_ (by first|omega|(simp;done)|(simp;omega)) _))).2 hg3 (Nat.le_refl _) (by first|(simp[World.setCell];omega)|(simp;omega));have HO3:=hide ho3;have HB3:=hide hb3;have HB4:=hide hb4;clear ho3 hb3 hb4 hg3 hv3)
      go_roundw
      case rel=>exact⟨i+1,j,L++ [⟨1,(i:Int),x⟩],by omega,by omega,by go_num,by go_num,by simp;omega,by rw[←HEQ.out,HST.out];simp,HO3.out,HB3.out,HB4.out⟩
      case measure=>simp[intOf];omega
     ·have HST:=hide (diff_ins HXA.out HYB.out hxy (by omega))
      generalize lenM a b (i+1) j=v2 at *
      generalize lenM a b i (j+1)=v3 at *
      clear hxy
      go_wp2
      go_quiet (fail)
      go_wp2
      go_quiet (fail)
      go_wp2_with (at_builtin;refine app1_chg (c:=⟨2,(i:Int),y⟩) rfl _ _ rfl rfl (HO.out.all (by repeat(first|with_reducible exact Below.refl _ _|with_reducible assumption|with_reducible refine Below.setCell ?_ (by first|omega|(simp;done)|(simp;omega)) _|with_reducible refine Below.alloc ?_ (by first|omega|(simp;done)|(simp;omega)) _|with_reducible refine Below.drew ?_|with_reducible refine below_drewN ?_ _|exact Below.refl _ _|assumption|refine Below.drew ?_|refine below_drewN ?_ _|refine Below.alloc ?_ (by first|omega|(simp;done)|(simp;omega)) _|refine Below.setCell ?_ (by first|omega|(simp;done)|(simp;omega)) _))) (by first|rfl|(show Value.slice (some ⟨wr.heap.size,0,none⟩) 1 1=_;simp)) (by omega) (by first|(simp[World.setCell];omega)|(simp;omega)) ?_;intro v1 w3 ho3 hg3 hv3;have hb3:=below_own (yH HB.out HB.out.size (by repeat(first|with_reducible exact Below.refl _ _|with_reducible assumption|with_reducible refine Below.setCell ?_ (by first|omega|(simp;done)|(simp;omega)) _|with_reducible refine Below.alloc ?_ (by first|omega|(simp;done)|(simp;omega)) _|with_reducible refine Below.drew ?_|with_reducible refine below_drewN ?_ _|exact Below.refl _ _|assumption|refine Below.drew ?_|refine below_drewN ?_ _|refine Below.alloc ?_ (by first|omega|(simp;done)|(simp;omega)) _|refine Below.setCell ?_ (by first|omega|(simp;done)|(simp;omega)) _))) (HO.out.all (by repeat(first|with_reducible exact Below.refl _ _|with_reducible assumption|with_reducible refine Below.setCell ?_ (by first|omega|(simp;done)|(simp;omega)) _|with_reducible refine Below.alloc ?_ (by first|omega|(simp;done)|(simp;omega)) _|with_reducible refine Below.drew ?_|with_reducible refine below_drewN ?_ _|exact Below.refl _ _|assumption|refine Below.drew ?_|refine below_drewN ?_ _|refine Below.alloc ?_ (by first|omega|(simp;done)|(simp;omega)) _|refine Below.setCell ?_ (by first|omega|(simp;done)|(simp;omega)) _))).2 hg3 hs1 (by have:=HB.out.size;first|(simp[World.setCell];omega)|(simp;omega));have hb4:=below_own (yH HBB.out HBB.out.size (by repeat(first|with_reducible exact Below.refl _ _|with_reducible assumption|with_reducible refine Below.setCell ?_ (by first|omega|(simp;done)|(simp;omega)) _|with_reducible refine Below.alloc ?_ (by first|omega|(simp;done)|(simp;omega)) _|with_reducible refine Below.drew ?_|with_reducible refine below_drewN ?_ _|exact Below.refl _ _|assumption|refine Below.drew ?_|refine below_drewN ?_ _|refine Below.alloc ?_ (by first|omega|(simp;done)|(simp;omega)) _|refine Below.setCell ?_ (by first|omega|(simp;done)|(simp;omega)) _))) (HO.out.all (by repeat(first|with_reducible exact Below.refl _ _|with_reducible assumption|with_reducible refine Below.setCell ?_ (by first|omega|(simp;done)|(simp;omega)) _|with_reducible refine Below.alloc ?_ (by first|omega|(simp;done)|(simp;omega)) _|with_reducible refine Below.drew ?_|with_reducible refine below_drewN ?_ _|exact Below.refl _ _|assumption|refine Below.drew ?_|refine below_drewN ?_ _|refine Below.alloc ?_ (by first|omega|(simp;done)|(simp;omega)) _|refine Below.setCell ?_ (by first|omega|(simp;done)|(simp;omega)) _))).2 hg3 (Nat.le_refl _) (by first|(simp[World.setCell];omega)|(simp;omega));have HO3:=hide ho3;have HB3:=hide hb3;have HB4:=hide hb4;clear ho3 hb3 hb4 hg3 hv3)
      go_roundw
      case rel=>exact⟨i,j+1,L++ [⟨2,(i:Int),y⟩],by omega,by omega,by go_num,by go_num,by simp;omega,by rw[←HEQ.out,HST.out];simp,HO3.out,HB3.out,HB4.out⟩
      case measure=>simp[intOf];omega
   ·obtain rfl:j=b.length:=by omega
    have HST:=hide (diff_del0 (b:=b) HXA.out)
    go_wp2
    go_quiet (fail)
    go_wp2
    go_quiet (fail)
    go_wp2_with (at_builtin;refine app1_chg (c:=⟨1,(i:Int),x⟩) rfl _ _ rfl rfl (HO.out.all (by repeat(first|with_reducible exact Below.refl _ _|with_reducible assumption|with_reducible refine Below.setCell ?_ (by first|omega|(simp;done)|(simp;omega)) _|with_reducible refine Below.alloc ?_ (by first|omega|(simp;done)|(simp;omega)) _|with_reducible refine Below.drew ?_|with_reducible refine below_drewN ?_ _|exact Below.refl _ _|assumption|refine Below.drew ?_|refine below_drewN ?_ _|refine Below.alloc ?_ (by first|omega|(simp;done)|(simp;omega)) _|refine Below.setCell ?_ (by first|omega|(simp;done)|(simp;omega)) _))) (by first|rfl|(show Value.slice (some ⟨wr.heap.size,0,none⟩) 1 1=_;simp)) (by omega) (by first|(simp[World.setCell];omega)|(simp;omega)) ?_;intro v1 w3 ho3 hg3 hv3;have hb3:=below_own (yH HB.out HB.out.size (by repeat(first|with_reducible exact Below.refl _ _|with_reducible assumption|with_reducible refine Below.setCell ?_ (by first|omega|(simp;done)|(simp;omega)) _|with_reducible refine Below.alloc ?_ (by first|omega|(simp;done)|(simp;omega)) _|with_reducible refine Below.drew ?_|with_reducible refine below_drewN ?_ _|exact Below.refl _ _|assumption|refine Below.drew ?_|refine below_drewN ?_ _|refine Below.alloc ?_ (by first|omega|(simp;done)|(simp;omega)) _|refine Below.setCell ?_ (by first|omega|(simp;done)|(simp;omega)) _))) (HO.out.all (by repeat(first|with_reducible exact Below.refl _ _|with_reducible assumption|with_reducible refine Below.setCell ?_ (by first|omega|(simp;done)|(simp;omega)) _|with_reducible refine Below.alloc ?_ (by first|omega|(simp;done)|(simp;omega)) _|with_reducible refine Below.drew ?_|with_reducible refine below_drewN ?_ _|exact Below.refl _ _|assumption|refine Below.drew ?_|refine below_drewN ?_ _|refine Below.alloc ?_ (by first|omega|(simp;done)|(simp;omega)) _|refine Below.setCell ?_ (by first|omega|(simp;done)|(simp;omega)) _))).2 hg3 hs1 (by have:=HB.out.size;first|(simp[World.setCell];omega)|(simp;omega));have hb4:=below_own (yH HBB.out HBB.out.size (by repeat(first|with_reducible exact Below.refl _ _|with_reducible assumption|with_reducible refine Below.setCell ?_ (by first|omega|(simp;done)|(simp;omega)) _|with_reducible refine Below.alloc ?_ (by first|omega|(simp;done)|(simp;omega)) _|with_reducible refine Below.drew ?_|with_reducible refine below_drewN ?_ _|exact Below.refl _ _|assumption|refine Below.drew ?_|refine below_drewN ?_ _|refine Below.alloc ?_ (by first|omega|(simp;done)|(simp;omega)) _|refine Below.setCell ?_ (by first|omega|(simp;done)|(simp;omega)) _))) (HO.out.all (by repeat(first|with_reducible exact Below.refl _ _|with_reducible assumption|with_reducible refine Below.setCell ?_ (by first|omega|(simp;done)|(simp;omega)) _|with_reducible refine Below.alloc ?_ (by first|omega|(simp;done)|(simp;omega)) _|with_reducible refine Below.drew ?_|with_reducible refine below_drewN ?_ _|exact Below.refl _ _|assumption|refine Below.drew ?_|refine below_drewN ?_ _|refine Below.alloc ?_ (by first|omega|(simp;done)|(simp;omega)) _|refine Below.setCell ?_ (by first|omega|(simp;done)|(simp;omega)) _))).2 hg3 (Nat.le_refl _) (by first|(simp[World.setCell];omega)|(simp;omega));have HO3:=hide ho3;have HB3:=hide hb3;have HB4:=hide hb4;clear ho3 hb3 hb4 hg3 hv3)
    go_roundw
    case rel=>exact⟨i+1,b.length,L++ [⟨1,(i:Int),x⟩],by omega,by omega,by go_num,by go_num,by simp;omega,by rw[←HEQ.out,HST.out];simp,HO3.out,HB3.out,HB4.out⟩
    case measure=>simp[intOf];omega
  ·obtain rfl:i=a.length:=by omega
   by_cases hjb:j<b.length
   ·have hjb3:(j:Int)<(b.length:Int):=by omega
    have hyb:b[j]?=some b[j]:=List.getElem?_eq_getElem hjb
    obtain⟨bb,bo,rfl,hbb,e2⟩:=HX2.out j _ hyb
    have d2:=(HB.out.cell hbb).trans e2
    have hbb2:bb<wr.heap.size:=Nat.lt_of_lt_of_le hbb HB.out.size
    have HST:=hide (diff_ins0 (a:=a) hyb)
    clear e2 hyb
    generalize b[j]=y at *
    go_wp2
    go_quiet (fail)
    go_wp2
    go_quiet (fail)
    go_wp2_with (at_builtin;refine app1_chg (c:=⟨2,(a.length:Int),y⟩) rfl _ _ rfl rfl (HO.out.all (by repeat(first|with_reducible exact Below.refl _ _|with_reducible assumption|with_reducible refine Below.setCell ?_ (by first|omega|(simp;done)|(simp;omega)) _|with_reducible refine Below.alloc ?_ (by first|omega|(simp;done)|(simp;omega)) _|with_reducible refine Below.drew ?_|with_reducible refine below_drewN ?_ _|exact Below.refl _ _|assumption|refine Below.drew ?_|refine below_drewN ?_ _|refine Below.alloc ?_ (by first|omega|(simp;done)|(simp;omega)) _|refine Below.setCell ?_ (by first|omega|(simp;done)|(simp;omega)) _))) (by first|rfl|(show Value.slice (some ⟨wr.heap.size,0,none⟩) 1 1=_;simp)) (by omega) (by first|(simp[World.setCell];omega)|(simp;omega)) ?_;intro v1 w3 ho3 hg3 hv3;have hb3:=below_own (yH HB.out HB.out.size (by repeat(first|with_reducible exact Below.refl _ _|with_reducible assumption|with_reducible refine Below.setCell ?_ (by first|omega|(simp;done)|(simp;omega)) _|with_reducible refine Below.alloc ?_ (by first|omega|(simp;done)|(simp;omega)) _|with_reducible refine Below.drew ?_|with_reducible refine below_drewN ?_ _|exact Below.refl _ _|assumption|refine Below.drew ?_|refine below_drewN ?_ _|refine Below.alloc ?_ (by first|omega|(simp;done)|(simp;omega)) _|refine Below.setCell ?_ (by first|omega|(simp;done)|(simp;omega)) _))) (HO.out.all (by repeat(first|with_reducible exact Below.refl _ _|with_reducible assumption|with_reducible refine Below.setCell ?_ (by first|omega|(simp;done)|(simp;omega)) _|with_reducible refine Below.alloc ?_ (by first|omega|(simp;done)|(simp;omega)) _|with_reducible refine Below.drew ?_|with_reducible refine below_drewN ?_ _|exact Below.refl _ _|assumption|refine Below.drew ?_|refine below_drewN ?_ _|refine Below.alloc ?_ (by first|omega|(simp;done)|(simp;omega)) _|refine Below.setCell ?_ (by first|omega|(simp;done)|(simp;omega)) _))).2 hg3 hs1 (by have:=HB.out.size;first|(simp[World.setCell];omega)|(simp;omega));have hb4:=below_own (yH HBB.out HBB.out.size (by repeat(first|with_reducible exact Below.refl _ _|with_reducible assumption|with_reducible refine Below.setCell ?_ (by first|omega|(simp;done)|(simp;omega)) _|with_reducible refine Below.alloc ?_ (by first|omega|(simp;done)|(simp;omega)) _|with_reducible refine Below.drew ?_|with_reducible refine below_drewN ?_ _|exact Below.refl _ _|assumption|refine Below.drew ?_|refine below_drewN ?_ _|refine Below.alloc ?_ (by first|omega|(simp;done)|(simp;omega)) _|refine Below.setCell ?_ (by first|omega|(simp;done)|(simp;omega)) _))) (HO.out.all (by repeat(first|with_reducible exact Below.refl _ _|with_reducible assumption|with_reducible refine Below.setCell ?_ (by first|omega|(simp;done)|(simp;omega)) _|with_reducible refine Below.alloc ?_ (by first|omega|(simp;done)|(simp;omega)) _|with_reducible refine Below.drew ?_|with_reducible refine below_drewN ?_ _|exact Below.refl _ _|assumption|refine Below.drew ?_|refine below_drewN ?_ _|refine Below.alloc ?_ (by first|omega|(simp;done)|(simp;omega)) _|refine Below.setCell ?_ (by first|omega|(simp;done)|(simp;omega)) _))).2 hg3 (Nat.le_refl _) (by first|(simp[World.setCell];omega)|(simp;omega));have HO3:=hide ho3;have HB3:=hide hb3;have HB4:=hide hb4;clear ho3 hb3 hb4 hg3 hv3)
    go_roundw
    case rel=>exact⟨a.length,j+1,L++ [⟨2,(a.length:Int),y⟩],by omega,by omega,by go_num,by go_num,by simp;omega,by rw[←HEQ.out,HST.out];simp,HO3.out,HB3.out,HB4.out⟩
    case measure=>simp[intOf];omega
   ·obtain rfl:j=b.length:=by omega
    have hall:L=diffF 0 a b:=by have:=HEQ.out;rw[diff_end] at this;simpa using this
    go_wp2
    go_ret
    exact⟨_,rfl,by rw[←hall];exact HO.out.more hs1,HB.out⟩
end Go.Proofs.YtbgedljbgkcpiaaGreatDoor
end
