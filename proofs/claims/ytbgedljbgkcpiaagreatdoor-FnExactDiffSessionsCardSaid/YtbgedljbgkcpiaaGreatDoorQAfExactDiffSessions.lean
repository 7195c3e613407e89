/- Contracts: the lines of a text by the reference; marks in slices of strings. Contracts: marks held, equal slices of strings. LinesOf: the law. A law of the model: the bytes of a string appended to a slice of bytes of the call's own. No program is named here. Contracts: lists of samples, copies, differences. Contracts: equal lists, marks, copies, differences. Contracts: wrapped numbers, copies, differences. Contracts: differences of an order; PredictSignal of both sides. Contracts: lengths of Rice codes, the best parameter, the best order. Contracts: bits as bytes. Contracts: lines joined to a text, by both sides. Plain laws on merging: if one side alone changes, its lines result; merging does not depend on the order. No program is named here. Contract: changes applied, by the program. Contract: changes applied, by the program. Contract: changes applied, by the reference. Contract: changes applied, by the reference. Contract: the changes from a text to another one, by both sides. Trees of data in memory: what a slice of structs of slices reads as, and whose blocks it takes. No program is named here. -/
import Derived.Test.YtbgedljbgkcpiaaGreatDoorQAeExactDiffSessions
import Derived.Test.YtbgedljbgkcpiaaGreatDoorQAcExactDiffSessions
import Derived.Test.YtbgedljbgkcpiaaGreatDoorQAdExactDiffSessions
import Derived.Test.YtbgedljbgkcpiaaGreatDoorQAaExactDiffSessions
import Derived.Test.YtbgedljbgkcpiaaGreatDoorQAbExactDiffSessions
import Derived.Deep.RegionWith
set_option linter.unusedVariables false
set_option linter.unusedSimpArgs false
set_option maxHeartbeats 1000000
set_option maxRecDepth 20000
section
namespace Go.Proofs.YtbgedljbgkcpiaaGreatDoor
open Go.RowKit
theorem c_split10 (s:ByteArray) (w:World) (hs:s.size≤1048576):Calls Tryz.prog 95 #[.string s,.int .u8 10] w fun e w'=> ∃ v,e= .returned v∧OwS 9 w' w.heap.size v (partsB 10 s)∧Below w.heap.size w w':=c_l01Split 10 s w hs
theorem parts_last (s:ByteArray):(partsB 10 s)[s.data.toList.count 10]?=some (mkS (lastF s)):=by
 unfold partsB lastF
 rw[List.getElem?_map]
 have h:=length_partsL 10 s.data.toList
 rw[List.getLast_eq_getElem,List.getElem?_eq_getElem (by omega)]
 simp only[h,Nat.add_sub_cancel,Option.map_some]
theorem empty_mkS (l:List UInt8):(mkS l).toList.isEmpty=decide (l= []):=by
 rw[toList_eq,data_mkS];cases l<;>rfl
theorem c_l32Lines (s:ByteArray) (w:World) (hs:s.size≤1048576):Calls Tryz.prog 53 #[.string s] w fun e w'=> ∃ v,e= .returned (.tuple #[v,.bool (decide (lastF s= []))])∧OwS 9 w' w.heap.size v (linesF s)∧Below w.heap.size w w':=by
 have hl:=length_partsB 10 s
 have hlt:=linesF_take s
 have hn:=count_le s
 have hla:=parts_last s
 have hem:=empty_mkS (lastF s)
 generalize hN:s.data.toList.count 10=N at *
 generalize hP:partsB 10 s=ps at *
 generalize hL:linesF s=ls at *
 generalize hX:mkS (lastF s)=x at *
 generalize hB:decide (lastF s= [])=B at *
 have HP:=hide hP;have HL:=hide hL;have HLT:=hide hlt;have HPL:=hide hl;have HLA:=hide hla;clear hP hL hlt hN hX hB hla
 go_enter Tryz.func53,Tryz.ntmps53
 go_wp2_with fail
 refine(c_split10 s _ hs).mono ?_;rintro e w1 ⟨v,rfl,ho,hb⟩
 rw[HP.out] at ho
 obtain⟨g,cap,rfl,hcap,hg,hgs⟩:=ho.form (by omega)
 have hcl:=ho.cellN HLA.out (j:=0) (u:= .string x) rfl
 rw[Nat.mul_one,Nat.add_zero] at hcl
 have hcp:=(cap_of ho.rd rfl).2.2
 rw[hl] at ho hcap
 have hwr:IntKind.i64.wrap (N:Int)=(N:Int):=IntWalk.i64_in _ (by omega)
 have HO:=hide ho;have HB:=hide hb;clear ho hb
 have hx0:ps.length=N+1:=hl
 rw[hx0]
 clear hl hx0
 go_wp2
 go_quiet (fail)
 go_wp2
 go_ret2
 exact⟨_,rfl,by rw[HLT.out];exact HO.out.cut (by rw[HPL.out];omega),below_drewN HB.out _⟩
theorem c_sLines (s:ByteArray) (w:World) (hs:s.size≤1048576):Calls Tryz.prog 19 #[.string s] w fun e w'=> ∃ v,e= .returned (.tuple #[v,.bool (textB s)])∧OwS 9 w' w.heap.size v (if textB s then linesF s else [])∧Below w.heap.size w w':=by
 have ht:textB s=(decide (lastF s= []) && decide ((linesF s).length≤200)):=rfl
 generalize hB:decide (lastF s= [])=B at *
 generalize hL:linesF s=ls at *
 generalize hT:textB s=T at *
 have HB':=hide hB;have HL:=hide hL;have HT:=hide ht;clear hB hL ht hT
 have hv:ls.length≤1048576:=by rw[←HL.out,length_linesF];have:=count_le s;omega
 cases B
 ·have hT:T=false:=by rw[HT.out];rfl
  subst hT
  go_enter Tryz.func19,Tryz.ntmps19
  go_wp2_with fail
  refine(c_l32Lines s _ hs).mono ?_;rintro e w1 ⟨v,rfl,ho,hb⟩;rw[HB'.out]
  have HB:=hide hb;clear ho hb
  go_wp2
  go_ret2
  exact⟨_,rfl,OwG.nil_ strV_len _ _ _,HB.out⟩
 ·by_cases h2:200<ls.length
  ·have hT:T=false:=by rw[HT.out];simp;omega
   subst hT
   go_enter Tryz.func19,Tryz.ntmps19
   go_wp2_with fail
   refine(c_l32Lines s _ hs).mono ?_;rintro e w1 ⟨v,rfl,ho,hb⟩;rw[HB'.out]
   rw[HL.out] at ho
   obtain⟨A,cap,rfl,hc1,hc2,_⟩:=ho.rd.open_
   have HB:=hide hb;clear ho hb
   go_wp2
   go_ret2
   exact⟨_,rfl,OwG.nil_ strV_len _ _ _,HB.out⟩
  ·have hT:T=true:=by rw[HT.out];simp;omega
   subst hT
   go_enter Tryz.func19,Tryz.ntmps19
   go_wp2_with fail
   refine(c_l32Lines s _ hs).mono ?_;rintro e w1 ⟨v,rfl,ho,hb⟩;rw[HB'.out]
   rw[HL.out] at ho
   have HO:=hide ho
   obtain⟨A,cap,rfl,hc1,hc2,_⟩:=ho.rd.open_
   have HB:=hide hb;clear ho hb
   go_wp2
   go_ret2
   exact⟨_,rfl,HO.out,HB.out⟩
end Go.Proofs.YtbgedljbgkcpiaaGreatDoor
end
section
namespace Go.Proofs.YtbgedljbgkcpiaaGreatDoor
open Go.RowKit
end Go.Proofs.YtbgedljbgkcpiaaGreatDoor
end
section
namespace Go.Proofs.YtbgedljbgkcpiaaGreatDoor
open Go.RowKit
theorem cs_L (s:ByteArray) (T:Bool) (ls:List ByteArray) (w:World) (hs:s.size≤1048576) (hp:textB s=T∧(if textB s then linesF s else [])=ls):Calls Tryz.prog 19 #[.string s] w fun e w'=> ∃ v,e= .returned (.tuple #[v,.bool T])∧OwS 9 w' w.heap.size v ls∧Below w.heap.size w w':=by
 obtain⟨h1,h2⟩:=hp
 have:=c_sLines s w hs
 rw[h1] at this h2
 rw[h2] at this
 exact this
end Go.Proofs.YtbgedljbgkcpiaaGreatDoor
end
section
namespace Go.Proofs.YtbgedljbgkcpiaaGreatDoor
open Go.RowKit
def byV (s:ByteArray):List Value:=s.data.toList.map fun b=>Value.int .u8 (b.toNat:Int)
theorem byV_len (s:ByteArray):(byV s).length=s.size:=by simp[byV]
theorem first_str {P:Program} (w:World) (s:ByteArray):(Builtin.firstCells 1 s.size (.string s)).run P w= .ok (byV s).toArray w:=by
 simp only[Builtin.firstCells]
 have:(s.extract 0 s.size).data.map (fun b:UInt8=>Value.int .u8 (b.toNat:Int))=(byV s).toArray:=by
  rw[ByteArray.extract_zero_size]
  apply Array.ext'
  simp[byV]
 show Result.ok _ w=_
 rw[this]
theorem append_own_str {P:Program} {w:World} (base:Nat) (t u ty e:TypeId) (i:TypeInfo) (z:Value) (ht:P.underlying t=some (.slice e)) (hu:P.underlying u=some .string) (hi:P.info? e=some i) (hz:i.zero=some z)
  (hsize:i.size=1) (hby:i.bytes=1) (hzs:z.cells.size=1) (v:Value) (n:Nat) (xs:List Value) (hown:w.ownsRow base e 1 v n xs) (s:ByteArray)
  (hbytes:n+s.size≤140737488355328) (hbase:base≤w.heap.size):
  ∃ v' w',(Builtin.append_ #[t,u] ty #[v,.string s]).run P w= .ok v' w'∧w'.ownsRow base e 1 v' (n+s.size) (xs++byV s)∧w.grownBy w' v.ownBlock∧(v'.ownBlock=v.ownBlock∨v'.ownBlock=some w.heap.size):=by
 have hlen:(xs++byV s).length=(n+s.size) * 1:=by rw[List.length_append,hown.1,byV_len];omega
 have h1: ∀ u ∈ byV s,u.oneCell'=true:=by
  intro x hx
  simp only[byV,List.mem_map] at hx
  obtain⟨b,_,rfl⟩:=hx
  rfl
 have grown: ∀ (old:Nat),old<n+s.size→ ∀ (row:Option Nat),
   (w.drew.alloc (.cells (xs.toArray++(byV s).toArray++Builtin.zeroCells z.cells (grownCap w (n+s.size) old e - (n+s.size))) e)).ownsRow base e 1
    (.slice (some ⟨w.heap.size,0,none⟩) (n+s.size) (grownCap w (n+s.size) old e)) (n+s.size) (xs++byV s)∧
   w.grownBy (w.drew.alloc (.cells (xs.toArray++(byV s).toArray++Builtin.zeroCells z.cells (grownCap w (n+s.size) old e - (n+s.size))) e)) row:=by
  intro old ho row
  have hge:=grownCap_ge w (n+s.size) old e
  have hcm:grownCap w (n+s.size) old e≤maxLen:=grownCap_le_maxLen w (n+s.size) old e (by unfold maxLen;omega)
  refine⟨⟨hlen,.inr ⟨w.heap.size,_,_,rfl,hbase,heap_alloc_new w.drew _,hge,hcm,?_,?_⟩⟩,⟨rfl,rfl,rfl,by simp,fun k hk _=>Below.heap_alloc w.drew _ k hk⟩⟩
  ·simp only[Array.size_append,List.size_toArray,size_zeroCells,hzs,hown.1,byV_len]
   omega
  ·simp only[Array.toList_append,List.append_assoc]
   rw[←List.append_assoc,←hlen]
   exact List.take_left
 rcases hown.2 with ⟨rfl,rfl⟩|⟨g,cap,cur,rfl,hbg,hg,hnc,hcm,hcs,htake⟩
 ·have hx:xs= []:=List.eq_nil_of_length_eq_zero (by simpa using hown.1)
  subst hx
  by_cases hm:s.size=0
  ·have hs:byV s= []:=List.eq_nil_of_length_eq_zero (by rw[byV_len];exact hm)
   refine⟨.slice none 0 0,w,?_,?_,⟨rfl,rfl,rfl,Nat.le_refl _,fun _ _ _=>rfl⟩,Or.inl rfl⟩
   ·have hf:=first_str (P:=P) w s
    rw[hs,hm] at hf
    simp[Builtin.append_,run_underlying ht,run_underlying hu,sizeOf,typeInfo,hi,Builtin.lenOf,hm,hsize,hf]
   ·rw[hs,hm];exact World.ownsRow_nil w base e 1
  ·have hf:=first_str (P:=P) w.drew s
   have h63': ¬ (9223372036854775807<(s.size:Int)):=by omega
   have h48': ¬ (281474976710656<Builtin.nextslicecap s.size 0 * i.bytes):=by rw[nextslicecap_zero (by omega),hby];omega
   have hgr:=grown 0 (by omega) (Value.ownBlock (.slice none 0 0))
   simp only[Nat.zero_add,List.nil_append,Array.empty_append] at hgr ⊢
   refine⟨_,_,?_,hgr.1,hgr.2,Or.inr rfl⟩
   simp[Builtin.append_,run_underlying ht,run_underlying hu,sizeOf,typeInfo,zeroValue,hi,hz,Builtin.lenOf,hm,h63',h48',Question.forced,run_firstCells_none,hf,newRow,grownCap,hsize]
 ·by_cases hroom:n+s.size≤cap
  ·have hf:=first_str (P:=P) w s
   have hfit:n * 1+(byV s).length≤cur.size:=by rw[byV_len,hcs];omega
   have hst:=run_storeCells_at P g (n * 1) e (byV s) 0 cur w hg (by simpa using hfit) h1
   simp only[Nat.add_zero] at hst
   refine⟨.slice (some ⟨g,0,none⟩) (n+s.size) cap,w.setRow g (cur.toList.take (n * 1)++byV s++cur.toList.drop (n * 1+(byV s).length)).toArray,?_,⟨hlen,.inr ⟨g,cap,_,rfl,hbg,setRow_heap w g cur _ e _ hg,hroom,hcm,?_,?_⟩⟩,⟨rfl,rfl,rfl,by simp,fun k _ hk=>setRow_other w g k _ (fun e=>hk (by simp[Value.ownBlock,e]))⟩,Or.inl rfl⟩
   ·simp only[Nat.mul_one] at hst ⊢
    simp[Builtin.append_,run_underlying ht,run_underlying hu,sizeOf,typeInfo,hi,Builtin.lenOf,hroom,hf,Addr.add_lit,hst,hsize]
   ·simp only[List.size_toArray,List.length_append,List.length_take,List.length_drop,Array.length_toList]
    omega
   ·rw[htake,←hlen]
    exact List.take_left
  ·have holds: ∀ j u,xs[j]?=some u→w.cell? ((⟨g,0,none⟩:Addr).add j)=some u:=World.ownsRow.cells hown (g:=g) rfl
   have hfo:=run_firstCells_some (P:=P) w.drew 1 n ⟨g,0,none⟩ n cap xs hown.1 (by simpa using holds)
   have hf:=first_str (P:=P) w.drew s
   have h63': ¬ (9223372036854775807<((n:Int)+(s.size:Int))):=by omega
   have h48': ¬ (281474976710656<Builtin.nextslicecap (n+s.size) cap * i.bytes):=by
    have:=growslice_fits (need:=n+s.size) (old:=cap) (bytes:=1) (by omega) (by omega)
    rw[hby];omega
   have hgr:=grown cap (by omega) (Value.ownBlock (.slice (some ⟨g,0,none⟩) n cap))
   refine⟨_,_,?_,hgr.1,hgr.2,Or.inr rfl⟩
   simp[Builtin.append_,run_underlying ht,run_underlying hu,sizeOf,typeInfo,zeroValue,hi,hz,Builtin.lenOf,hroom,h63',h48',Question.forced,hf,hfo,newRow,grownCap,hsize]
   try (congr 2;apply Array.ext';simp[List.append_assoc])
/-- append of a string's bytes to a slice of bytes of the call's own, in a walk. -/
theorem app_string {P:Program} {w:World} {ops:Array Oper} {rest:List Oper} {o:Oper} {a:Act} {Q:Exit→Act→World→Prop} (hgd:o.guard=none) (s x:Operand) (t u:TypeId)
  (ho:o.op= .call { callee:= .builtin .append,args:= #[s,x],argTypes:= #[t,u] })
  (base:Nat) (e:TypeId) (z:Value) (ht:P.underlying t=some (.slice e)) (hu:P.underlying u=some .string) (hinfo:(P.info? e).map (fun i=>(i.zero,i.size,i.bytes))=some (some z,1,1)) (hzs:z.cells.size=1)
  (v:Value) (xs:List UInt8) (hs:a.eval s=v) (hown:OwY e w base v xs) (y:ByteArray) (hx:a.eval x= .string y)
  (hl:xs.length+y.size≤140737488355328) (hbase:base≤w.heap.size)
  (h: ∀ v' w',OwY e w' base v' (xs++y.data.toList)→w.grownBy w' v.ownBlock→(∀ k,v'.ownBlock=some k→v.ownBlock=some k∨w.heap.size≤k)→wpList P ops Q rest (a.put o.dst v') w'):
  wpList P ops Q (o :: rest) a w:=by
 obtain⟨i0,hi,hz0,hz1,hz2⟩:=info_parts hinfo
 refine wpList_plain hgd fun K hK=>?_
 obtain⟨v',w',hr,h2,h3,h5⟩:=append_own_str (P:=P) base t u o.type e i0 z ht hu hi hz0 hz1 hz2 hzs v xs.length _ hown y hl hbase
 unfold Oper.wp execOp
 simp only[ho,resolve,invoke,builtin,Sem.run_bind,Sem.run_pure,Result.andThen_ok,List.map_toArray,List.map_cons,List.map_nil,hs,hx,hr]
 refine hK _ _ (h v' w' ?_ h3 fun k hk=>?_)
 ·unfold OwY
  have e1:(xs++y.data.toList).length=xs.length+y.size:=by simp
  rw[e1,List.map_append]
  exact h2
 ·rcases h5 with h5|h5
  ·exact .inl (h5 ▸ hk)
  ·rw[h5] at hk;simp at hk;exact .inr (by omega)
end Go.Proofs.YtbgedljbgkcpiaaGreatDoor
end
section
namespace Go.Proofs.YtbgedljbgkcpiaaGreatDoor
open Go.RowKit
theorem info_i64:(Tryz.prog.info? 2).map (fun i=>(i.zero,i.size,i.bytes))=some (some (.int .i64 0),1,8):=by kernel_rfl
theorem app1_i64 {w:World} {ops:Array Oper} {rest:List Oper} {o:Oper} {a:Act} {Q:Exit→Act→World→Prop} {n:Int} (hgd:o.guard=none) (s x:Operand)
  (ho:o.op= .call { callee:= .builtin .append,args:= #[s,x],argTypes:= #[24,24] }) {B:Nat} {v:Value} {xs:List Int} (hs:a.eval s=v) (hown:OwI 2 w B v xs)
  (hx:a.eval x= .slice (some ⟨w.heap.size,0,none⟩) 1 1) (hl:xs.length+1≤17592186044416) (hB:B≤w.heap.size)
  (h: ∀ v' w',OwI 2 w' B v' (xs++ [n])→w.grownBy w' v.ownBlock→(∀ k,v'.ownBlock=some k→v.ownBlock=some k∨w.heap.size≤k)→wpList Tryz.prog ops Q rest (a.put o.dst v') w'):
  wpList Tryz.prog ops Q (o :: rest) a (w.alloc (.cells #[.int .i64 n] 2)):=
 app_one hgd s x _ ho B _ _ 1 8 Tryz.underlying24 info_i64 rfl (by omega) v xs.length _ hs hown hx rfl (by simp[Value.oneCell']) (by omega) (by omega) hB
  fun v' w' h1 h2 h3=>h v' w' (by unfold OwI;simpa using h1) h2 h3
theorem new_i64 (w:World):OwI 2 (w.alloc (.cells #[] 2)) w.heap.size (.slice (some ⟨w.heap.size,0,none⟩) 0 0) []:=World.ownsRow_made w #[] 0 (Nat.le_refl _) (by decide) rfl
theorem c_areSamples (v:Value) (xs:List Int) (w:World) (hr:RdI w v xs):Calls Tryz.prog 166 #[v] w fun e w'=>e= .returned (.bool (smpB xs))∧w=w':=by
 obtain⟨A,cap,rfl,hl,hc,hx⟩:=hr.open_
 have HX:=hide hx;clear hx hr
 go_enter Tryz.func166,Tryz.ntmps166
 go_wp2
 go_loop [7] (fun i=> ∃ k:Nat,k≤xs.length∧i= .int .i64 k∧smpB (xs.take k)=true) (fun i=>xs.length - (intOf i).toNat)
 case atStart=>exact⟨0,Nat.zero_le _,rfl,by simp[smpB]⟩
 case round=>
  obtain⟨k,hk,rfl,hs⟩:=hrel
  have HS:=hide hs;clear hs
  by_cases hlt:k<xs.length
  ·obtain⟨b,off,rfl,hb,hcell⟩:=HX.out k xs[k] (List.getElem?_eq_getElem hlt)
   by_cases hsm:Smp xs[k]
   ·have hd:decide (Smp xs[k])=true:=by simpa using hsm
    go_wp2_with (go_at_call 140;refine(c_isSample _ _).mono ?_;rintro e w' ⟨rfl,rfl⟩)
    go_round
    case rel=>exact⟨k+1,by omega,by go_num,smpB_take_succ (List.getElem?_eq_getElem hlt) HS.out hsm⟩
    case measure=>simp[intOf];omega
   ·have hd:decide (Smp xs[k])=false:=by simpa using hsm
    go_wp2_with (go_at_call 140;refine(c_isSample _ _).mono ?_;rintro e w' ⟨rfl,rfl⟩)
    go_ret
    exact⟨by simp[smpB_no (List.getElem?_eq_getElem hlt) hsm],rfl⟩
  ·go_wp2
   go_ret
   have:k=xs.length:=by omega
   subst this
   have:=HS.out
   rw[List.take_length] at this
   exact⟨by simp[this],rfl⟩
theorem c_isSignal (v:Value) (xs:List Int) (w:World) (hr:RdI w v xs):Calls Tryz.prog 139 #[v] w fun e w'=>e= .returned (.bool (sigB xs))∧w=w':=by
 obtain⟨A,cap,rfl,hl,hc,hx⟩:=hr.open_
 have HX:=hide hx;clear hx
 have HR:=hide hr;clear hr
 by_cases h4:xs.length≤4000
 all_goals
  go_enter Tryz.func139,Tryz.ntmps139
  go_wp2_with (go_at_call 166;refine(c_areSamples _ _ _ HR.out).mono ?_;rintro e w' ⟨rfl,rfl⟩)
  go_ret
  first|exact⟨by simp[sigB,h4],rfl⟩|exact⟨by simp[sigB];omega,rfl⟩
theorem c_toInt64S (v:Value) (xs:List Int) (w:World) (hr:RdI w v xs) (hn:xs.length≤1048576):Calls Tryz.prog 24 #[v] w fun e w'=> ∃ v',e= .returned v'∧OwI 2 w' w.heap.size v' xs∧Below w.heap.size w w':=by
 obtain⟨A,cap,rfl,hl,hc,hx⟩:=hr.open_
 have HX:=hide hx;clear hx
 have HR:=hide hr;clear hr
 obtain⟨i0,hi,hz0,hz1,hz2⟩:=info_parts info_i64
 go_enter Tryz.func24,Tryz.ntmps24
 go_wp2_with (at_make;refine wpList_make_full _ rfl _ _ _ rfl w.heap.size 2 i0 _ 1 Tryz.underlying24 hi hz0 hz1 .i64 .i64 _ _ xs.length rfl rfl rfl rfl (by rw[hz2];omega) (by unfold maxLen;omega) (Nat.le_refl _) ?_;intro w1 hown1 hg1)
 have ho1:OwI 2 w1 w.heap.size _ _:=OwI.made _ w1 (n:=xs.length) hg1.size (by unfold maxLen;omega) 0 hown1
 have hb1:Below w.heap.size w w1:=(Below.refl _ _).grown hg1 (Nat.le_refl _) (by simp)
 clear hown1 hg1
 have HO:=hide ho1;have HB:=hide hb1;clear ho1 hb1
 go_loopw [4] (fun i wr=> ∃ k:Nat,k≤xs.length∧i= .int .i64 k∧OwI 2 wr w.heap.size (.slice (some ⟨w.heap.size,0,none⟩) xs.length xs.length) (xs.take k++(List.replicate xs.length 0).drop k)∧Below w.heap.size w wr) (fun i _=>xs.length - (intOf i).toNat)
 case atStart=>exact⟨0,Nat.zero_le _,rfl,by simpa using HO.out,HB.out⟩
 case round=>
  obtain⟨k,hk,rfl,ho,hb⟩:=hrel
  have HO:=hide ho;have HB:=hide hb;clear ho hb
  by_cases hlt:k<xs.length
  ·obtain⟨b,off,rfl,hbw,hcell⟩:=HX.out k xs[k] (List.getElem?_eq_getElem hlt)
   have h1:wr.cell? ⟨b,off+k,none⟩=some (.int .i64 xs[k]):=(HB.out.cell hbw).trans hcell
   have h2:wr.cell? ⟨w.heap.size,k,none⟩=some (.int .i64 0):=HO.out.cellN (by rw[getElem?_mix (by simp) (by simpa using hlt)];simp[hlt])
   have h3:=HO.out.freeN k
   go_wp2
   go_roundw
   case rel=>exact⟨k+1,by omega,by go_num,by have:=HO.out.setN k xs[k];rw[set_mix (by simp) (List.getElem?_eq_getElem hlt)] at this;exact this,HB.out.setCell (Nat.le_refl _) _⟩
   case measure=>simp[intOf];omega
  ·go_wp2
   go_ret
   have:k=xs.length:=by omega
   subst this
   exact⟨_,rfl,by have:=HO.out;simpa using this,HB.out⟩
end Go.Proofs.YtbgedljbgkcpiaaGreatDoor
end
section
namespace Go.Proofs.YtbgedljbgkcpiaaGreatDoor
open Go.RowKit
theorem c_eqInt64S (v1 v2:Value) (xs ys:List Int) (w:World) (hr1:RdI w v1 xs) (hr2:RdI w v2 ys):Calls Tryz.prog 35 #[v1,v2] w fun e w'=>e= .returned (.bool (decide (xs=ys)))∧Dr w w':=by
 obtain⟨A1,cap1,rfl,hl1,hc1,hx1⟩:=hr1.open_
 obtain⟨A2,cap2,rfl,hl2,hc2,hx2⟩:=hr2.open_
 have HX1:=hide hx1;have HX2:=hide hx2;clear hx1 hx2 hr1 hr2
 by_cases hll:xs.length=ys.length
 ·have hb:((xs.length:Int) != (ys.length:Int))=false:=by simp[hll]
  have HL:=hide hll;clear hll
  go_enter Tryz.func35,Tryz.ntmps35
  go_wp2
  go_loopw [5] (fun i wr=> ∃ k:Nat,k≤xs.length∧i= .int .i64 k∧xs.take k=ys.take k∧Dr w wr) (fun i _=>xs.length - (intOf i).toNat)
  case atStart=>exact⟨0,Nat.zero_le _,rfl,rfl,Dr.refl _⟩
  case round=>
   obtain⟨k,hk,rfl,hs,nr,rfl⟩:=hrel
   have HS:=hide hs;clear hs
   by_cases hlt:k<xs.length
   ·have hlt2:k<ys.length:=by have:=HL.out;omega
    obtain⟨b1,off1,rfl,hb1,hcell1⟩:=HX1.out k xs[k] (List.getElem?_eq_getElem hlt)
    obtain⟨b2,off2,rfl,hb2,hcell2⟩:=HX2.out k ys[k] (List.getElem?_eq_getElem hlt2)
    by_cases he:xs[k]=ys[k]
    ·have hd:(xs[k] != ys[k])=false:=by simp[he]
     have HE:=hide he;clear he
     go_wp2
     go_quiet (fail)
     go_wp2
     go_roundw
     case rel=>exact⟨k+1,by omega,by go_num,takes_succ HS.out (List.getElem?_eq_getElem hlt) (by rw[HE.out];exact List.getElem?_eq_getElem hlt2),(by repeat(first|exact Dr.refl _|exact⟨_,rfl⟩|refine Dr.drewN ?_ _|refine Dr.drew ?_))⟩
     case measure=>simp[intOf];omega
    ·have hd:(xs[k] != ys[k])=true:=by simp[he]
     have HE:=hide he;clear he
     go_wp2
     go_quiet (fail)
     go_wp2
     go_ret
     exact⟨by simp[ne_at (List.getElem?_eq_getElem hlt) (List.getElem?_eq_getElem hlt2) HE.out],(by repeat(first|exact Dr.refl _|exact⟨_,rfl⟩|refine Dr.drewN ?_ _|refine Dr.drew ?_))⟩
   ·go_wp2
    go_ret
    exact⟨by simp[eq_of_takes (k:=k) (by omega) HL.out HS.out],(by repeat(first|exact Dr.refl _|exact⟨_,rfl⟩|refine Dr.drewN ?_ _|refine Dr.drew ?_))⟩
 ·have hb:((xs.length:Int) != (ys.length:Int))=true:=by simp;omega
  have hne:xs≠ys:=fun e=>hll (by rw[e])
  have HN:=hide hne;clear hll hne
  go_enter Tryz.func35,Tryz.ntmps35
  go_wp2
  go_ret
  exact⟨by simp[HN.out],Dr.refl _⟩
theorem c_markInt64S (E:TypeId) (B:Nat) (v:Value) (xs:List Int) (m:Nat) (w:World) (ho:OwI E w B v xs) (hm:m+xs.length≤4611686018427387904):
  Calls Tryz.prog 40 #[v,.int .i64 m] w fun e w'=>e= .returned (.int .i64 ((m+xs.length:Nat):Int))∧OwI E w' B v (marks m xs.length)∧w.grownBy w' v.ownBlock:=by
 rcases Nat.eq_zero_or_pos xs.length with hz|hz
 ·have hx:xs= []:=List.eq_nil_of_length_eq_zero hz
  subst hx
  obtain⟨A,cap,rfl,hl,hc,_⟩:=ho.rd.open_
  have HO:=hide ho;clear ho hz
  simp only[List.length_nil] at *
  go_enter Tryz.func40,Tryz.ntmps40
  go_wp2
  refine wp_loop_rounds 1 ?_
  rw[rounds_succ]
  go_wp2
  go_ret
  exact⟨by simp,by simpa[marks] using HO.out,World.grownBy.refl _ _⟩
 ·obtain⟨g,cap,rfl,hl,hg,hgw⟩:=ho.form hz
  have HO:=hide ho;clear ho
  go_enter Tryz.func40,Tryz.ntmps40
  go_wp2
  go_loopw [1,5] (fun t i wr=> ∃ k:Nat,k≤xs.length∧i= .int .i64 k∧t= .int .i64 ((m+k:Nat):Int)∧OwI E wr B (.slice (some ⟨g,0,none⟩) xs.length cap) ((marks m xs.length).take k++xs.drop k)∧w.grownBy wr (some g)) (fun _ i _=>xs.length - (intOf i).toNat)
  case atStart=>exact⟨0,Nat.zero_le _,rfl,rfl,by simpa using HO.out,World.grownBy.refl _ _⟩
  case round=>
   obtain⟨k,hk,rfl,rfl,ho,hb⟩:=hrel
   have HO:=hide ho;have HB:=hide hb;clear ho hb
   by_cases hlt:k<xs.length
   ·have h2:wr.cell? ⟨g,k,none⟩=some (.int .i64 xs[k]):=HO.out.cellN (by rw[getElem?_mix (length_marks _ _) hlt];exact List.getElem?_eq_getElem hlt)
    have h3:=HO.out.freeN k
    go_wp2
    go_roundw
    case rel=>exact⟨k+1,by omega,by go_num,by go_num,by have:=HO.out.setN k ((m+k:Nat):Int);rw[set_mix (length_marks _ _) (marks_at hlt)] at this;exact this,HB.out.trans (HO.out.grownN k _)⟩
    case measure=>simp[intOf];omega
   ·go_wp2
    go_ret
    have:k=xs.length:=by omega
    subst this
    exact⟨rfl,by have:=HO.out;rw[List.take_of_length_le (by simp[length_marks]),List.drop_length,List.append_nil] at this;unfold OwI at *;rw[length_marks] at *;exact this,HB.out⟩
theorem c_eqI (v1 v2:Value) (xs:List Int) (w:World) (hr1:RdI w v1 xs) (hr2:RdI w v2 xs):Calls Tryz.prog 35 #[v1,v2] w fun e w'=>e= .returned (.bool true)∧Dr w w':=
 (c_eqInt64S v1 v2 xs xs w hr1 hr2).mono fun e w' ⟨h1,h2⟩=>⟨by rw[h1];simp,h2⟩
end Go.Proofs.YtbgedljbgkcpiaaGreatDoor
end
section
namespace Go.Proofs.YtbgedljbgkcpiaaGreatDoor
open Go.RowKit
end Go.Proofs.YtbgedljbgkcpiaaGreatDoor
end
section
namespace Go.Proofs.YtbgedljbgkcpiaaGreatDoor
open Go.RowKit
theorem c_size (v:Value) (xs:List Int) (w:World) (hr:RdI w v xs):Calls Tryz.prog 169 #[v] w fun e w'=>e= .returned (.int .i64 (xs.length:Int))∧w=w':=by
 obtain⟨A,cap,rfl,hl,hc,hx⟩:=hr.open_
 clear hx hr
 go_enter Tryz.func169,Tryz.ntmps169
 go_wp2
 go_ret
 exact⟨rfl,rfl⟩
end Go.Proofs.YtbgedljbgkcpiaaGreatDoor
end
section
namespace Go.Proofs.YtbgedljbgkcpiaaGreatDoor
open Go.RowKit
end Go.Proofs.YtbgedljbgkcpiaaGreatDoor
end
section
namespace Go.Proofs.YtbgedljbgkcpiaaGreatDoor
open Go.RowKit
theorem info_u8:(Tryz.prog.info? 5).map (fun i=>(i.zero,i.size,i.bytes))=some (some (.int .u8 0),1,1):=by kernel_rfl
theorem oneCell_bytes (l:List UInt8): ∀ u ∈ l.map (fun b=>Value.int .u8 (b.toNat:Int)),u.oneCell'=true:=by
 intro u hu
 obtain⟨b,_,rfl⟩:=List.mem_map.1 hu
 rfl
theorem appm_u8 {w:World} {ops:Array Oper} {rest:List Oper} {o:Oper} {a:Act} {Q:Exit→Act→World→Prop} (hgd:o.guard=none) (s x:Operand)
  (ho:o.op= .call { callee:= .builtin .append,args:= #[s,x],argTypes:= #[104,104] }) {B:Nat} {v:Value} {xs:List UInt8} (hs:a.eval s=v) (hown:OwY 5 w B v xs)
  {y:Value} {ys:List UInt8} (hx:a.eval x=y) (hr:RdY w y ys) (hl:xs.length+ys.length≤140737488355328) (hB:B≤w.heap.size)
  (h: ∀ v' w',OwY 5 w' B v' (xs++ys)→w.grownBy w' v.ownBlock→(∀ k,v'.ownBlock=some k→v.ownBlock=some k∨w.heap.size≤k)→wpList Tryz.prog ops Q rest (a.put o.dst v') w'):
  wpList Tryz.prog ops Q (o :: rest) a w:=
 app_many hgd s x _ ho B _ _ 1 1 Tryz.underlying104 info_u8 rfl (by omega) v xs.length _ hs hown y ys.length _ hx hr (oneCell_bytes _) (by omega) (by omega) hB
  fun v' w' h1 h2 h3=>h v' w' (by unfold OwY;simpa using h1) h2 h3
theorem new_u8 (w:World):OwY 5 (w.alloc (.cells #[] 5)) w.heap.size (.slice (some ⟨w.heap.size,0,none⟩) 0 0) []:=World.ownsRow_made w #[] 0 (Nat.le_refl _) (by decide) rfl
theorem str_of {w:World} {v:Value} {bs:List UInt8} (h:RdY w v bs):(convert 104 9 v).run Tryz.prog w= .ok (.string (mkS bs)) w:=
 run_str Tryz.underlying104 Tryz.underlying5 Tryz.underlying9 h
end Go.Proofs.YtbgedljbgkcpiaaGreatDoor
end
section
namespace Go.Proofs.YtbgedljbgkcpiaaGreatDoor
open Go.RowKit
end Go.Proofs.YtbgedljbgkcpiaaGreatDoor
end
section
namespace Go.Proofs.YtbgedljbgkcpiaaGreatDoor
end Go.Proofs.YtbgedljbgkcpiaaGreatDoor
end
section
namespace Go.Proofs.YtbgedljbgkcpiaaGreatDoor
open Go.RowKit
theorem c_lines2 (s:ByteArray) (w:World) (hs:s.size≤1048576):Calls Tryz.prog 31 #[.string s] w fun e w'=> ∃ cap,(linesF s).length<cap∧e= .returned (.slice (some ⟨w.heap.size,0,none⟩) (linesF s).length cap)∧OwS 9 w' w.heap.size (.slice (some ⟨w.heap.size,0,none⟩) (linesF s).length cap) (linesF s)∧Below w.heap.size w w':=by
 have hl:=length_partsB 10 s
 have hlt:=linesF_take s
 have hll:=length_linesF s
 have hn:=count_le s
 generalize hN:s.data.toList.count 10=N at *
 generalize hP:partsB 10 s=ps at *
 generalize hL:linesF s=ls at *
 have HP:=hide hP;have HL:=hide hL;have HLT:=hide hlt;have HPL:=hide hl;have HLL:=hide hll;clear hP hL hlt hN hll
 rw[HLL.out]
 go_enter Tryz.func31,Tryz.ntmps31
 go_wp2_with fail
 refine(c_Split s _ hs).mono ?_;rintro e w1 ⟨cap,rfl,ho,hb⟩
 rw[HP.out] at ho
 rw[HP.out,HPL.out]
 rw[HPL.out] at ho
 have hcp:=cap_of ho.rd rfl
 have h1:ps.length=N+1:=hl
 have HO:=hide ho;have HB:=hide hb;clear ho hb hl
 have hcc:N≤cap:=by omega
 have hc3:=hide (show N<cap by omega)
 have hc2:cap≤9223372036854775807:=hcp.2.2
 clear hcp
 go_wp2
 go_ret
 exact⟨cap,hc3.out,rfl,by rw[HLT.out];exact HO.out.cut (by omega),HB.out⟩
end Go.Proofs.YtbgedljbgkcpiaaGreatDoor
end
section
namespace Go.Proofs.YtbgedljbgkcpiaaGreatDoor
open Go.RowKit
end Go.Proofs.YtbgedljbgkcpiaaGreatDoor
end
section
namespace Go.Proofs.YtbgedljbgkcpiaaGreatDoor
open Go.RowKit
end Go.Proofs.YtbgedljbgkcpiaaGreatDoor
end
section
namespace Go.Proofs.YtbgedljbgkcpiaaGreatDoor
open Go.RowKit
end Go.Proofs.YtbgedljbgkcpiaaGreatDoor
end
section
namespace Go.Proofs.YtbgedljbgkcpiaaGreatDoor
open Go.RowKit
theorem text_len {s:ByteArray} (h:textB s=true):(linesF s).length≤200:=by simp[textB] at h;exact h.2
end Go.Proofs.YtbgedljbgkcpiaaGreatDoor
end
section
namespace Go.Proofs.YtbgedljbgkcpiaaGreatDoor
open Go.RowKit
/-- Data: a number, a text, a slice (its element's type, the cells of an element, the elements), a struct. -/
inductive T where
 |num (n:Int)
 |str (s:ByteArray)
 |sl (E:TypeId) (sz:Nat) (xs:List T)
 |st (fs:List T)
mutual
/-- How many cells. -/
def T.wide:T→Nat
 | .num _=>1
 | .str _=>1
 | .sl _ _ _=>1
 | .st fs=>T.wides fs
def T.wides:List T→Nat
 | []=>0
 |x :: xs=>T.wide x+T.wides xs
end
mutual
/-- The cells read as the data. -/
def T.rd (w:World):T→List Value→Prop
 | .num n,cs=>cs= [.int .i64 n]
 | .str s,cs=>cs= [.string s]
 | .sl _ sz xs,cs=> ∃ v es,cs= [v]∧(∀ x ∈ xs,T.wide x=sz)∧Rd w v sz xs.length es∧T.rds w xs es
 | .st fs,cs=>T.rds w fs cs
def T.rds (w:World):List T→List Value→Prop
 | [],cs=>cs= []
 |x :: xs,cs=> ∃ c1 c2,cs=c1++c2∧T.rd w x c1∧T.rds w xs c2
end
mutual
/-- The cells read as the data, whose slices lie in blocks of their own, F. -/
def T.ow (w:World):T→List Nat→List Value→Prop
 | .num n,F,cs=>F= []∧cs= [.int .i64 n]
 | .str s,F,cs=>F= []∧cs= [.string s]
 | .sl E sz xs,F,cs=> ∃ v es G,cs= [v]∧F=v.ownBlock.toList++G∧(∀ x ∈ xs,T.wide x=sz)∧w.ownsRow 0 E sz v xs.length es∧T.ows w xs G es
 | .st fs,F,cs=>T.ows w fs F cs
def T.ows (w:World):List T→List Nat→List Value→Prop
 | [],F,cs=>F= []∧cs= []
 |x :: xs,F,cs=> ∃ F1 F2 c1 c2,F=F1++F2∧cs=c1++c2∧T.ow w x F1 c1∧T.ows w xs F2 c2
end
mutual
theorem T.rd_len {w:World} : ∀ (x:T) (cs:List Value),T.rd w x cs→cs.length=T.wide x
 | .num _,_,h=>by simp only[T.rd] at h;subst h;rfl
 | .str _,_,h=>by simp only[T.rd] at h;subst h;rfl
 | .sl _ _ _,_,h=>by simp only[T.rd] at h;obtain⟨v,es,rfl,_⟩:=h;rfl
 | .st fs,cs,h=>by simp only[T.rd] at h;simp only[T.wide];exact T.rds_len fs cs h
theorem T.rds_len {w:World} : ∀ (xs:List T) (cs:List Value),T.rds w xs cs→cs.length=T.wides xs
 | [],_,h=>by simp only[T.rds] at h;subst h;rfl
 |x :: xs,_,h=>by
  simp only[T.rds] at h
  obtain⟨c1,c2,rfl,h1,h2⟩:=h
  simp only[T.wides,List.length_append,T.rd_len x c1 h1,T.rds_len xs c2 h2]
end
mutual
theorem T.rd_keep {w w':World} (hs:w.heap.size≤w'.heap.size) (hk: ∀ b,b<w.heap.size→w'.heap[b]?=w.heap[b]?): ∀ (x:T) (cs:List Value),T.rd w x cs→T.rd w' x cs
 | .num _,_,h=>by simpa only[T.rd] using h
 | .str _,_,h=>by simpa only[T.rd] using h
 | .sl _ _ xs,_,h=>by
  simp only[T.rd] at h ⊢
  obtain⟨v,es,rfl,hw,h1,h2⟩:=h
  exact⟨v,es,rfl,hw,h1.keep hs (fun b _ hb=>hk b hb),T.rds_keep hs hk xs es h2⟩
 | .st fs,cs,h=>by simp only[T.rd] at h ⊢;exact T.rds_keep hs hk fs cs h
theorem T.rds_keep {w w':World} (hs:w.heap.size≤w'.heap.size) (hk: ∀ b,b<w.heap.size→w'.heap[b]?=w.heap[b]?): ∀ (xs:List T) (cs:List Value),T.rds w xs cs→T.rds w' xs cs
 | [],_,h=>by simpa only[T.rds] using h
 |x :: xs,_,h=>by
  simp only[T.rds] at h ⊢
  obtain⟨c1,c2,rfl,h1,h2⟩:=h
  exact⟨c1,c2,rfl,T.rd_keep hs hk x c1 h1,T.rds_keep hs hk xs c2 h2⟩
end
mutual
theorem T.ow_rd {w:World} : ∀ (x:T) (F:List Nat) (cs:List Value),T.ow w x F cs→T.rd w x cs
 | .num _,_,_,h=>by simp only[T.ow] at h;simp only[T.rd];exact h.2
 | .str _,_,_,h=>by simp only[T.ow] at h;simp only[T.rd];exact h.2
 | .sl _ _ xs,_,_,h=>by
  simp only[T.ow] at h
  simp only[T.rd]
  obtain⟨v,es,G,rfl,rfl,hw,h1,h2⟩:=h
  exact⟨v,es,rfl,hw,Rd.of_own h1,T.ows_rds xs G es h2⟩
 | .st fs,F,cs,h=>by simp only[T.ow] at h;simp only[T.rd];exact T.ows_rds fs F cs h
theorem T.ows_rds {w:World} : ∀ (xs:List T) (F:List Nat) (cs:List Value),T.ows w xs F cs→T.rds w xs cs
 | [],_,_,h=>by simp only[T.ows] at h;simp only[T.rds];exact h.2
 |x :: xs,_,_,h=>by
  simp only[T.ows] at h
  simp only[T.rds]
  obtain⟨F1,F2,c1,c2,rfl,rfl,h1,h2⟩:=h
  exact⟨c1,c2,rfl,T.ow_rd x F1 c1 h1,T.ows_rds xs F2 c2 h2⟩
end
theorem ownsRow_keep {w w':World} {B:Nat} {E:TypeId} {sz n:Nat} {v:Value} {es:List Value} (hk: ∀ b,v.ownBlock=some b→w'.heap[b]?=w.heap[b]?) (h:w.ownsRow B E sz v n es):w'.ownsRow B E sz v n es:=by
 refine⟨h.1,?_⟩
 rcases h.2 with hn|⟨g,cap,cur,rfl,hbg,hg,rest⟩
 ·exact .inl hn
 ·exact .inr ⟨g,cap,cur,rfl,hbg,(hk g rfl).trans hg,rest⟩
mutual
theorem T.ow_keep {w w':World} : ∀ (x:T) (F:List Nat) (cs:List Value),(∀ b ∈ F,w'.heap[b]?=w.heap[b]?)→T.ow w x F cs→T.ow w' x F cs
 | .num _,_,_,_,h=>by simpa only[T.ow] using h
 | .str _,_,_,_,h=>by simpa only[T.ow] using h
 | .sl _ _ xs,_,_,hk,h=>by
  simp only[T.ow] at h ⊢
  obtain⟨v,es,G,rfl,rfl,hw,h1,h2⟩:=h
  exact⟨v,es,G,rfl,rfl,hw,ownsRow_keep (fun b hb=>hk b (by simp[hb])) h1,T.ows_keep xs G es (fun b hb=>hk b (by simp[hb])) h2⟩
 | .st fs,F,cs,hk,h=>by simp only[T.ow] at h ⊢;exact T.ows_keep fs F cs hk h
theorem T.ows_keep {w w':World} : ∀ (xs:List T) (F:List Nat) (cs:List Value),(∀ b ∈ F,w'.heap[b]?=w.heap[b]?)→T.ows w xs F cs→T.ows w' xs F cs
 | [],_,_,_,h=>by simpa only[T.ows] using h
 |x :: xs,_,_,hk,h=>by
  simp only[T.ows] at h ⊢
  obtain⟨F1,F2,c1,c2,rfl,rfl,h1,h2⟩:=h
  exact⟨F1,F2,c1,c2,rfl,rfl,T.ow_keep x F1 c1 (fun b hb=>hk b (by simp[hb])) h1,T.ows_keep xs F2 c2 (fun b hb=>hk b (by simp[hb])) h2⟩
end
mutual
theorem T.ow_lt {w:World} : ∀ (x:T) (F:List Nat) (cs:List Value),T.ow w x F cs→ ∀ b ∈ F,b<w.heap.size
 | .num _,_,_,h=>by simp only[T.ow] at h;simp[h.1]
 | .str _,_,_,h=>by simp only[T.ow] at h;simp[h.1]
 | .sl _ _ xs,_,_,h=>by
  simp only[T.ow] at h
  obtain⟨v,es,G,rfl,rfl,hw,h1,h2⟩:=h
  intro b hb
  rcases List.mem_append.1 hb with hb|hb
  ·exact(h1.lt b (by simpa using hb)).2
  ·exact T.ows_lt xs G es h2 b hb
 | .st fs,F,cs,h=>by simp only[T.ow] at h;exact T.ows_lt fs F cs h
theorem T.ows_lt {w:World} : ∀ (xs:List T) (F:List Nat) (cs:List Value),T.ows w xs F cs→ ∀ b ∈ F,b<w.heap.size
 | [],_,_,h=>by simp only[T.ows] at h;simp[h.1]
 |x :: xs,_,_,h=>by
  simp only[T.ows] at h
  obtain⟨F1,F2,c1,c2,rfl,rfl,h1,h2⟩:=h
  intro b hb
  rcases List.mem_append.1 hb with hb|hb
  ·exact T.ow_lt x F1 c1 h1 b hb
  ·exact T.ows_lt xs F2 c2 h2 b hb
end
theorem T.ows_len {w:World} {xs:List T} {F:List Nat} {cs:List Value} (h:T.ows w xs F cs):cs.length=T.wides xs:=T.rds_len xs cs (T.ows_rds xs F cs h)
theorem T.ows_app {w:World} : ∀ (xs ys:List T) (F:List Nat) (cs:List Value),T.ows w (xs++ys) F cs↔ ∃ F1 F2 c1 c2,F=F1++F2∧cs=c1++c2∧T.ows w xs F1 c1∧T.ows w ys F2 c2
 | [],ys,F,cs=>by
  constructor
  ·intro h;exact⟨[],F,[],cs,rfl,rfl,by simp[T.ows],h⟩
  ·rintro⟨F1,F2,c1,c2,rfl,rfl,h1,h2⟩
   simp only[T.ows] at h1
   obtain⟨rfl,rfl⟩:=h1
   simpa using h2
 |x :: xs,ys,F,cs=>by
  simp only[List.cons_append,T.ows,T.ows_app xs ys]
  constructor
  ·rintro⟨F1,_,c1,_,rfl,rfl,h1,F2,F3,c2,c3,rfl,rfl,h2,h3⟩
   exact⟨F1++F2,F3,c1++c2,c3,by simp,by simp,⟨F1,F2,c1,c2,rfl,rfl,h1,h2⟩,h3⟩
  ·rintro⟨_,F3,_,c3,rfl,rfl,⟨F1,F2,c1,c2,rfl,rfl,h1,h2⟩,h3⟩
   exact⟨F1,F2++F3,c1,c2++c3,by simp,by simp,h1,F2,F3,c2,c3,rfl,rfl,h2,h3⟩
theorem T.wides_mul {sz:Nat} : ∀ (xs:List T),(∀ x ∈ xs,T.wide x=sz)→T.wides xs=xs.length * sz
 | [],_=>by simp[T.wides]
 |x :: xs,h=>by
  simp only[T.wides,List.length_cons,h x (by simp),T.wides_mul xs (fun y hy=>h y (by simp[hy]))]
  rw[Nat.add_mul];omega
/-- The k-th element's cells. -/
theorem T.rds_at {w:World} {sz:Nat} : ∀ (xs:List T) (es:List Value) (k:Nat) (x:T),(∀ x ∈ xs,T.wide x=sz)→T.rds w xs es→xs[k]?=some x→ ∃ cs,T.rd w x cs∧ ∀ j u,cs[j]?=some u→es[k * sz+j]?=some u
 | [],_,_,_,_,_,hk=>by simp at hk
 |y :: xs,es,k,x,hw,h,hk=>by
  simp only[T.rds] at h
  obtain⟨c1,c2,rfl,h1,h2⟩:=h
  have hl:=T.rd_len y c1 h1
  rw[hw y (by simp)] at hl
  cases k with
  |zero=>
   simp at hk;subst hk
   refine⟨c1,h1,fun j u hj=>?_⟩
   rw[Nat.zero_mul,Nat.zero_add,List.getElem?_append_left (List.getElem?_eq_some_iff.1 hj).1]
   exact hj
  |succ k=>
   obtain⟨cs,h3,h4⟩:=T.rds_at xs c2 k x (fun z hz=>hw z (by simp[hz])) h2 (by simpa using hk)
   refine⟨cs,h3,fun j u hj=>?_⟩
   have e:(k+1) * sz+j=c1.length+(k * sz+j):=by rw[hl,Nat.add_mul];omega
   rw[e,List.getElem?_append_right (by omega),Nat.add_sub_cancel_left]
   exact h4 j u hj
/-- A slice that reads is opened. -/
theorem T.yM {w:World} {E:TypeId} {sz:Nat} {xs:List T} {v:Value} (h:T.rd w (.sl E sz xs) [v]):
  ∃ A cap,v= .slice A xs.length cap∧xs.length≤cap∧cap≤9223372036854775807∧
   (∀ k x,xs[k]?=some x→ ∃ b off cs,A=some ⟨b,off,none⟩∧b<w.heap.size∧T.rd w x cs∧ ∀ j u,cs[j]?=some u→w.cell? ⟨b,off+(k * sz+j),none⟩=some u):=by
 simp only[T.rd] at h
 obtain⟨v',es,hv,hw,h1,h2⟩:=h
 obtain rfl:v=v':=by simpa using hv
 obtain⟨_,A,cap,rfl,h3,h4,h5⟩:=h1
 refine⟨A,cap,rfl,h3,h4,fun k x hk=>?_⟩
 obtain⟨b,off,rfl,hb,hc⟩:=h5 (by have:=(List.getElem?_eq_some_iff.1 hk).1;omega)
 obtain⟨cs,h6,h7⟩:=T.rds_at xs es k x hw h2 hk
 exact⟨b,off,cs,rfl,hb,h6,fun j u hj=>hc _ u (h7 j u hj)⟩
/-- Slices of numbers. -/
theorem T.rds_nums {w:World} : ∀ (xs:List Int) (es:List Value),T.rds w (xs.map T.num) es↔es=xs.map (Value.int .i64)
 | [],es=>by simp[T.rds]
 |x :: xs,es=>by
  simp only[List.map_cons,T.rds,T.rds_nums xs,T.rd]
  constructor
  ·rintro⟨c1,c2,rfl,rfl,rfl⟩;rfl
  ·rintro rfl;exact⟨_,_,rfl,rfl,rfl⟩
theorem T.ows_nums {w:World} : ∀ (xs:List Int) (F:List Nat) (es:List Value),T.ows w (xs.map T.num) F es↔F= []∧es=xs.map (Value.int .i64)
 | [],F,es=>by simp[T.ows]
 |x :: xs,F,es=>by
  simp only[List.map_cons,T.ows,T.ows_nums xs,T.ow]
  constructor
  ·rintro⟨F1,F2,c1,c2,rfl,rfl,⟨rfl,rfl⟩,rfl,rfl⟩;exact⟨rfl,rfl⟩
  ·rintro⟨rfl,rfl⟩;exact⟨[],[],_,_,rfl,rfl,⟨rfl,rfl⟩,rfl,rfl⟩
/-- A slice of numbers as data. -/
abbrev T.ints (E:TypeId) (xs:List Int):T:= .sl E 1 (xs.map T.num)
theorem T.yQ {w:World} {E:TypeId} {xs:List Int} {v:Value} :T.rd w (T.ints E xs) [v]↔RdI w v xs:=by
 simp only[T.ints,T.rd,T.rds_nums,List.length_map]
 constructor
 ·rintro⟨v',es,hv,_,h1,rfl⟩
  obtain rfl:v=v':=by simpa using hv
  exact h1
 ·intro h
  exact⟨v,_,rfl,by simp[T.wide],h,rfl⟩
theorem T.ow_ints {w:World} {E:TypeId} {xs:List Int} {v:Value} {F:List Nat} :T.ow w (T.ints E xs) F [v]↔OwI E w 0 v xs∧F=v.ownBlock.toList:=by
 simp only[T.ints,T.ow,T.ows_nums,List.length_map]
 constructor
 ·rintro⟨v',es,G,hv,rfl,_,h1,rfl,rfl⟩
  obtain rfl:v=v':=by simpa using hv
  exact⟨h1,by simp⟩
 ·rintro⟨h,rfl⟩
  exact⟨v,_,[],rfl,by simp,by simp[T.wide],h,rfl,rfl⟩
theorem T.yD {w w':World} {x:T} {cs:List Value} (h:T.rd w x cs) (hb:Below w.heap.size w w'):T.rd w' x cs:=T.rd_keep hb.size hb.block x cs h
theorem T.ow_below {w w':World} {x:T} {F:List Nat} {cs:List Value} {B:Nat} (h:T.ow w x F cs) (hb:Below B w w') (hF: ∀ b ∈ F,b<B):T.ow w' x F cs:=T.ow_keep x F cs (fun b hb'=>hb.block b (hF b hb')) h
theorem T.ow_all {w w':World} {x:T} {F:List Nat} {cs:List Value} (h:T.ow w x F cs) (hb:Below w.heap.size w w'):T.ow w' x F cs:=T.ow_below h hb (T.ow_lt x F cs h)
theorem T.ows_all {w w':World} {xs:List T} {F:List Nat} {cs:List Value} (h:T.ows w xs F cs) (hb:Below w.heap.size w w'):T.ows w' xs F cs:=T.ows_keep xs F cs (fun b hb'=>hb.block b (T.ows_lt xs F cs h b hb')) h
/-- Of what was there only the blocks F have turned. -/
structure Trn (F:List Nat) (w w':World):Prop where
 os:w'.os=w.os
 tape:w'.tape=w.tape
 output:w'.output=w.output
 size:w.heap.size≤w'.heap.size
 block: ∀ k,k<w.heap.size→k ∉ F→w'.heap[k]?=w.heap[k]?
end Go.Proofs.YtbgedljbgkcpiaaGreatDoor
end
