/- What valid sessions and caches are, in plain words. Words: a slice of elements opened; a struct behind a pointer. Contracts: wrapped numbers, copies, differences. Contracts: differences of an order; PredictSignal of both sides. Contracts: what is valid, by the program: lists, clips, names, sends. Contracts: check values, two bytes, the head of a store. -/
import Derived.Test.YtoibekfhepnedaaGreatQAbExactSoundCache
import Derived.Test.YtoibekfhepnedaaGreatQAaExactSoundCache
import Derived.Test.YtoibekfhepnedaaGreatQAdExactSoundCache
import Derived.Deep.RegionWith
import Derived.Deep.RegionHeld3
set_option linter.unusedVariables false
set_option linter.unusedSimpArgs false
set_option maxHeartbeats 2000000
set_option maxRecDepth 20000
section
namespace Go.Proofs.YtoibekfhepnedaaGreat
open Go.RowKit
noncomputable def tf (p:Prop):Bool:= @decide p (Classical.propDecidable p)
theorem yX {p:Prop} (h:p):tf p=true:=by unfold tf;exact @decide_eq_true p (Classical.propDecidable p) h
theorem yW {p:Prop} (h: ¬ p):tf p=false:=by unfold tf;exact @decide_eq_false p (Classical.propDecidable p) h
theorem tf_iff {p q:Prop} (h:p↔q):tf p=tf q:=by rw[propext h]
theorem tf_dec {p:Prop} [d:Decidable p]:tf p=decide p:=by
 by_cases h:p
 ·rw[yX h,decide_eq_true h]
 ·rw[yW h,decide_eq_false h]
/-- The first k elements are right; all are. -/
def Upto {α:Type} (xs:List α) (Q:Nat→α→Prop) (k:Nat):Prop:= ∀ i x,i<k→xs[i]?=some x→Q i x
def Each {α:Type} (xs:List α) (Q:Nat→α→Prop):Prop:= ∀ i x,xs[i]?=some x→Q i x
section
variable {α:Type} {xs:List α} {Q:Nat→α→Prop} {k:Nat} {x:α}
theorem Upto.zero:Upto xs Q 0:=fun i _ h=>absurd h (Nat.not_lt_zero i)
theorem Upto.step (h:Upto xs Q k) (hx:xs[k]?=some x) (q:Q k x):Upto xs Q (k+1):=by
 intro i y hi hy
 by_cases e:i=k
 ·subst e
  rw[hx] at hy
  injection hy with hy
  subst hy
  exact q
 ·exact h i y (by omega) hy
theorem Upto.all (h:Upto xs Q k) (hk:xs.length≤k):Each xs Q:=fun i y hy=>h i y (Nat.lt_of_lt_of_le (List.getElem?_eq_some_iff.1 hy).1 hk) hy
theorem Each.of_mem {P:α→Prop} :Each xs (fun _ y=>P y)↔ ∀ y ∈ xs,P y:=by
 constructor
 ·intro h y hy
  obtain⟨i,hi,rfl⟩:=List.mem_iff_getElem.1 hy
  exact h i _ (List.getElem?_eq_getElem hi)
 ·intro h i y hy
  exact h y (List.mem_of_getElem? hy)
end
/-- Numbers from 0 on and below n. -/
def Idx (l:List Int) (n:Int):Prop:=Each l fun _ x=>0≤x∧x≤n - 1
structure ClipOk (c:GClip):Prop where
 source:inB c.zT 0 5=true
 length:inB c.zG 1 4000=true
 from_:inB c.zH 0 (4000 - c.zG)=true
 at_:inB c.zX 0 (4000 - c.zG)=true
 gain:Smp c.zR
structure TrackOk (t:GTrack):Prop where
 clips:Each t.zQ fun i c=>ClipOk c∧ ∀ p,0<i→t.zQ[i - 1]?=some p→p.zX≤c.zX
 few:t.zQ.length≤12
def befS (l:List GSend) (strip:Int) (i:Nat):Int:=if i=0 then strip else (l.getD (i - 1) ⟨0,0⟩).zV
structure SendsOk (l:List GSend) (strip n:Int):Prop where
 each:Each l fun i x=>inB x.zV (befS l strip i+1) (n - 1)=true∧Smp x.zR
 last:strip=n - 1→l.length=0
 few:strip≠n - 1→1≤l.length∧l.length≤4
def smallN (c:Nat):Prop:=97≤c∧c≤122
def digitN (c:Nat):Prop:=48≤c∧c≤57
structure NameOk (s:ByteArray):Prop where
 some_:1≤s.size
 few:s.size≤10
 each: ∀ i,i<s.size→smallN (bA s i)∨(digitN (bA s i)∧i≠0)
structure StripOk (x:GStrip) (i n:Int):Prop where
 name:NameOk x.zU
 latency:inB x.zI 0 32=true
 sends:SendsOk x.zJ i n
structure MixerOk (m:GMixer):Prop where
 some_:1≤m.zC.length
 few:m.zC.length≤8
 each:Each m.zC fun i x=>StripOk x (i:Int) (m.zC.length:Int)∧ ∀ j y,j<i→m.zC[j]?=some y→y.zU≠x.zU
structure SourcesOk (ss:List (List Int)):Prop where
 each:Each ss fun _ l=>sigB l=true
 few:ss.length≤6
structure TablesOk (ts:List (List Int)):Prop where
 each:Each ts fun _ t=>(t.length=2∨t.length=4∨t.length=8∨t.length=16)∧smpB t=true
 few:ts.length≤4
/-- What is known of a kind of nodes: its inputs, the range of A (none if the first is greater), whether it has B. -/
structure Knd where
 inputs:Int
 low:Int
 high:Int
 linear:Bool
 hasB:Bool
def kndL:List Knd:= [⟨0,0,3,true,false⟩,⟨0,-2147483648,2147483647,false,false⟩,⟨2,1,0,true,false⟩,⟨2,1,0,true,false⟩,⟨1,-2147483648,2147483647,true,false⟩,⟨1,1,16,true,false⟩,⟨1,1,0,true,false⟩,⟨1,1,0,true,false⟩,⟨2,1,0,false,false⟩,⟨1,0,31,false,false⟩,⟨1,0,2147483647,false,false⟩,⟨1,-2147483648,2147483647,false,false⟩,⟨1,0,3,false,false⟩,⟨0,-2147483648,2147483647,false,false⟩,⟨3,1,0,false,false⟩,⟨2,1,0,false,false⟩,⟨1,-2147483648,2147483647,true,true⟩]
def kndF (k:Int):Knd:=kndL.getD (k - 1).toNat ⟨0,0,0,false,false⟩
structure NodeOk (x:GNode) (tables:Int):Prop where
 kind:inB x.zD 1 17=true
 a:if (kndF x.zD).low≤(kndF x.zD).high then inB x.fA (kndF x.zD).low (kndF x.zD).high=true else x.fA=0
 b:if (kndF x.zD).hasB then inB x.fB 1 16=true else x.fB=0
 from_:Each x.zH fun _ f=>inB f 0 23=true
 arity:(x.zH.length:Int)=(kndF x.zD).inputs
 table:x.zD=13→x.fA<tables
structure FormedOk (p:GPatch):Prop where
 inputs:inB p.zK 0 4=true
 tables:TablesOk p.zM
 few:p.zB.length≤24
 outs:p.zL.length≤4
 outputs:Idx p.zL (p.zB.length:Int)
 nodes:Each p.zB fun _ x=>NodeOk x (p.zM.length:Int)∧Idx x.zH (p.zB.length:Int)∧(x.zD=1→x.fA<p.zK)
/-- The nodes that a node waits for. -/
def waitsF (x:GNode):List Int:=if x.zD=6 then [] else x.zH
def readyB (nodes:List GNode) (out:List Int) (i:Nat):Bool:= !out.contains (i:Int) && ((nodes[i]?).map fun x=>(waitsF x).all fun f=>out.contains f).getD false
def nextF (nodes:List GNode) (out:List Int):Option Nat:=(List.range nodes.length).find? (readyB nodes out)
/-- The order in which nodes are computed: the first steps. -/
def yY (nodes:List GNode):Nat→List Int
 |0=> []
 |k+1=>match nextF nodes (yY nodes k) with
  |some i=>yY nodes k++ [(i:Int)]
  |none=>yY nodes k
def orderF (nodes:List GNode):List Int:=yY nodes nodes.length
theorem ordNodes_stop {nodes:List GNode} {k:Nat} (h:nextF nodes (yY nodes k)=none): ∀ m,yY nodes (k+m)=yY nodes k:=by
 intro m
 induction m with
 |zero=>rfl
 |succ m ih=>
  rw[←Nat.add_assoc]
  simp only[yY]
  rw[ih,h]
theorem ordNodes_len {nodes:List GNode} : ∀ k,(yY nodes k).length≤k
 |0=>Nat.le_refl _
 |k+1=>by
  have ih:=ordNodes_len (nodes:=nodes) k
  simp only[yY]
  split
  ·simp;omega
  ·omega
theorem nextF_some {nodes:List GNode} {out:List Int} {i:Nat} (hi:i<nodes.length) (hr:readyB nodes out i=true) (hb: ∀ j,j<i→readyB nodes out j=false):nextF nodes out=some i:=by
 unfold nextF
 rw[List.find?_eq_some_iff_getElem]
 refine⟨hr,i,by simpa using hi,by simp,fun j hj=>by simp[hb j hj]⟩
theorem nextF_none {nodes:List GNode} {out:List Int} (hb: ∀ j,j<nodes.length→readyB nodes out j=false):nextF nodes out=none:=by
 unfold nextF
 rw[List.find?_eq_none]
 intro j hj
 simp[hb j (by simpa using hj)]
theorem nextF_inv {nodes:List GNode} {out:List Int} {i:Nat} (h:nextF nodes out=some i):i<nodes.length∧readyB nodes out i=true:=by
 unfold nextF at h
 exact⟨by simpa using List.mem_of_find?_eq_some h,List.find?_some h⟩
theorem ordNodes_in {nodes:List GNode} : ∀ k,(yY nodes k).Nodup∧ ∀ x ∈ yY nodes k,0≤x∧x<(nodes.length:Int)
 |0=>by simp[yY]
 |k+1=>by
  obtain⟨h1,h2⟩:=ordNodes_in (nodes:=nodes) k
  simp only[yY]
  split
  ·next i h=>
   obtain⟨hi,hr⟩:=nextF_inv h
   have hn:(i:Int) ∉ yY nodes k:=by
    simp only[readyB,Bool.and_eq_true,Bool.not_eq_true'] at hr
    simpa using hr.1
   refine⟨?_,?_⟩
   ·rw[List.nodup_append]
    refine⟨h1,by simp,fun a ha b hb e=>?_⟩
    simp at hb
    subst hb e
    exact hn ha
   ·intro x hx
    rcases List.mem_append.1 hx with hx|hx
    ·exact h2 x hx
    ·simp at hx;subst hx;omega
  ·exact⟨h1,h2⟩
theorem nodup_range: ∀ (n:Nat) (l:List Nat),l.Nodup→(∀ x ∈ l,x<n)→l.length≤n
 |0,[],_,_=>Nat.le_refl _
 |0,x :: _,_,h=>absurd (h x (by simp)) (by omega)
 |n+1,l,h1,h2=>by
  by_cases hm:n ∈ l
  ·have h3:=nodup_range n (l.erase n) (h1.erase n) (fun x hx=>by
    have:=(h1.mem_erase_iff).1 hx
    have h4:=h2 x this.2
    have h5:=this.1
    omega)
   rw[List.length_erase_of_mem hm] at h3
   omega
  ·have h3:=nodup_range n l h1 (fun x hx=>by
    have h4:=h2 x hx
    have:x≠n:=fun e=>hm (e ▸ hx)
    omega)
   omega
theorem nodup_bound {n:Nat} {l:List Int} (h1:l.Nodup) (h2: ∀ x ∈ l,0≤x∧x<(n:Int)):l.length≤n:=by
 have h3:(l.map Int.toNat).Nodup:=by
  rw[List.Nodup,List.pairwise_map]
  refine List.Pairwise.imp_of_mem ?_ h1
  intro a b ha hb hab e
  have:=h2 a ha
  have:=h2 b hb
  omega
 have:=nodup_range n _ h3 (fun x hx=>by
  obtain⟨y,hy,rfl⟩:=List.mem_map.1 hx
  have:=h2 y hy
  omega)
 simpa using this
theorem ordNodes_cap {nodes:List GNode} (k:Nat):(yY nodes k).length≤nodes.length:=nodup_bound (ordNodes_in k).1 (ordNodes_in k).2
/-- Where the order stops, it has stopped for good. -/
theorem orderF_of_stop {nodes:List GNode} {k:Nat} (h:nextF nodes (yY nodes k)=none) (hk:(yY nodes k).length=k):orderF nodes=yY nodes k:=by
 have hc:=ordNodes_cap (nodes:=nodes) k
 unfold orderF
 rw[show nodes.length=k+(nodes.length - k) by omega]
 exact ordNodes_stop h _
theorem ordNodes_snoc {nodes:List GNode} {k i:Nat} (h:nextF nodes (yY nodes k)=some i):yY nodes (k+1)=yY nodes k++ [(i:Int)]:=by
 simp only[yY,h]
structure PatchOk (p:GPatch):Prop where
 formed:FormedOk p
 order:(orderF p.zB).length=p.zB.length
def noPatch:GPatch:=⟨0,[],[],[]⟩
def EffectOk (p:GPatch):Prop:=p=noPatch∨(PatchOk p∧p.zK=1∧p.zL.length=1)
structure SessionOk (s:GSession):Prop where
 length:inB s.zG 0 1000=true
 sources:SourcesOk s.zN
 few:s.zO.length≤6
 mixer:MixerOk s.zF
 feed:s.zS.length=s.zO.length
 feeds:Idx s.zS (s.zF.zC.length:Int)
 effect:s.zP.length=s.zF.zC.length
 tracks:Each s.zO fun _ t=>TrackOk t∧Each t.zQ fun _ c=>c.zT<(s.zN.length:Int)
 effects:Each s.zP fun _ p=>EffectOk p
def blocksF (n:Int):Int:=(n+15) / 16
structure CacheOk (c:GCache):Prop where
 session:SessionOk c.zE
 length:(c.zY.length:Int)=c.zE.zG
 mix:smpB c.zY=true
 dirty:Each c.zW fun i b=>(0≤b∧b≤blocksF c.zE.zG - 1)∧ ∀ p,0<i→c.zW[i - 1]?=some p→p<b
end Go.Proofs.YtoibekfhepnedaaGreat
end
section
namespace Go.Proofs.YtoibekfhepnedaaGreat
open Go.RowKit
theorem T.yM {w:World} {E:TypeId} {sz:Nat} {α:Type} {tr:α→T} {xs:List α} {v:Value} (h:T.rd w (.sl E sz (xs.map tr)) [v]):
  ∃ A cap,v= .slice A xs.length cap∧xs.length≤cap∧cap≤9223372036854775807∧
   (∀ k x,xs[k]?=some x→ ∃ b off cs,A=some ⟨b,off,none⟩∧b<w.heap.size∧T.rd w (tr x) cs∧ ∀ j u,cs[j]?=some u→w.cell? ⟨b,off+(k * sz+j),none⟩=some u):=by
 obtain⟨A,cap,hv,h1,h2,h3⟩:=T.yN h
 rw[List.length_map] at hv h1
 exact⟨A,cap,hv,h1,h2,fun k x hk=>h3 k (tr x) (by rw[List.getElem?_map,hk];rfl)⟩
theorem T.rds_below' {w w':World} {x:List T} {cs:List Value} (h:T.rds w x cs) (hb:Below w.heap.size w w'):T.rds w' x cs:=T.rds_keep hb.size hb.block x cs h
/-- The struct's cells lie from place o of block b on. -/
def T.at (w:World) (fs:List T) (b o:Nat):Prop:=b<w.heap.size∧ ∃ cs,T.rds w fs cs∧ ∀ j u,cs[j]?=some u→w.cell? ⟨b,o+j,none⟩=some u
theorem T.at_below {w w':World} {fs:List T} {b o:Nat} (h:T.at w fs b o) (hb:Below w.heap.size w w'):T.at w' fs b o:=by
 obtain⟨h1,cs,h2,h3⟩:=h
 exact⟨Nat.lt_of_lt_of_le h1 hb.size,cs,T.rds_below' h2 hb,fun j u hj=>(hb.cell h1).trans (h3 j u hj)⟩
/-- An element of a slice, as a struct behind a pointer. -/
theorem T.at_elem {w:World} {fs:List T} {b off k sz o:Nat} {cs:List Value} (hb:b<w.heap.size) (h:T.rds w fs cs) (hc: ∀ j u,cs[j]?=some u→w.cell? ⟨b,off+(k * sz+j),none⟩=some u) (ho:o=off+k * sz):T.at w fs b o:=
 ⟨hb,cs,h,fun j u hj=>by rw[ho,Nat.add_assoc];exact hc j u hj⟩
/-- A block known whole, as a struct behind a pointer. -/
theorem T.at_bk {w:World} {fs:List T} {b:Nat} {t:TypeId} {cs:List Value} (hk:Bk w b t cs.toArray) (h:T.rds w fs cs):T.at w fs b 0:=
 ⟨hk.lt,cs,h,fun j u hj=>by rw[Nat.zero_add,hk.cell j];simpa using hj⟩
theorem yP {a b:Int} (h:a≠b):(a == b)=false:=beq_false_of_ne h
theorem yQ {a b:Int} (h:a=b):(a == b)=true:=by simp[h]
theorem bneI_t {a b:Int} (h:a≠b):(a != b)=true:=by simp[h]
theorem bneI_f {a b:Int} (h:a=b):(a != b)=false:=by simp[h]
/-- Any world in which what lies in W still lies as it did. -/
noncomputable def bel (W u:World):World:= @ite _ (Below W.heap.size W u) (Classical.propDecidable _) u W
theorem yG (W u:World):Below W.heap.size W (bel W u):=by
 unfold bel
 split
 ·assumption
 ·exact Below.refl _ _
theorem bel_of {W u:World} (h:Below W.heap.size W u):u=bel W u:=by
 unfold bel
 rw[if_pos h]
theorem yF {W:World} {b o:Nat} {v:Value} (h:W.cell? ⟨b,o,none⟩=some v): ∀ u,(bel W u).cell? ⟨b,o,none⟩=some v:=fun u=>
 ((yG W u).cell (World.block_lt_of_cell? W _ h)).trans h
theorem xB {W:World} {g:Nat} {t:TypeId} {cs:Array Value} (h:Bk W g t cs): ∀ u i,(bel W u).cell? ⟨g,i,none⟩=cs[i]?:=fun u i=>
 (h.below (yG W u) h.lt).cell i
/-- A region that draws its order, whose operations and calls leave what was there as it was: one walk in the order of the text. -/
theorem xA {P:Program} {id:Nat} {Q:Exit→Act→World→Prop} {a:Act} {w:World} {l:List Oper} (hm:P.follows .mixedOrders=true) (hB:Region.lexB .any l.toArray=true)
  (h:wpQuiet P l.toArray (fun w'=> ∃ u,w'=bel w u) (fun a'=> ∀ w',(∃ u,w'=bel w u)→Q .normal a' w') l a):(Code.region id l.toArray true).wp P Q a w:=
 wp_region_quiet (C:=fun w'=> ∃ u,w'=bel w u) hm hB ⟨_,bel_of ⟨rfl,rfl,rfl,Nat.le_refl _,fun _ _=>rfl⟩⟩ (by simpa using h)
theorem Calls.yK {P:Program} {f:FuncId} {args:Array Value} {w u:World} {v:Value}
  (h:Calls P f args (bel w u) fun e w'=>e= .returned v∧Below (bel w u).heap.size (bel w u) w'):Calls P f args (bel w u) fun e w''=>e= .returned v∧ ∃ m,w''=bel w m:=
 h.mono fun _ w' ⟨he,hb⟩=>⟨he,w',bel_of (yI (yG w u) (yG w u).size hb)⟩
theorem Calls.yJ {P:Program} {f:FuncId} {args:Array Value} {w u:World} {v:Value}
  (h:Calls P f args (bel w u) fun e w'=>e= .returned v∧bel w u=w'):Calls P f args (bel w u) fun e w''=>e= .returned v∧ ∃ m,w''=bel w m:=
 h.mono fun _ w' ⟨he,hb⟩=>⟨he,u,hb.symm⟩
end Go.Proofs.YtoibekfhepnedaaGreat
end
section
namespace Go.Proofs.YtoibekfhepnedaaGreat
open Go.RowKit
theorem c_Wrap (n:Int) (w:World):Calls Tryz.prog 242 #[.int .i64 n] w fun e w'=>e= .returned (.int .i64 (wrp n))∧w=w':=by
 have hs:=wrp_smp n
 unfold Smp at hs
 go_enter Tryz.func242,Tryz.ntmps242
 go_wp2
 go_ret
 exact⟨ret_int (by rw[wrp_eq];exact IntWalk.wrap64_in _ (by omega)),rfl⟩
theorem c_l01Wrap (n:Int) (w:World):Calls Tryz.prog 156 #[.int .i64 n] w fun e w'=>e= .returned (.int .i64 (wrp n))∧w=w':=by
 have ha:=and_32 n
 by_cases h:2147483647<n % 4294967296
 ·have HE:=hide (wrp_big n h)
  go_enter Tryz.func156,Tryz.ntmps156
  go_wp2
  go_ret
  exact⟨ret_int HE.out,rfl⟩
 ·have HE:=hide (wrp_small n (by omega))
  go_enter Tryz.func156,Tryz.ntmps156
  go_wp2
  go_ret
  exact⟨ret_int HE.out,rfl⟩
theorem c_l01Sub (a b:Int) (w:World):Calls Tryz.prog 289 #[.int .i64 a,.int .i64 b] w fun e w'=>e= .returned (.int .i64 (wrp (a - b)))∧w=w':=by
 have h1:=wrp_smp a
 have h2:=wrp_smp b
 unfold Smp at h1 h2
 go_enter Tryz.func289,Tryz.ntmps289
 go_wp2_with (go_at_call 156;refine(c_l01Wrap _ _).mono ?_;rintro e w' ⟨rfl,rfl⟩)
 go_ret
 exact⟨ret_int (wrp_sub a b),rfl⟩
theorem c_l00Own (v:Value) (xs:List Int) (w:World) (hr:RdI w v xs) (hn:xs.length≤1048576):Calls Tryz.prog 95 #[v] w fun e w'=> ∃ v',e= .returned v'∧OwI 2 w' w.heap.size v' xs∧Below w.heap.size w w':=by
 have HR:=hide hr;clear hr
 go_enter Tryz.func95,Tryz.ntmps95
 go_wp2_with (at_builtin;refine appm_i64 rfl _ _ rfl rfl (new_i64 w) rfl (Rd.alloc HR.out _) (by simp;omega) (by simp) ?_;intro v1 w1 ho hg hv)
 go_ret
 exact⟨_,rfl,by simpa using ho,below_own ((Below.refl _ _).alloc (Nat.le_refl _) _) (new_i64 w) hg (Nat.le_refl _) (by simp)⟩
theorem c_clone (v:Value) (xs:List Int) (w:World) (hr:RdI w v xs) (hn:xs.length≤1048576):Calls Tryz.prog 112 #[v] w fun e w'=> ∃ v',e= .returned v'∧OwI 2 w' w.heap.size v' xs∧Below w.heap.size w w':=by
 have HR:=hide hr;clear hr
 go_enter Tryz.func112,Tryz.ntmps112
 go_wp2_with (at_builtin;refine appm_i64 rfl _ _ rfl rfl (new_i64 w) rfl (Rd.alloc HR.out _) (by simp;omega) (by simp) ?_;intro v1 w1 ho hg hv)
 go_ret
 exact⟨_,rfl,by simpa using ho,below_own ((Below.refl _ _).alloc (Nat.le_refl _) _) (new_i64 w) hg (Nat.le_refl _) (by simp)⟩
end Go.Proofs.YtoibekfhepnedaaGreat
end
section
namespace Go.Proofs.YtoibekfhepnedaaGreat
open Go.RowKit
theorem c_size (v:Value) (xs:List Int) (w:World) (hr:RdI w v xs):Calls Tryz.prog 86 #[v] w fun e w'=>e= .returned (.int .i64 (xs.length:Int))∧w=w':=by
 obtain⟨A,cap,rfl,hl,hc,hx⟩:=hr.open_
 clear hx hr
 go_enter Tryz.func86,Tryz.ntmps86
 go_wp2
 go_ret
 exact⟨rfl,rfl⟩
end Go.Proofs.YtoibekfhepnedaaGreat
end
section
namespace Go.Proofs.YtoibekfhepnedaaGreat
open Go.RowKit
theorem yZ {n a b:Int} :inB n a b=true↔a≤n∧n≤b:=by simp[inB]
theorem inB_not {n a b:Int} (h:inB n a b=false) (k:a≤n∧n≤b):False:=by simp[inB] at h;omega
theorem c_areIndices (v:Value) (xs:List Int) (n:Int) (w:World) (hr:RdI w v xs) (h0:0≤n) (h1:n≤9223372036854775807):Calls Tryz.prog 105 #[v,.int .i64 n] w fun e w'=>e= .returned (.bool (tf (Idx xs n)))∧w=w':=by
 obtain⟨A,cap,rfl,hl,hc,hx⟩:=hr.open_
 have HX:=hide hx;clear hx hr
 go_enter Tryz.func105,Tryz.ntmps105
 go_wp2
 go_loop [9] (fun i=> ∃ k:Nat,k≤xs.length∧i= .int .i64 k∧Upto xs (fun _ x=>0≤x∧x≤n - 1) k) (fun i=>xs.length - (intOf i).toNat)
 case atStart=>exact⟨0,Nat.zero_le _,rfl,Upto.zero⟩
 case round=>
  obtain⟨k,hk,rfl,hs⟩:=hrel
  have HS:=hide hs;clear hs
  by_cases hlt:k<xs.length
  ·have hgk:=List.getElem?_eq_getElem hlt
   obtain⟨b,off,rfl,hb,hcell⟩:=HX.out k xs[k] hgk
   generalize xs[k]=x at *
   have HG:=hide hgk;clear hgk
   by_cases hq:inB x 0 (n - 1)=true
   ·go_wp2_with (go_at_call 89;refine(c_within _ _ _ _).mono ?_;rintro e w' ⟨rfl,rfl⟩)
    go_round
    case rel=>exact⟨k+1,by omega,by go_num,HS.out.step HG.out (yZ.1 hq)⟩
    case measure=>simp[intOf];omega
   ·have hq':inB x 0 (n - 1)=false:=by simpa using hq
    clear hq
    go_wp2_with (go_at_call 89;refine(c_within _ _ _ _).mono ?_;rintro e w' ⟨rfl,rfl⟩)
    go_ret
    exact⟨yH (yW (fun hh=>inB_not hq' (hh k x HG.out))).symm,rfl⟩
  ·have hall:=hide (HS.out.all (by omega))
   go_wp2
   go_ret
   exact⟨yH ((yX hall.out).symm),rfl⟩
theorem c_areSignals (v:Value) (xs:List (List Int)) (w:World) (hr:T.rd w (T.sl 26 1 (xs.map (T.ints 2))) [v]):Calls Tryz.prog 159 #[v] w fun e w'=>e= .returned (.bool (tf (Each xs fun _ l=>sigB l=true)))∧w=w':=by
 obtain⟨A,cap,rfl,hl,hc,hx⟩:=T.yM hr
 have HX:=hide hx;clear hx hr
 go_enter Tryz.func159,Tryz.ntmps159
 go_wp2
 go_loop [7] (fun i=> ∃ k:Nat,k≤xs.length∧i= .int .i64 k∧Upto xs (fun _ l=>sigB l=true) k) (fun i=>xs.length - (intOf i).toNat)
 case atStart=>exact⟨0,Nat.zero_le _,rfl,Upto.zero⟩
 case round=>
  obtain⟨k,hk,rfl,hs⟩:=hrel
  have HS:=hide hs;clear hs
  by_cases hlt:k<xs.length
  ·have hgk:=List.getElem?_eq_getElem hlt
   obtain⟨b,off,cs,rfl,hb,hcs,hcell⟩:=HX.out k xs[k] hgk
   generalize xs[k]=l at *
   have HG:=hide hgk;clear hgk
   obtain⟨v3,rfl⟩:=T.rd_one hcs
   have d0:=hcell 0 v3 rfl
   rw[Nat.mul_one,Nat.add_zero] at d0
   have R:=hide (T.yR.1 hcs);clear hcs hcell
   obtain⟨A3,c3,rfl,l3,m3,x3⟩:=R.out.open_
   clear x3
   by_cases hq:sigB l=true
   ·go_wp2_with (go_at_call 219;refine(c_isSignal _ l _ R.out).mono ?_;rintro e w' ⟨rfl,rfl⟩)
    go_round
    case rel=>exact⟨k+1,by omega,by go_num,HS.out.step HG.out hq⟩
    case measure=>simp[intOf];omega
   ·have hq':sigB l=false:=by simpa using hq
    clear hq
    go_wp2_with (go_at_call 219;refine(c_isSignal _ l _ R.out).mono ?_;rintro e w' ⟨rfl,rfl⟩)
    go_ret
    exact⟨yH (yW (fun hh=>by rw[hh k l HG.out] at hq';exact absurd hq' (by simp))).symm,rfl⟩
  ·have hall:=hide (HS.out.all (by omega));clear HS
   go_wp2
   go_ret
   exact⟨yH (yX hall.out).symm,rfl⟩
theorem c_areSources (v:Value) (xs:List (List Int)) (w:World) (hr:T.rd w (T.sl 26 1 (xs.map (T.ints 2))) [v]):Calls Tryz.prog 103 #[v] w fun e w'=>e= .returned (.bool (tf (SourcesOk xs)))∧w=w':=by
 have R:=hide hr
 obtain⟨A,cap,rfl,hl,hc,hx⟩:=T.yM hr
 clear hx hr
 by_cases h6:xs.length≤6
 ·go_enter Tryz.func103,Tryz.ntmps103
  go_wp2_with (go_at_call 159;refine(c_areSignals _ xs _ R.out).mono ?_;rintro e w' ⟨rfl,rfl⟩)
  go_ret
  exact⟨yH (tf_iff ⟨fun h=>⟨h,h6⟩,fun h=>h.each⟩),rfl⟩
 ·go_enter Tryz.func103,Tryz.ntmps103
  go_wp2
  go_ret
  exact⟨yH (yW fun h=>h6 h.few).symm,rfl⟩
theorem c_areTables (v:Value) (xs:List (List Int)) (w:World) (hr:T.rd w (T.sl 26 1 (xs.map (T.ints 2))) [v]):Calls Tryz.prog 261 #[v] w fun e w'=>e= .returned (.bool (tf (TablesOk xs)))∧w=w':=by
 obtain⟨A,cap,rfl,hl,hc,hx⟩:=T.yM hr
 have HX:=hide hx;clear hx hr
 go_enter Tryz.func261,Tryz.ntmps261
 go_wp2
 go_loop [8] (fun i=> ∃ k:Nat,k≤xs.length∧i= .int .i64 k∧Upto xs (fun _ t=>(t.length=2∨t.length=4∨t.length=8∨t.length=16)∧smpB t=true) k) (fun i=>xs.length - (intOf i).toNat)
 case atStart=>exact⟨0,Nat.zero_le _,rfl,Upto.zero⟩
 case round=>
  obtain⟨k,hk,rfl,hs⟩:=hrel
  have HS:=hide hs;clear hs
  by_cases hlt:k<xs.length
  ·have hgk:=List.getElem?_eq_getElem hlt
   obtain⟨b,off,cs,rfl,hb,hcs,hcell⟩:=HX.out k xs[k] hgk
   generalize xs[k]=l at *
   have HG:=hide hgk;clear hgk
   obtain⟨v3,rfl⟩:=T.rd_one hcs
   have d0:=hcell 0 v3 rfl
   rw[Nat.mul_one,Nat.add_zero] at d0
   have R:=hide (T.yR.1 hcs);clear hcs hcell
   obtain⟨A3,c3,rfl,l3,m3,x3⟩:=R.out.open_
   clear x3
   by_cases hn:l.length=2∨l.length=4∨l.length=8∨l.length=16
   ·by_cases hq:smpB l=true
    ·rcases hn with hn|hn|hn|hn
     ·skip
      have n2:((l.length:Int) != 2)=false:=by simp;omega
      clear hn
      have hn:l.length=2∨l.length=4∨l.length=8∨l.length=16:=by simp at n2;omega
      have HN:=hide hn;clear hn
      go_wp2_with (go_at_call 131;refine(c_areSamples _ l _ R.out).mono ?_;rintro e w' ⟨rfl,rfl⟩)
      go_round
      case rel=>exact⟨k+1,by omega,by go_num,HS.out.step HG.out ⟨HN.out,hq⟩⟩
      case measure=>simp[intOf];omega
     ·skip
      have n2:((l.length:Int) != 2)=true:=by simp;omega
      have n4:((l.length:Int) != 4)=false:=by simp;omega
      clear hn
      have hn:l.length=2∨l.length=4∨l.length=8∨l.length=16:=by simp at n4;omega
      have HN:=hide hn;clear hn
      go_wp2_with (go_at_call 131;refine(c_areSamples _ l _ R.out).mono ?_;rintro e w' ⟨rfl,rfl⟩)
      go_round
      case rel=>exact⟨k+1,by omega,by go_num,HS.out.step HG.out ⟨HN.out,hq⟩⟩
      case measure=>simp[intOf];omega
     ·skip
      have n2:((l.length:Int) != 2)=true:=by simp;omega
      have n4:((l.length:Int) != 4)=true:=by simp;omega
      have n8:((l.length:Int) != 8)=false:=by simp;omega
      clear hn
      have hn:l.length=2∨l.length=4∨l.length=8∨l.length=16:=by simp at n8;omega
      have HN:=hide hn;clear hn
      go_wp2_with (go_at_call 131;refine(c_areSamples _ l _ R.out).mono ?_;rintro e w' ⟨rfl,rfl⟩)
      go_round
      case rel=>exact⟨k+1,by omega,by go_num,HS.out.step HG.out ⟨HN.out,hq⟩⟩
      case measure=>simp[intOf];omega
     ·skip
      have n2:((l.length:Int) != 2)=true:=by simp;omega
      have n4:((l.length:Int) != 4)=true:=by simp;omega
      have n8:((l.length:Int) != 8)=true:=by simp;omega
      have n16:((l.length:Int) != 16)=false:=by simp;omega
      clear hn
      have hn:l.length=2∨l.length=4∨l.length=8∨l.length=16:=by simp at n16;omega
      have HN:=hide hn;clear hn
      go_wp2_with (go_at_call 131;refine(c_areSamples _ l _ R.out).mono ?_;rintro e w' ⟨rfl,rfl⟩)
      go_round
      case rel=>exact⟨k+1,by omega,by go_num,HS.out.step HG.out ⟨HN.out,hq⟩⟩
      case measure=>simp[intOf];omega
    ·have hq':smpB l=false:=by simpa using hq
     clear hq
     rcases hn with hn|hn|hn|hn
     ·skip
      have n2:((l.length:Int) != 2)=false:=by simp;omega
      clear hn
      go_wp2_with (go_at_call 131;refine(c_areSamples _ l _ R.out).mono ?_;rintro e w' ⟨rfl,rfl⟩)
      go_ret
      exact⟨yH (yW (fun hh=>by rw[(hh.each k l HG.out).2] at hq';exact absurd hq' (by simp))).symm,rfl⟩
     ·skip
      have n2:((l.length:Int) != 2)=true:=by simp;omega
      have n4:((l.length:Int) != 4)=false:=by simp;omega
      clear hn
      go_wp2_with (go_at_call 131;refine(c_areSamples _ l _ R.out).mono ?_;rintro e w' ⟨rfl,rfl⟩)
      go_ret
      exact⟨yH (yW (fun hh=>by rw[(hh.each k l HG.out).2] at hq';exact absurd hq' (by simp))).symm,rfl⟩
     ·skip
      have n2:((l.length:Int) != 2)=true:=by simp;omega
      have n4:((l.length:Int) != 4)=true:=by simp;omega
      have n8:((l.length:Int) != 8)=false:=by simp;omega
      clear hn
      go_wp2_with (go_at_call 131;refine(c_areSamples _ l _ R.out).mono ?_;rintro e w' ⟨rfl,rfl⟩)
      go_ret
      exact⟨yH (yW (fun hh=>by rw[(hh.each k l HG.out).2] at hq';exact absurd hq' (by simp))).symm,rfl⟩
     ·skip
      have n2:((l.length:Int) != 2)=true:=by simp;omega
      have n4:((l.length:Int) != 4)=true:=by simp;omega
      have n8:((l.length:Int) != 8)=true:=by simp;omega
      have n16:((l.length:Int) != 16)=false:=by simp;omega
      clear hn
      go_wp2_with (go_at_call 131;refine(c_areSamples _ l _ R.out).mono ?_;rintro e w' ⟨rfl,rfl⟩)
      go_ret
      exact⟨yH (yW (fun hh=>by rw[(hh.each k l HG.out).2] at hq';exact absurd hq' (by simp))).symm,rfl⟩
   ·have n2:((l.length:Int) != 2)=true:=by simp;omega
    have n4:((l.length:Int) != 4)=true:=by simp;omega
    have n8:((l.length:Int) != 8)=true:=by simp;omega
    have n16:((l.length:Int) != 16)=true:=by simp;omega
    go_wp2
    go_ret
    exact⟨yH (yW (fun hh=>hn (hh.each k l HG.out).1)).symm,rfl⟩
  ·have hall:=hide (HS.out.all (by omega));clear HS
   by_cases h4:xs.length≤4
   ·go_wp2
    go_ret
    exact⟨yH (by rw[yX ⟨hall.out,h4⟩];simp;omega),rfl⟩
   ·go_wp2
    go_ret
    exact⟨yH (by rw[yW fun h=>h4 h.few];simp;omega),rfl⟩
theorem c_isClip (x:GClip) (cs:List Value) (w:World) (h:T.rds w x.fs cs):Calls Tryz.prog 162 #[.agg cs.toArray] w fun e w'=>e= .returned (.bool (tf (ClipOk x)))∧Below w.heap.size w w':=by
 obtain rfl:=GClip.yN h
 clear h
 have HB0:=hide (show Below w.heap.size w (w.alloc (.cells #[.int .i64 x.zT,.int .i64 x.zH,.int .i64 x.zG,.int .i64 x.zX,.int .i64 x.zR] 39)) from(Below.refl _ _).alloc (Nat.le_refl _) _)
 have HK0:=hide (Bk.born w 39 #[.int .i64 x.zT,.int .i64 x.zH,.int .i64 x.zG,.int .i64 x.zX,.int .i64 x.zR])
 go_enter Tryz.func162,Tryz.ntmps162
 by_cases h1:inB x.zT 0 5=true
 rotate_left
 ·have hq:inB x.zT 0 5=false:=by simpa using h1
  go_wp2_with (go_at_call 89;refine(c_within _ _ _ _).mono ?_;rintro e w' ⟨rfl,rfl⟩)
  go_ret
  exact⟨yH (yW fun hh=>by exact h1 hh.source).symm,HB0.out⟩
 by_cases h2:inB x.zG 1 4000=true
 rotate_left
 ·have hq:inB x.zG 1 4000=false:=by simpa using h2
  go_wp2_with (go_at_call 89;refine(c_within _ _ _ _).mono ?_;rintro e w' ⟨rfl,rfl⟩)
  go_ret
  exact⟨yH (yW fun hh=>by exact h2 hh.length).symm,HB0.out⟩
 have hb:=yZ.1 h2
 by_cases h3:inB x.zH 0 (4000 - x.zG)=true
 rotate_left
 ·have hq:inB x.zH 0 (4000 - x.zG)=false:=by simpa using h3
  go_wp2_with (go_at_call 89;refine(c_within _ _ _ _).mono ?_;rintro e w' ⟨rfl,rfl⟩)
  go_ret
  exact⟨yH (yW fun hh=>by exact h3 hh.from_).symm,HB0.out⟩
 by_cases h4:inB x.zX 0 (4000 - x.zG)=true
 rotate_left
 ·have hq:inB x.zX 0 (4000 - x.zG)=false:=by simpa using h4
  go_wp2_with (go_at_call 89;refine(c_within _ _ _ _).mono ?_;rintro e w' ⟨rfl,rfl⟩)
  go_ret
  exact⟨yH (yW fun hh=>by exact h4 hh.at_).symm,HB0.out⟩
 by_cases h5:Smp x.zR
 rotate_left
 ·have hq:decide (Smp x.zR)=false:=by simpa using h5
  go_wp2_with (first|(go_at_call 89;refine(c_within _ _ _ _).mono ?_;rintro e w' ⟨rfl,rfl⟩)|(go_at_call 169;refine(c_isSample _ _).mono ?_;rintro e w' ⟨rfl,rfl⟩))
  go_ret
  exact⟨yH (yW fun hh=>by exact h5 hh.gain).symm,HB0.out⟩
 have hq:decide (Smp x.zR)=true:=by simpa using h5
 go_wp2_with (first|(go_at_call 89;refine(c_within _ _ _ _).mono ?_;rintro e w' ⟨rfl,rfl⟩)|(go_at_call 169;refine(c_isSample _ _).mono ?_;rintro e w' ⟨rfl,rfl⟩))
 go_ret
 exact⟨yH (by rw[yX ⟨h1,h2,h3,h4,h5⟩]),HB0.out⟩
end Go.Proofs.YtoibekfhepnedaaGreat
end
section
namespace Go.Proofs.YtoibekfhepnedaaGreat
open Go.RowKit
end Go.Proofs.YtoibekfhepnedaaGreat
end
