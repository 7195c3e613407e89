/- The mix of a session, in plain words. Edits, in plain words. Edits taken back, in plain words. The range of an edit, in plain words. Contracts: states and what rings, by the program. Contracts: the fields of an edit, program. Contract: l31Fields. Contracts: states, by the reference. Contracts: sums and delays of signals, both sides. Contracts: delays of signals; what a node gets in a frame, both sides. Contract: what a node gets in a frame, by the program's player. -/
import Derived.Test.YtoibekfhepnedaaGreatQAoExactMakeCache
import Derived.Test.YtoibekfhepnedaaGreatQAbExactMakeCache
import Derived.Test.YtoibekfhepnedaaGreatQAmExactMakeCache
import Derived.Test.YtoibekfhepnedaaGreatQAcExactMakeCache
import Derived.Test.YtoibekfhepnedaaGreatQAjExactMakeCache
import Derived.Test.YtoibekfhepnedaaGreatQAfExactMakeCache
import Derived.Test.YtoibekfhepnedaaGreatQArExactMakeCache
import Derived.Test.YtoibekfhepnedaaGreatQAqExactMakeCache
set_option linter.unusedVariables false
set_option linter.unusedSimpArgs false
set_option maxHeartbeats 2000000
set_option maxRecDepth 100000
namespace Go.Proofs.YtoibekfhepnedaaGreat
section
open Go.RowKit
/-- A signal behind some zeros, of a length. -/
def lateF (a:List Int) (by_ n:Nat):List Int:=cutL (List.replicate by_ 0++a) 0 n
/-- A signal plus a multiple of another one. -/
def addS (a b:List Int) (g:Int):List Int:=(List.range (max a.length b.length)).map fun(i:Nat)=>wrp (wR a (i:Int)+g * wR b (i:Int))
theorem length_addS (a b:List Int) (g:Int):(addS a b g).length=max a.length b.length:=by simp[addS]
theorem smp_addS {a b:List Int} {g:Int} : ∀ x ∈ addS a b g,Smp x:=by
 intro x hx
 unfold addS at hx
 obtain⟨i,_,rfl⟩:=List.mem_map.1 hx
 exact uM _
theorem smpAt_smp {a:List Int} (h: ∀ x ∈ a,Smp x) (i:Int):Smp (wR a i):=by
 unfold wR
 split
 ·next c=>
  rw[List.getD_eq_getElem?_getD]
  cases e:a[i.toNat]? with
  |none=>exact⟨by decide,by decide⟩
  |some x=>exact h x (List.mem_of_getElem? e)
 ·exact⟨by decide,by decide⟩
theorem uA (a:List Int) (b n:Nat):(lateF a b n).length=n:=length_cutL _ _ _
theorem smp_cutL {a:List Int} {f:Int} {n:Nat} (h: ∀ x ∈ a,Smp x): ∀ x ∈ cutL a f n,Smp x:=by
 intro x hx
 unfold cutL at hx
 obtain⟨i,_,rfl⟩:=List.mem_map.1 hx
 exact smpAt_smp h _
theorem smp_lateF {a:List Int} {b n:Nat} (h: ∀ x ∈ a,Smp x): ∀ x ∈ lateF a b n,Smp x:=
 smp_cutL (fun x hx=>by
  rcases List.mem_append.1 hx with hx|hx
  ·rw[(List.mem_replicate.1 hx).2];exact⟨by decide,by decide⟩
  ·exact h x hx)
/-- The program's way: the front of what stands behind zeros. -/
theorem lateF_take {a:List Int} {b:Nat} :(List.replicate b 0++a).take a.length=lateF a b a.length:=by
 apply List.ext_getElem?
 intro i
 unfold lateF cutL
 by_cases hi:i<a.length
 ·rw[List.getElem?_take_of_lt hi,List.getElem?_map,List.getElem?_range hi]
  have hl:i<(List.replicate b (0:Int)++a).length:=by simp;omega
  have e:=gE hl
  have:=smpAt_in e
  rw[e]
  simp only[Option.map_some,Int.zero_add]
  rw[this]
 ·rw[List.getElem?_eq_none (by simp;omega),List.getElem?_eq_none (by simp;omega)]
section
variable (c:xL) (src:List Int)
/-- A clip is added to a signal: its first samples. -/
def uH (out:List Int):Nat→List Int
 |0=>out
 |k+1=>(uH out k).set (c.zX.toNat+k) (wrp ((uH out k).getD (c.zX.toNat+k) 0+c.zS * wR src (c.zH+(k:Int))))
/-- How many samples of a clip lie ahead of an end. -/
def clipN (n:Nat):Nat:=min c.zF.toNat (n - c.zX.toNat)
end
theorem length_clipUp {c:xL} {src out:List Int} : ∀ k,(uH c src out k).length=out.length
 |0=>rfl
 |k+1=>by simp[uH,length_clipUp k]
theorem smp_clipUp {c:xL} {src out:List Int} (h: ∀ x ∈ out,Smp x): ∀ k,∀ x ∈ uH c src out k,Smp x
 |0=>h
 |k+1=>fun x hx=>by
  rcases List.mem_or_eq_of_mem_set hx with hx|rfl
  ·exact smp_clipUp h k x hx
  ·exact uM _
/-- The signal of a track: the first clips. -/
def wV (sources:List (List Int)) (l:List xL) (n:Nat):Nat→List Int
 |0=>List.replicate n 0
 |k+1=>match l[k]? with
  |some c=>uH c (sources.getD c.zU.toNat []) (wV sources l n k) (clipN c n)
  |none=>wV sources l n k
def uS (sources:List (List Int)) (t:xI) (n:Nat):List Int:=wV sources t.zR n t.zR.length
theorem uT {ss:List (List Int)} {l:List xL} {n:Nat} : ∀ k,(wV ss l n k).length=n
 |0=>by simp[wV]
 |k+1=>by
  simp only[wV]
  split
  ·rw[length_clipUp,uT k]
  ·exact uT k
theorem smp_zeros {n:Nat} : ∀ x ∈ List.replicate n (0:Int),Smp x:=fun x hx=>by rw[(List.mem_replicate.1 hx).2];exact⟨by decide,by decide⟩
theorem smp_trackUp {ss:List (List Int)} {l:List xL} {n:Nat} : ∀ k,∀ x ∈ wV ss l n k,Smp x
 |0=>smp_zeros
 |k+1=>by
  simp only[wV]
  split
  ·exact smp_clipUp (smp_trackUp k) _
  ·exact smp_trackUp k
/-- Entry times: the first sends of a strip, the first strips. -/
def entS (i:Nat) (lat:Int) (out:List Int) (l:List xM):Nat→List Int
 |0=>out
 |k+1=>match l[k]? with
  |some s=>(entS i lat out l k).set s.zW.toNat (max ((entS i lat out l k).getD s.zW.toNat 0) ((entS i lat out l k).getD i 0+lat))
  |none=>entS i lat out l k
def vH (l:List xH):Nat→List Int
 |0=>List.replicate l.length 0
 |k+1=>match l[k]? with
  |some x=>entS k x.zI (vH l k) x.zM x.zM.length
  |none=>vH l k
def xV (m:xU):List Int:=vH m.zC m.zC.length
theorem length_entS {i:Nat} {lat:Int} {out:List Int} {l:List xM} : ∀ k,(entS i lat out l k).length=out.length
 |0=>rfl
 |k+1=>by
  simp only[entS]
  split
  ·rw[List.length_set,length_entS k]
  ·exact length_entS k
theorem zEz {l:List xH} : ∀ k,(vH l k).length=l.length
 |0=>by simp[vH]
 |k+1=>by
  simp only[vH]
  split
  ·rw[length_entS,zEz k]
  ·exact zEz k
theorem vG (m:xU):(xV m).length=m.zC.length:=zEz _
/-- Numbers from 0 to a bound. -/
def Upper (l:List Int) (B:Int):Prop:= ∀ i,0≤l.getD i 0∧l.getD i 0≤B
theorem Upper.of_zeros {n:Nat} {B:Int} (h:0≤B):Upper (List.replicate n 0) B:=fun i=>by
 rw[List.getD_eq_getElem?_getD,List.getElem?_replicate]
 split<;>simp<;>omega
theorem Upper.mono {l:List Int} {B C:Int} (h:Upper l B) (hc:B≤C):Upper l C:=fun i=>⟨(h i).1,Int.le_trans (h i).2 hc⟩
theorem entS_upper {i:Nat} {lat:Int} {out:List Int} {l:List xM} {B:Int} (h: ∀ j,0≤out.getD j 0) (hi:out.getD i 0+lat≤B) (hl:0≤lat) (hb:Upper out B) (hto: ∀ s ∈ l,s.zW.toNat≠i):
  ∀ k,Upper (entS i lat out l k) B∧(entS i lat out l k).getD i 0=out.getD i 0
 |0=>⟨hb,rfl⟩
 |k+1=>by
  obtain⟨h1,h2⟩:=entS_upper h hi hl hb hto k
  simp only[entS]
  split
  ·next s hs=>
   have hn:=hto s (List.mem_of_getElem? hs)
   refine⟨fun j=>?_,by rw[lgetD_ne hn];exact h2⟩
   by_cases e:s.zW.toNat=j
   ·subst e
    by_cases hl:s.zW.toNat<(entS i lat out l k).length
    ·rw[lgetD_self hl,h2]
     have:=h1 s.zW.toNat
     have:=h i
     omega
    ·rw[List.set_eq_of_length_le (by omega)]
     exact h1 _
   ·rw[lgetD_ne e];exact h1 j
  ·exact⟨h1,h2⟩
/-- Entry times are at most 32 for each strip ahead. -/
theorem entUp_upper {l:List xH} (hl: ∀ x ∈ l,0≤x.zI∧x.zI≤32) (hto: ∀ (i:Nat) (x:xH),l[i]?=some x→ ∀ s ∈ x.zM,s.zW.toNat≠i): ∀ k,Upper (vH l k) (32 * (k:Int))
 |0=>Upper.of_zeros (by omega)
 |k+1=>by
  have ih:=entUp_upper hl hto k
  simp only[vH]
  split
  ·next x hx=>
   have h1:=hl x (List.mem_of_getElem? hx)
   refine(entS_upper (B:=32 * ((k+1:Nat):Int)) (fun j=>(ih j).1) ?_ h1.1 (ih.mono (by omega)) (hto k x hx) _).1
   have:=(ih k).2
   omega
  ·exact ih.mono (by omega)
theorem vX {m:xU} (h:vU m) {i:Nat} {x:xH} (hx:m.zC[i]?=some x): ∀ (k:Nat) (s:xM),x.zM[k]?=some s→(i:Int)<s.zW∧s.zW<(m.zC.length:Int)∧(0<k→ ∀ p,x.zM[k - 1]?=some p→p.zW<s.zW):=by
 have hs:=(h.each i x hx).1.sends.each
 intro k
 induction k with
 |zero=>
  intro s h0
  have:=uL.1 (hs 0 s h0).1
  unfold befS at this
  rw[if_pos rfl] at this
  exact⟨by omega,by omega,fun h=>absurd h (by omega)⟩
 |succ k ih=>
  intro s h1
  have:=uL.1 (hs (k+1) s h1).1
  unfold befS at this
  rw[if_neg (by omega),Nat.add_sub_cancel] at this
  have hk:k<x.zM.length:=by have:=(List.getElem?_eq_some_iff.1 h1).1;omega
  have hg:=gE hk
  have h2:=ih _ hg
  rw[List.getD_eq_getElem?_getD,hg] at this
  simp only[Option.getD_some] at this
  refine⟨by omega,by omega,fun _ p hp=>?_⟩
  rw[Nat.add_sub_cancel,hg] at hp
  injection hp with hp
  rw[←hp]
  omega
theorem zBz {m:xU} (h:vU m):Upper (xV m) 256:=by
 refine(entUp_upper (fun x hx=>?_) (fun i x hx s hs e=>?_) _).mono (by have:=h.few;omega)
 ·obtain⟨i,hi⟩:=List.mem_iff_getElem?.1 hx
  exact uL.1 (h.each i x hi).1.latency
 ·obtain⟨k,hk⟩:=List.mem_iff_getElem?.1 hs
  have:=vX h hx k s hk
  omega
/-- What each send waits. -/
def uD (times:List Int) (i:Nat) (x:xH) (s:xM):Int:=times.getD s.zW.toNat 0 - times.getD i 0 - x.zI
def wX (m:xU):List (List Int):=m.zC.mapIdx fun i x=>x.zM.map (uD (xV m) i x)
def vN (m:xU):Int:=(xV m).getD (m.zC.length - 1) 0+(m.zC.getD (m.zC.length - 1) ⟨ByteArray.empty,0,[]⟩).zI
/-- The inputs of all strips: what the first tracks bring. -/
def feedUp (s:xK) (n:Nat):Nat→List (List Int)
 |0=>List.replicate s.zG.zC.length (List.replicate n 0)
 |k+1=>match s.zO[k]?,s.zQ[k]? with
  |some t,some f=>(feedUp s n k).set f.toNat (addS ((feedUp s n k).getD f.toNat []) (lateF (uS s.zL t s.zF.toNat) ((xV s.zG).getD f.toNat 0).toNat n) 1)
  |_,_=>feedUp s n k
noncomputable def effF (p:xG) (y:List Int) (n:Nat):List Int:=if p=uP then y else (renderF p [y] n).getD 0 []
/-- What a strip's first sends bring. -/
def uF (y:List Int) (n:Nat) (waits:List Int) (l:List xM) (ins:List (List Int)):Nat→List (List Int)
 |0=>ins
 |k+1=>match l[k]? with
  |some s=>(uF y n waits l ins k).set s.zW.toNat (addS ((uF y n waits l ins k).getD s.zW.toNat []) (lateF y (waits.getD k 0).toNat n) s.zS)
  |none=>uF y n waits l ins k
noncomputable def wL (s:xK) (n:Nat) (ins:List (List Int)) (i:Nat) (x:xH):List Int:=lateF (effF (s.zP.getD i uP) (ins.getD i []) n) x.zI.toNat n
/-- The inputs and the outputs behind the first strips. -/
noncomputable def xP (s:xK) (n:Nat):Nat→List (List Int) × List (List Int)
 |0=>(feedUp s n s.zO.length,[])
 |k+1=>match s.zG.zC[k]? with
  |some x=>(uF (wL s n (xP s n k).1 k x) n ((wX s.zG).getD k []) x.zM (xP s n k).1 x.zM.length,(xP s n k).2++ [wL s n (xP s n k).1 k x])
  |none=>xP s n k
noncomputable def outsF (s:xK):List (List Int):=(xP s (s.zF+vN s.zG).toNat s.zG.zC.length).2
noncomputable def mixF (s:xK):List Int:=cutL ((outsF s).getD (s.zG.zC.length - 1) []) (vN s.zG) s.zF.toNat
end
section
open Go.RowKit
def uK:xK:=⟨0,[],[],[],[],⟨[]⟩⟩
end
section
open Go.RowKit
end
section
open Go.RowKit
/-- The state of a node at the beginning. -/
def vF (x:xJ):List Int:=
 if x.zD=6 then List.replicate x.fA.toNat 0
 else if x.zD=17 then List.replicate x.fB.toNat 0
 else if x.zD=7∨x.zD=8∨x.zD=16 then [0]
 else if x.zD=12∨x.zD=14 then [x.fA]
 else []
end
section
open Go.RowKit
theorem ow_lit1 (E:TypeId) (w:World) (n:Int):OwI E (w.alloc (.cells #[.int .i64 n] E)) w.heap.size (.slice (some ⟨w.heap.size,0,none⟩) 1 1) [n]:=
 ⟨rfl,.inr ⟨w.heap.size,1,#[.int .i64 n],rfl,Nat.le_refl _,heap_alloc_new w _,Nat.le_refl _,by decide,rfl,by simp⟩⟩
theorem c_zeros0 (n:Nat) (w:World) (hn:n≤1048576):Calls Tryz.prog 193 #[.int .i64 (n:Int)] w fun e w'=>e= .returned (.slice (some ⟨w.heap.size,0,none⟩) n n)∧OwI 2 w' w.heap.size (.slice (some ⟨w.heap.size,0,none⟩) n n) (List.replicate n 0)∧Below w.heap.size w w':=by
 obtain⟨i0,hi,hz0,hz1,hz2⟩:=info_parts info_i64
 go_enter Tryz.func193,Tryz.ntmps193
 go_wp2_with (at_make;refine wpList_make_full _ rfl _ _ _ rfl w.heap.size 2 i0 _ 1 Tryz.underlying26 hi hz0 hz1 .i64 .i64 _ _ n rfl rfl rfl rfl (by rw[hz2];omega) (by unfold maxLen;omega) (Nat.le_refl _) ?_;intro w1 hown1 hg1)
 have ho1:OwI 2 w1 w.heap.size _ _:=OwI.made _ w1 (n:=n) hg1.size (by unfold maxLen;omega) 0 hown1
 have hb1:Below w.heap.size w w1:=(Below.refl _ _).grown hg1 (Nat.le_refl _) (by simp)
 clear hown1 hg1
 have HO:=hide ho1;have HB:=hide hb1;clear ho1 hb1
 go_wp2
 go_ret
 exact⟨rfl,HO.out,HB.out⟩
theorem c_start (x:xJ) (cs:List Value) (w:World) (h6:x.zD=6→0≤x.fA∧x.fA≤16) (h17:x.zD=17→0≤x.fB∧x.fB≤16) (h:T.rds w x.fs cs):Calls Tryz.prog 228 #[.agg cs.toArray] w fun e w'=> ∃ v,e= .returned v∧OwI 2 w' w.heap.size v (vF x)∧Below w.heap.size w w':=by
 obtain⟨v3,rfl,h3⟩:=xJ.yO h
 clear h
 have h3i:=T.yT.1 h3;obtain⟨va3,vc3,rfl,vl3,vm3,vx3⟩:=h3i.open_
 have R3:=hide h3i;have HX3:=hide vx3;clear vx3 h3 h3i
 have HB0:=hide (show Below w.heap.size w (w.alloc (.cells #[.int .i64 x.zD,.int .i64 x.fA,.int .i64 x.fB,(.slice va3 x.zH.length vc3)] 167)) from(Below.refl _ _).alloc (Nat.le_refl _) _)
 have HK0:=hide (Bk.born w 167 #[.int .i64 x.zD,.int .i64 x.fA,.int .i64 x.fB,(.slice va3 x.zH.length vc3)])
 have H6:=hide h6;have H17:=hide h17;clear h6 h17
 have ZE:=hide (fun(a:Int) (n:Nat) (h:a=(n:Int)) (hn:n≤1048576) (W:World)=>(h ▸ c_zeros0 n W hn:Calls Tryz.prog 193 #[.int .i64 a] W fun e w'=>e= .returned (.slice (some ⟨W.heap.size,0,none⟩) n n)∧OwI 2 w' W.heap.size (.slice (some ⟨W.heap.size,0,none⟩) n n) (List.replicate n 0)∧Below W.heap.size W w'))
 go_enter Tryz.func228,Tryz.ntmps228
 by_cases k6:x.zD=6
 ·
  have q6:(x.zD == 6)=true:=yS k6
  obtain⟨m,hm⟩: ∃ m:Nat,x.fA=(m:Int):=⟨x.fA.toNat,by have:=H6.out k6;omega⟩
  have h16:=H6.out k6;have HM:=hide hm;clear hm;have hm16:m≤16:=by have:=HM.out;omega
  have HS:Sec (vF x=List.replicate m 0):=hide (by unfold vF;rw[if_pos k6,HM.out,Int.toNat_natCast]);clear k6 h16
  go_wp2_with fail
  refine(ZE.out _ _ HM.out (by omega) _).mono ?_;rintro e w1 ⟨rfl,ho,hb⟩
  have HO:=hide (OwI.more ho HB0.out.size);have HB:=hide (yJ HB0.out HB0.out.size hb);clear ho hb
  go_wp2
  go_ret
  exact⟨.slice (some ⟨w.heap.size+1,0,none⟩) m m,rfl,by rw[HS.out];simpa using HO.out,HB.out⟩
 have q6:(x.zD == 6)=false:=yR k6
 by_cases k17:x.zD=17
 ·
  have q17:(x.zD == 17)=true:=yS k17
  obtain⟨m,hm⟩: ∃ m:Nat,x.fB=(m:Int):=⟨x.fB.toNat,by have:=H17.out k17;omega⟩
  have h16:=H17.out k17;have HM:=hide hm;clear hm;have hm16:m≤16:=by have:=HM.out;omega
  have HS:Sec (vF x=List.replicate m 0):=hide (by unfold vF;rw[if_neg k6,if_pos k17,HM.out,Int.toNat_natCast]);clear k6 k17 h16
  go_wp2_with fail
  refine(ZE.out _ _ HM.out (by omega) _).mono ?_;rintro e w1 ⟨rfl,ho,hb⟩
  have HO:=hide (OwI.more ho HB0.out.size);have HB:=hide (yJ HB0.out HB0.out.size hb);clear ho hb
  go_wp2
  go_ret
  exact⟨.slice (some ⟨w.heap.size+1,0,none⟩) m m,rfl,by rw[HS.out];simpa using HO.out,HB.out⟩
 have q17:(x.zD == 17)=false:=yR k17
 by_cases k7:x.zD=7
 ·
  have q7:(x.zD == 7)=true:=yS k7
  have HS:Sec (vF x=List.replicate 1 0):=hide (by unfold vF;rw[if_neg k6,if_neg k17,if_pos (by omega)];rfl)
  clear k6 k17 k7
  go_wp2_with fail
  refine(ZE.out _ _ (show (1:Int)=((1:Nat):Int) from rfl) (by omega) _).mono ?_;rintro e w1 ⟨rfl,ho,hb⟩
  have HO:=hide (OwI.more ho HB0.out.size);have HB:=hide (yJ HB0.out HB0.out.size hb);clear ho hb
  go_wp2
  go_ret
  exact⟨.slice (some ⟨w.heap.size+1,0,none⟩) 1 1,rfl,by rw[HS.out];simpa using HO.out,HB.out⟩
 have q7:(x.zD == 7)=false:=yR k7
 by_cases k8:x.zD=8
 ·
  have q8:(x.zD == 8)=true:=yS k8
  have HS:Sec (vF x=List.replicate 1 0):=hide (by unfold vF;rw[if_neg k6,if_neg k17,if_pos (by omega)];rfl)
  clear k6 k17 k8 k7
  go_wp2_with fail
  refine(ZE.out _ _ (show (1:Int)=((1:Nat):Int) from rfl) (by omega) _).mono ?_;rintro e w1 ⟨rfl,ho,hb⟩
  have HO:=hide (OwI.more ho HB0.out.size);have HB:=hide (yJ HB0.out HB0.out.size hb);clear ho hb
  go_wp2
  go_ret
  exact⟨.slice (some ⟨w.heap.size+1,0,none⟩) 1 1,rfl,by rw[HS.out];simpa using HO.out,HB.out⟩
 have q8:(x.zD == 8)=false:=yR k8
 by_cases k16:x.zD=16
 ·
  have q16:(x.zD == 16)=true:=yS k16
  have HS:Sec (vF x=List.replicate 1 0):=hide (by unfold vF;rw[if_neg k6,if_neg k17,if_pos (by omega)];rfl)
  clear k6 k17 k16 k7 k8
  go_wp2_with fail
  refine(ZE.out _ _ (show (1:Int)=((1:Nat):Int) from rfl) (by omega) _).mono ?_;rintro e w1 ⟨rfl,ho,hb⟩
  have HO:=hide (OwI.more ho HB0.out.size);have HB:=hide (yJ HB0.out HB0.out.size hb);clear ho hb
  go_wp2
  go_ret
  exact⟨.slice (some ⟨w.heap.size+1,0,none⟩) 1 1,rfl,by rw[HS.out];simpa using HO.out,HB.out⟩
 have q16:(x.zD == 16)=false:=yR k16
 by_cases k12:x.zD=12
 ·
  have q12:(x.zD == 12)=true:=yS k12
  have HS:Sec (vF x= [x.fA]):=hide (by unfold vF;rw[if_neg k6,if_neg k17,if_neg (by omega),if_pos (by omega)])
  clear k6 k17 k7 k8 k16 k12
  have HB:=hide (HB0.out.alloc HB0.out.size (.cells #[.int .i64 x.fA] 2))
  have HO:Sec (OwI 2 ((w.alloc (.cells #[.int .i64 x.zD,.int .i64 x.fA,.int .i64 x.fB,(.slice va3 x.zH.length vc3)] 167)).alloc (.cells #[.int .i64 x.fA] 2)) w.heap.size (.slice (some ⟨(w.alloc (.cells #[.int .i64 x.zD,.int .i64 x.fA,.int .i64 x.fB,(.slice va3 x.zH.length vc3)] 167)).heap.size,0,none⟩) 1 1) [x.fA]):=hide (OwI.more (ow_lit1 _ _ _) HB0.out.size)
  go_wp2
  go_ret
  exact⟨.slice (some ⟨w.heap.size+1,0,none⟩) 1 1,rfl,by rw[HS.out];simpa using HO.out,HB.out⟩
 have q12:(x.zD == 12)=false:=yR k12
 by_cases k14:x.zD=14
 ·
  have q14:(x.zD == 14)=true:=yS k14
  have HS:Sec (vF x= [x.fA]):=hide (by unfold vF;rw[if_neg k6,if_neg k17,if_neg (by omega),if_pos (by omega)])
  clear k6 k17 k7 k8 k16 k14 k12
  have HB:=hide (HB0.out.alloc HB0.out.size (.cells #[.int .i64 x.fA] 2))
  have HO:Sec (OwI 2 ((w.alloc (.cells #[.int .i64 x.zD,.int .i64 x.fA,.int .i64 x.fB,(.slice va3 x.zH.length vc3)] 167)).alloc (.cells #[.int .i64 x.fA] 2)) w.heap.size (.slice (some ⟨(w.alloc (.cells #[.int .i64 x.zD,.int .i64 x.fA,.int .i64 x.fB,(.slice va3 x.zH.length vc3)] 167)).heap.size,0,none⟩) 1 1) [x.fA]):=hide (OwI.more (ow_lit1 _ _ _) HB0.out.size)
  go_wp2
  go_ret
  exact⟨.slice (some ⟨w.heap.size+1,0,none⟩) 1 1,rfl,by rw[HS.out];simpa using HO.out,HB.out⟩
 have q14:(x.zD == 14)=false:=yR k14
 have HS:Sec (vF x=List.replicate 0 0):=hide (by unfold vF;rw[if_neg k6,if_neg k17,if_neg (by omega),if_neg (by omega)];rfl)
 clear k6 k17 k7 k8 k16 k12 k14
 go_wp2_with fail
 refine(ZE.out _ _ (show (0:Int)=((0:Nat):Int) from rfl) (by omega) _).mono ?_;rintro e w1 ⟨rfl,ho,hb⟩
 have HO:=hide (OwI.more ho HB0.out.size);have HB:=hide (yJ HB0.out HB0.out.size hb);clear ho hb
 go_wp2
 go_ret
 exact⟨.slice (some ⟨w.heap.size+1,0,none⟩) 0 0,rfl,by rw[HS.out];simpa using HO.out,HB.out⟩
end
section
open Go.RowKit
end
section
open Go.RowKit
end
section
open Go.RowKit
theorem c_l03Zeros0 (n:Nat) (w:World) (hn:n≤1048576):Calls Tryz.prog 184 #[.int .i64 (n:Int)] w fun e w'=> ∃ v',e= .returned v'∧OwI 2 w' w.heap.size v' (List.replicate n 0)∧Below w.heap.size w w':=by
 go_enter Tryz.func184,Tryz.ntmps184
 go_wp2
 go_loopw [0,3] (fun m o wr=> ∃ k:Nat,k≤n∧m= .int .i64 (k:Int)∧OwI 2 wr w.heap.size o (List.replicate (n - k) 0)∧Below w.heap.size w wr) (fun m _ _=>(intOf m).toNat)
 case atStart=>exact⟨n,Nat.le_refl _,rfl,by rw[Nat.sub_self];exact vC w,(Below.refl _ _).alloc (Nat.le_refl _) _⟩
 case round=>
  obtain⟨k,hk,rfl,ho,hb⟩:=hrel
  have HO:=hide ho;have HB:=hide hb;have hsz:=hb.size;clear ho hb
  by_cases h0:0<k
  ·have HR:=hide (show List.replicate (n - k) (0:Int)++ [0]=List.replicate (n - (k - 1)) 0 by
    rw[show n - (k - 1)=(n - k)+1 by omega,←List.replicate_succ'])
   have hl:(List.replicate (n - k) (0:Int)).length+1≤17592186044416:=by rw[List.length_replicate];omega
   go_wp2_with (at_builtin;refine uQ rfl _ _ rfl rfl HO.out rfl hl hsz ?_;intro v5 w5 ho5 hg5 hv5;have hb5:=wW HB.out HO.out hg5 (Nat.le_refl _) hsz;have HO5:=hide ho5;have HB5:=hide hb5;clear ho5 hb5 hg5 hv5)
   go_roundw
   case rel=>exact⟨k - 1,by omega,by go_num,by rw[←HR.out];exact HO5.out,HB5.out⟩
   case measure=>first|(simp[intOf];done)|(simp[intOf];omega)
  ·obtain rfl:k=0:=by omega
   go_wp2
   go_ret
   exact⟨_,rfl,by have:=HO.out;rw[Nat.sub_zero] at this;exact this,HB.out⟩
theorem c_l06Start (x:xJ) (b o:Nat) (w:World) (h6:x.zD=6→0≤x.fA∧x.fA≤16) (h17:x.zD=17→0≤x.fB∧x.fB≤16) (h:T.at w x.fs b o):Calls Tryz.prog 270 #[.pointer (some ⟨b,o,none⟩)] w fun e w'=> ∃ v,e= .returned v∧OwI 2 w' w.heap.size v (vF x)∧Below w.heap.size w w':=by
 have HAT:=hide h
 obtain⟨hlt0,cs,hr,hc⟩:=h
 obtain⟨v3,rfl,h3⟩:=xJ.yO hr
 clear hr
 have h3i:=T.yT.1 h3;obtain⟨va3,vc3,rfl,vl3,vm3,vx3⟩:=h3i.open_
 have R3:=hide h3i;have HX3:=hide vx3;clear vx3 h3 h3i
 have HL:=hide hlt0;have HCC:=hide hc;have HB0:=hide (Below.refl w.heap.size w);clear hlt0 hc
 have H6:=hide h6;have H17:=hide h17;clear h6 h17
 have ZE:=hide (fun(a:Int) (n:Nat) (h:a=(n:Int)) (hn:n≤1048576) (W:World)=>(h ▸ c_l03Zeros0 n W hn:Calls Tryz.prog 184 #[.int .i64 a] W fun e w'=> ∃ v',e= .returned v'∧OwI 2 w' W.heap.size v' (List.replicate n 0)∧Below W.heap.size W w'))
 have p0:w.cell? ⟨b,o,none⟩=some (.int .i64 x.zD):=(HB0.out.cell HL.out).trans (HCC.out 0 _ rfl)
 have p1:w.cell? ⟨b,o+1,none⟩=some (.int .i64 x.fA):=(HB0.out.cell HL.out).trans (HCC.out 1 _ rfl)
 have p2:w.cell? ⟨b,o+2,none⟩=some (.int .i64 x.fB):=(HB0.out.cell HL.out).trans (HCC.out 2 _ rfl)
 have p3:w.cell? ⟨b,o+3,none⟩=some (.slice va3 x.zH.length vc3):=(HB0.out.cell HL.out).trans (HCC.out 3 _ rfl)
 have lb:b<w.heap.size:=lL HL.out HB0.out.size
 go_enter Tryz.func270,Tryz.ntmps270
 by_cases k6:x.zD=6
 ·
  have q6:(x.zD == 6)=true:=yS k6
  obtain⟨m,hm⟩: ∃ m:Nat,x.fA=(m:Int):=⟨x.fA.toNat,by have:=H6.out k6;omega⟩
  have h16:=H6.out k6;have HM:=hide hm;clear hm;have hm16:m≤16:=by have:=HM.out;omega
  have HS:Sec (vF x=List.replicate m 0):=hide (by unfold vF;rw[if_pos k6,HM.out,Int.toNat_natCast]);clear k6 h16
  go_wp2_with fail
  refine(ZE.out _ _ HM.out (by omega) _).mono ?_;rintro e w1 ⟨v,rfl,ho,hb⟩
  have HO:=hide ho;have HB:=hide hb;clear ho hb
  go_wp2
  go_ret
  exact⟨_,rfl,by rw[HS.out];exact HO.out,HB.out⟩
 have q6:(x.zD == 6)=false:=yR k6
 by_cases k17:x.zD=17
 ·
  have q17:(x.zD == 17)=true:=yS k17
  obtain⟨m,hm⟩: ∃ m:Nat,x.fB=(m:Int):=⟨x.fB.toNat,by have:=H17.out k17;omega⟩
  have h16:=H17.out k17;have HM:=hide hm;clear hm;have hm16:m≤16:=by have:=HM.out;omega
  have HS:Sec (vF x=List.replicate m 0):=hide (by unfold vF;rw[if_neg k6,if_pos k17,HM.out,Int.toNat_natCast]);clear k6 k17 h16
  go_wp2_with fail
  refine(ZE.out _ _ HM.out (by omega) _).mono ?_;rintro e w1 ⟨v,rfl,ho,hb⟩
  have HO:=hide ho;have HB:=hide hb;clear ho hb
  go_wp2
  go_ret
  exact⟨_,rfl,by rw[HS.out];exact HO.out,HB.out⟩
 have q17:(x.zD == 17)=false:=yR k17
 by_cases k7:x.zD=7
 ·
  have q7:(x.zD == 7)=true:=yS k7
  have HS:Sec (vF x= [0]):=hide (by unfold vF;rw[if_neg k6,if_neg k17,if_pos (by omega)])
  clear k6 k17 k7
  go_wp2
  go_ret
  exact⟨_,rfl,by rw[HS.out];exact ow_lit1 _ _ _,(Below.refl _ _).alloc (Nat.le_refl _) _⟩
 have q7:(x.zD == 7)=false:=yR k7
 by_cases k8:x.zD=8
 ·
  have q8:(x.zD == 8)=true:=yS k8
  have HS:Sec (vF x= [0]):=hide (by unfold vF;rw[if_neg k6,if_neg k17,if_pos (by omega)])
  clear k6 k17 k8 k7
  go_wp2
  go_ret
  exact⟨_,rfl,by rw[HS.out];exact ow_lit1 _ _ _,(Below.refl _ _).alloc (Nat.le_refl _) _⟩
 have q8:(x.zD == 8)=false:=yR k8
 by_cases k16:x.zD=16
 ·
  have q16:(x.zD == 16)=true:=yS k16
  have HS:Sec (vF x= [0]):=hide (by unfold vF;rw[if_neg k6,if_neg k17,if_pos (by omega)])
  clear k6 k17 k16 k7 k8
  go_wp2
  go_ret
  exact⟨_,rfl,by rw[HS.out];exact ow_lit1 _ _ _,(Below.refl _ _).alloc (Nat.le_refl _) _⟩
 have q16:(x.zD == 16)=false:=yR k16
 by_cases k12:x.zD=12
 ·
  have q12:(x.zD == 12)=true:=yS k12
  have HS:Sec (vF x= [x.fA]):=hide (by unfold vF;rw[if_neg k6,if_neg k17,if_neg (by omega),if_pos (by omega)])
  clear k6 k17 k12 k7 k8 k16
  go_wp2
  go_ret
  exact⟨_,rfl,by rw[HS.out];exact ow_lit1 _ _ _,(Below.refl _ _).alloc (Nat.le_refl _) _⟩
 have q12:(x.zD == 12)=false:=yR k12
 by_cases k14:x.zD=14
 ·
  have q14:(x.zD == 14)=true:=yS k14
  have HS:Sec (vF x= [x.fA]):=hide (by unfold vF;rw[if_neg k6,if_neg k17,if_neg (by omega),if_pos (by omega)])
  clear k6 k17 k14 k7 k8 k16 k12
  go_wp2
  go_ret
  exact⟨_,rfl,by rw[HS.out];exact ow_lit1 _ _ _,(Below.refl _ _).alloc (Nat.le_refl _) _⟩
 have q14:(x.zD == 14)=false:=yR k14
 have HS:Sec (vF x= []):=hide (by unfold vF;rw[if_neg k6,if_neg k17,if_neg (by omega),if_neg (by omega)])
 clear k6 k17 k7 k8 k16 k12 k14
 go_wp2
 go_ret
 exact⟨_,rfl,by rw[HS.out];exact vC _,(Below.refl _ _).alloc (Nat.le_refl _) _⟩
end
section
open Go.RowKit
def addN (a b:List Int) (g:Int) (k:Nat):List Int:=(List.range k).map fun(i:Nat)=>wrp (wR a (i:Int)+g * wR b (i:Int))
theorem addN_snoc (a b:List Int) (g:Int) (k:Nat):addN a b g (k+1)=addN a b g k++ [wrp (wR a (k:Int)+g * wR b (k:Int))]:=by
 unfold addN;rw[List.range_succ,List.map_append];rfl
theorem length_addN (a b:List Int) (g:Int) (k:Nat):(addN a b g k).length=k:=by simp[addN]
def addZ (a b:List Int) (g:Int) (n k:Nat):List Int:=addN a b g k++List.replicate (n - k) 0
theorem length_addZ {a b:List Int} {g:Int} {n k:Nat} (h:k≤n):(addZ a b g n k).length=n:=by simp[addZ,length_addN];omega
theorem addZ_none (a b:List Int) (g:Int) (n:Nat):addZ a b g n 0=List.replicate n 0:=by simp[addZ,addN]
theorem addZ_full (a b:List Int) (g:Int) (n:Nat):addZ a b g n n=addN a b g n:=by simp[addZ]
theorem addZ_set {a b:List Int} {g:Int} {n k:Nat} (h:k<n):(addZ a b g n k).set k (wrp (wR a (k:Int)+g * wR b (k:Int)))=addZ a b g n (k+1):=by
 unfold addZ
 rw[addN_snoc,List.set_append_right _ _ (by rw[length_addN];exact Nat.le_refl _),length_addN,Nat.sub_self]
 have:n - k=(n - (k+1))+1:=by omega
 rw[this,List.replicate_succ,List.set_cons_zero]
 simp
theorem wrp_inner (x y:Int):wrp (x+wrp y)=wrp (x+y):=wrp_mod (by unfold wrp;omega)
theorem add_in {a b:List Int} {g:Int} (ha: ∀ x ∈ a,Smp x) (hb: ∀ x ∈ b,Smp x) (hg:Smp g) (k:Int):IntKind.i64.wrap (g * wR b k)=g * wR b k∧IntKind.i64.wrap (wR a k+g * wR b k)=wR a k+g * wR b k∧Smp (wR a k)∧Smp (wR b k):=by
 have h1:=smpAt_smp ha k
 have h2:=smpAt_smp hb k
 have h3:=smp_mul hg h2
 refine⟨IntWalk.i64_in _ (by omega),IntWalk.i64_in _ (by unfold Smp at h1;omega),h1,h2⟩
theorem c_l03Add (v u:Value) (a b:List Int) (g:Int) (w:World) (ha:RdI w v a) (hb:RdI w u b) (sa: ∀ x ∈ a,Smp x) (sb: ∀ x ∈ b,Smp x) (sg:Smp g) (na:a.length≤1048576) (nb:b.length≤1048576):Calls Tryz.prog 186 #[v,u,.int .i64 g] w fun e w'=> ∃ v',e= .returned v'∧OwI 2 w' w.heap.size v' (addS a b g)∧Below w.heap.size w w':=by
 have HA:=hide ha;have HBB:=hide hb
 obtain⟨A,cap,rfl,hl,hc,_⟩:=ha.open_
 obtain⟨A2,cap2,rfl,hl2,hc2,_⟩:=hb.open_
 clear ha hb
 obtain⟨n,hn⟩: ∃ n:Nat,max a.length b.length=n:=⟨_,rfl⟩
 have hm:max (a.length:Int) (b.length:Int)=(n:Int):=by omega
 have hn2:n≤1048576:=by omega
 have HALL:=hide (show addN a b g n=addS a b g by rw[←hn];rfl)
 have HS:=hide (add_in sa sb sg)
 have HM:=hide hm;clear hm hn sa sb
 go_enter Tryz.func186,Tryz.ntmps186
 go_wp2_with (go_at_call 213;refine(c_qMax _ _ _).mono ?_;rintro e w' ⟨rfl,rfl⟩;rw[HM.out])
 have HO0:=hide (vC w);have HB0:=hide (show Below w.heap.size w (w.alloc (.cells #[] 2)) from(Below.refl _ _).alloc (Nat.le_refl _) _)
 go_loopw [7,9] (fun r i wr=> ∃ k:Nat,k≤n∧i= .int .i64 (k:Int)∧OwI 2 wr w.heap.size r (addN a b g k)∧Below w.heap.size w wr) (fun _ i _=>n - (intOf i).toNat)
 case atStart=>exact⟨0,Nat.zero_le _,rfl,HO0.out,HB0.out⟩
 case round=>
  obtain⟨k,hk,rfl,ho,hbw⟩:=hrel
  have HO:=hide ho;have HB:=hide hbw;have hsz:=hbw.size;clear ho hbw
  by_cases hlt:k<n
  ·have hll:(addN a b g k).length+1≤17592186044416:=by rw[length_addN];omega
   obtain⟨q1,q2,q3,q4⟩:=HS.out (k:Int)
   have HQ3:=hide q3;have HQ4:=hide q4;clear q1 q2 q3 q4
   have HEQ:=hide (show wrp (wR a (k:Int)+wrp (wR b (k:Int) * g))=wrp (wR a (k:Int)+g * wR b (k:Int)) by rw[wrp_inner,Int.mul_comm (wR b (k:Int)) g])
   go_wp2_with fail
   refine(c_l03At _ a _ _ (Rd.below HA.out HB.out)).mono ?_;rintro e w' ⟨rfl,rfl⟩
   go_wp2_with fail
   refine(c_l03At _ b _ _ (Rd.below HBB.out HB.out)).mono ?_;rintro e w' ⟨rfl,rfl⟩
   go_wp2_with (first|(go_at_call 239;refine(c_l01Mul _ _ _ HQ4.out sg).mono ?_;rintro e w' ⟨rfl,rfl⟩)|(go_at_call 238;refine(c_mAdd _ _ _ HQ3.out (uM _)).mono ?_;rintro e w' ⟨rfl,rfl⟩;rw[HEQ.out])|(at_builtin;refine uQ (n:=wrp (wR a (k:Int)+g * wR b (k:Int))) rfl _ _ rfl rfl HO.out rfl hll hsz ?_;intro v8 w8 ho8 hg8 hv8;have HO8:=hide ho8;have HB8:=hide (HB.out.grown hg8 hsz (fun j hj=>(HO.out.lt j hj).1));clear ho8 hg8 hv8))
   go_roundw
   case rel=>exact⟨k+1,by omega,by go_num,by rw[addN_snoc];exact HO8.out,HB8.out⟩
   case measure=>simp[intOf];omega
  ·obtain rfl:k=n:=by omega
   go_wp2
   go_ret
   exact⟨_,rfl,by rw[←HALL.out];exact HO.out,HB.out⟩
theorem c_addTimes (v u:Value) (a b:List Int) (g:Int) (w:World) (ha:RdI w v a) (hb:RdI w u b) (sa: ∀ x ∈ a,Smp x) (sb: ∀ x ∈ b,Smp x) (sg:Smp g) (na:a.length≤1048576) (nb:b.length≤1048576):Calls Tryz.prog 195 #[v,.int .i64 g,u] w fun e w'=> ∃ v',e= .returned v'∧OwI 2 w' w.heap.size v' (addS a b g)∧Below w.heap.size w w':=by
 have HA:=hide ha;have HBB:=hide hb
 obtain⟨A,cap,rfl,hl,hc,_⟩:=ha.open_
 obtain⟨A2,cap2,rfl,hl2,hc2,_⟩:=hb.open_
 clear ha hb
 obtain⟨n,hn⟩: ∃ n:Nat,max a.length b.length=n:=⟨_,rfl⟩
 have hn2:n≤1048576:=by omega
 have HALL:=hide (show addN a b g n=addS a b g by rw[←hn];rfl)
 have HS:=hide (add_in sa sb sg)
 clear sa sb
 rcases Nat.lt_or_ge a.length b.length with hcmp|hcmp
 ·obtain rfl:n=b.length:=by omega
  have q0:(a.length:Int)<(b.length:Int)∨(b.length:Int)≤(a.length:Int):=by omega
  have q1:(a.length:Int)<(b.length:Int):=by omega
  have HZ:=hide (fun W=>vV b.length W hn2)
  clear hn q0
  go_enter Tryz.func195,Tryz.ntmps195
  go_wp2_with fail
  refine(vP _ a _ HA.out).mono ?_;rintro e w' ⟨rfl,rfl⟩
  go_wp2_with fail
  refine(vP _ b _ HBB.out).mono ?_;rintro e w' ⟨rfl,rfl⟩
  go_wp2_with fail
  refine(HZ.out _).mono ?_;rintro e w1 ⟨rfl,ho1,hb1⟩
  generalize hnn:b.length=n at *
  have HO1:=hide (show OwI 2 w1 w.heap.size (.slice (some ⟨w.heap.size,0,none⟩) n n) (addZ a b g n 0) by rw[addZ_none];exact ho1)
  have HB1:=hide hb1;clear ho1 hb1
  go_wp2
  go_loopw [17] (fun i wr=> ∃ k:Nat,k≤n∧i= .int .i64 k∧OwI 2 wr w.heap.size (.slice (some ⟨w.heap.size,0,none⟩) n n) (addZ a b g n k)∧Below w.heap.size w wr) (fun i _=>n - (intOf i).toNat)
  case atStart=>exact⟨0,Nat.zero_le _,rfl,HO1.out,HB1.out⟩
  case round=>
   obtain⟨k,hk,rfl,ho,hbw⟩:=hrel
   have HO:=hide ho;have HB:=hide hbw;have hsz:=hbw.size;clear ho hbw
   by_cases hlt:k<n
   ·obtain⟨e1,e2,_,_⟩:=HS.out (k:Int)
    have fr:=HO.out.freeN k
    have n1:((k:Int)<(n:Int)):=by omega
    have hlk:k<(addZ a b g n k).length:=by rw[length_addZ hk];exact hlt
    have hck:=hide (HO.out.cellN (gE hlk))
    have ck:=hck.out
    generalize (addZ a b g n k)[k]=z0 at *
    go_wp2_with fail
    refine(c_at _ a _ _ (by omega) (Rd.below HA.out HB.out)).mono ?_;rintro e w' ⟨rfl,rfl⟩
    go_wp2_with fail
    refine(c_at _ b _ _ (by omega) (Rd.below HBB.out HB.out)).mono ?_;rintro e w' ⟨rfl,rfl⟩
    go_wp2_with ((go_at_call 242;refine(c_Wrap _ _).mono ?_;rintro e w' ⟨rfl,rfl⟩))
    have HO2:=hide (HO.out.setN k (wrp (wR a (k:Int)+g * wR b (k:Int))))
    have HG2:=hide (HO.out.grownN k (.int .i64 (wrp (wR a (k:Int)+g * wR b (k:Int)))))
    go_roundw
    case rel=>exact⟨k+1,by omega,by go_num,by rw[←addZ_set hlt];exact HO2.out,HB.out.grown HG2.out hsz (fun j hj=>by injection hj with hj;omega)⟩
    case measure=>simp[intOf];omega
   ·obtain rfl:k=n:=by omega
    go_wp2
    go_ret
    exact⟨_,rfl,by rw[←HALL.out,←addZ_full];exact HO.out,HB.out⟩
 ·obtain rfl:n=a.length:=by omega
  have q0:(a.length:Int)<(b.length:Int)∨(b.length:Int)≤(a.length:Int):=by omega
  have q1:(b.length:Int)≤(a.length:Int):=by omega
  have HZ:=hide (fun W=>vV a.length W hn2)
  clear hn q0
  go_enter Tryz.func195,Tryz.ntmps195
  go_wp2_with fail
  refine(vP _ a _ HA.out).mono ?_;rintro e w' ⟨rfl,rfl⟩
  go_wp2_with fail
  refine(vP _ b _ HBB.out).mono ?_;rintro e w' ⟨rfl,rfl⟩
  go_wp2_with fail
  refine(HZ.out _).mono ?_;rintro e w1 ⟨rfl,ho1,hb1⟩
  generalize hnn:a.length=n at *
  have HO1:=hide (show OwI 2 w1 w.heap.size (.slice (some ⟨w.heap.size,0,none⟩) n n) (addZ a b g n 0) by rw[addZ_none];exact ho1)
  have HB1:=hide hb1;clear ho1 hb1
  go_wp2
  go_loopw [17] (fun i wr=> ∃ k:Nat,k≤n∧i= .int .i64 k∧OwI 2 wr w.heap.size (.slice (some ⟨w.heap.size,0,none⟩) n n) (addZ a b g n k)∧Below w.heap.size w wr) (fun i _=>n - (intOf i).toNat)
  case atStart=>exact⟨0,Nat.zero_le _,rfl,HO1.out,HB1.out⟩
  case round=>
   obtain⟨k,hk,rfl,ho,hbw⟩:=hrel
   have HO:=hide ho;have HB:=hide hbw;have hsz:=hbw.size;clear ho hbw
   by_cases hlt:k<n
   ·obtain⟨e1,e2,_,_⟩:=HS.out (k:Int)
    have fr:=HO.out.freeN k
    have n1:((k:Int)<(n:Int)):=by omega
    have hlk:k<(addZ a b g n k).length:=by rw[length_addZ hk];exact hlt
    have hck:=hide (HO.out.cellN (gE hlk))
    have ck:=hck.out
    generalize (addZ a b g n k)[k]=z0 at *
    go_wp2_with fail
    refine(c_at _ a _ _ (by omega) (Rd.below HA.out HB.out)).mono ?_;rintro e w' ⟨rfl,rfl⟩
    go_wp2_with fail
    refine(c_at _ b _ _ (by omega) (Rd.below HBB.out HB.out)).mono ?_;rintro e w' ⟨rfl,rfl⟩
    go_wp2_with ((go_at_call 242;refine(c_Wrap _ _).mono ?_;rintro e w' ⟨rfl,rfl⟩))
    have HO2:=hide (HO.out.setN k (wrp (wR a (k:Int)+g * wR b (k:Int))))
    have HG2:=hide (HO.out.grownN k (.int .i64 (wrp (wR a (k:Int)+g * wR b (k:Int)))))
    go_roundw
    case rel=>exact⟨k+1,by omega,by go_num,by rw[←addZ_set hlt];exact HO2.out,HB.out.grown HG2.out hsz (fun j hj=>by injection hj with hj;omega)⟩
    case measure=>simp[intOf];omega
   ·obtain rfl:k=n:=by omega
    go_wp2
    go_ret
    exact⟨_,rfl,by rw[←HALL.out,←addZ_full];exact HO.out,HB.out⟩
end
section
open Go.RowKit
theorem own_cut {E:TypeId} {w:World} {B g n cap m:Nat} {xs:List Int} (h:OwI E w B (.slice (some ⟨g,0,none⟩) n cap) xs) (hm:m≤xs.length):OwI E w B (.slice (some ⟨g,0,none⟩) m cap) (xs.take m):=by
 unfold OwI at *
 have hl:(xs.take m).length=m:=by simp;omega
 refine⟨by simp,?_⟩
 rcases h.2 with ⟨h',_⟩|⟨g',cap',cur,h',hb,hg,hn,hmx,hsz,ht⟩
 ·cases h'
 ·injection h' with h1 h2 h3
  injection h1 with h1
  injection h1 with h1
  subst h1 h3
  rw[hl]
  refine .inr ⟨g,cap,cur,rfl,hb,hg,by omega,hmx,hsz,?_⟩
  rw[List.map_take,←ht,List.take_take]
  congr 1
  omega
theorem own_front {E:TypeId} {w:World} {B l c m:Nat} {t:Option Addr} {xs:List Int} (h:OwI E w B (.slice t l c) xs) (hm:m≤xs.length):OwI E w B (.slice t m c) (xs.take m):=by
 have h2:=h
 unfold OwI at h2
 rcases h2.2 with ⟨h',h0⟩|⟨g',cap',cur,h',_⟩
 ·injection h' with h1 h3 h4
  subst h1 h4
  obtain rfl:m=0:=by omega
  have:xs= []:=List.eq_nil_of_length_eq_zero h0
  subst this
  exact World.ownsRow_nil w B E 1
 ·injection h' with h1 h3 h4
  subst h1
  exact own_cut h hm
theorem c_l27Late (v:Value) (a:List Int) (b n:Nat) (w:World) (ha:RdI w v a) (na:a.length≤1048576) (hb:b≤1048576) (hn:n≤1048576):Calls Tryz.prog 187 #[v,.int .i64 (b:Int),.int .i64 (n:Int)] w fun e w'=> ∃ v',e= .returned v'∧OwI 2 w' w.heap.size v' (lateF a b n)∧Below w.heap.size w w':=by
 have HA:=hide ha;clear ha
 go_enter Tryz.func187,Tryz.ntmps187
 go_wp2_with fail
 refine(c_l03Zeros0 b _ hb).mono ?_;rintro e w1 ⟨v1,rfl,ho,hb1⟩
 have HO1:=hide ho;have HB1:=hide hb1;have hs1:=hb1.size;clear ho hb1
 go_wp2_with (at_builtin;refine appm_i64 rfl _ _ rfl rfl HO1.out rfl (Rd.below HA.out HB1.out) (by rw[List.length_replicate];omega) hs1 ?_;intro v2 w2 ho2 hg2 hv2;have HB2:=hide (HB1.out.grown hg2 hs1 (fun j hj=>(HO1.out.lt j hj).1));have HO2:=hide ho2;clear ho2 hg2 hv2)
 refine(c_l03Slice _ (List.replicate b 0++a) 0 n _ (by decide) (by decide) hn HO2.out.rd).mono ?_;rintro e w3 ⟨v3,rfl,ho,hb⟩
 have HO3:=hide (wH ho HB2.out.size);have HB3:=hide (yJ HB2.out HB2.out.size hb);clear ho hb
 go_wp2
 go_ret
 exact⟨_,rfl,HO3.out,HB3.out⟩
theorem c_delayed (v:Value) (a:List Int) (b:Nat) (w:World) (ha:RdI w v a) (na:a.length≤1048576) (hb:b≤1048576):Calls Tryz.prog 196 #[v,.int .i64 (b:Int)] w fun e w'=> ∃ v',e= .returned v'∧OwI 2 w' w.heap.size v' (lateF a b a.length)∧Below w.heap.size w w':=by
 have HA:=hide ha
 obtain⟨A,cap,rfl,hl,hc,_⟩:=ha.open_
 clear ha
 have HT:=hide (lateF_take (a:=a) (b:=b))
 go_enter Tryz.func196,Tryz.ntmps196
 go_wp2_with fail
 refine(vV b _ hb).mono ?_;rintro e w1 ⟨rfl,ho,hb1⟩
 have HO1:=hide ho;have HB1:=hide hb1;have hs1:=hb1.size;clear ho hb1
 go_wp2_with (at_builtin;refine appm_i64 rfl _ _ rfl rfl HO1.out rfl (Rd.below HA.out HB1.out) (by rw[List.length_replicate];omega) hs1 ?_;intro v2 w2 ho2 hg2 hv2;have HB2:=hide (HB1.out.grown hg2 hs1 (fun j hj=>(HO1.out.lt j hj).1));obtain⟨t2,l2,c2,rfl,hlc⟩: ∃ t l c,v2= .slice t l c∧(a.length:Int)≤(c:Int):=(by obtain⟨_,A2,cp,h,hle,_⟩:=OwI.rd ho2;refine⟨_,_,_,h,?_⟩;rw[List.length_append] at hle;omega);have HO2:=hide ho2;clear ho2 hg2 hv2)
 go_ret
 exact⟨_,rfl,by rw[←HT.out];exact own_front HO2.out (by rw[List.length_append];omega),HB2.out⟩
theorem c_l08In (x:xJ) (b o:Nat) (frame vals:List Int) (fv vv:Value) (w:World) (h1:x.zD=1→0≤x.fA∧x.fA<(frame.length:Int)) (h2:Idx x.zH (vals.length:Int)) (hn:x.zH.length≤1048576) (hf:RdI w fv frame) (hv:RdI w vv vals) (h:T.at w x.fs b o):Calls Tryz.prog 284 #[.pointer (some ⟨b,o,none⟩),fv,vv] w fun e w'=> ∃ v,e= .returned v∧OwI 2 w' w.heap.size v (inF x frame vals)∧Below w.heap.size w w':=by
 have HAT:=hide h
 obtain⟨hlt0,cs,hr,hc⟩:=h
 obtain⟨v3,rfl,h3⟩:=xJ.yO hr
 clear hr
 have h3i:=T.yT.1 h3;obtain⟨va3,vc3,rfl,vl3,vm3,vx3⟩:=h3i.open_
 have R3:=hide h3i;have HX3:=hide vx3;clear vx3 h3 h3i
 have HL:=hide hlt0;have HCC:=hide hc;have HB0:=hide (Below.refl w.heap.size w);clear hlt0 hc
 have HF:=hide hf;have HV:=hide hv
 have p0:w.cell? ⟨b,o,none⟩=some (.int .i64 x.zD):=(HB0.out.cell HL.out).trans (HCC.out 0 _ rfl)
 have p1:w.cell? ⟨b,o+1,none⟩=some (.int .i64 x.fA):=(HB0.out.cell HL.out).trans (HCC.out 1 _ rfl)
 have p2:w.cell? ⟨b,o+2,none⟩=some (.int .i64 x.fB):=(HB0.out.cell HL.out).trans (HCC.out 2 _ rfl)
 have p3:w.cell? ⟨b,o+3,none⟩=some (.slice va3 x.zH.length vc3):=(HB0.out.cell HL.out).trans (HCC.out 3 _ rfl)
 have lb:b<w.heap.size:=lL HL.out HB0.out.size
 by_cases hk:x.zD=1
 ·
  obtain⟨n0,n1⟩:=h1 hk
  have hj:x.fA.toNat<frame.length:=by omega
  obtain⟨bf,of,cf,rfl,lf,mf,lbf,hcf⟩:=xO hf (by omega)
  have hg:=gE hj
  have c0:=hcf _ _ hg
  have HE:=hide (show inF x frame vals= [frame[x.fA.toNat]] by unfold inF;rw[if_pos hk,List.getD_eq_getElem?_getD,hg];rfl)
  generalize frame[x.fA.toNat]=y at *
  generalize inF x frame vals=IN at *
  have q0:(x.zD == 1)=true:=yS hk
  have HK_:=hide hk;clear hk hcf hg hf hv h1 h2
  go_enter Tryz.func284,Tryz.ntmps284
  go_wp2
  go_ret
  exact⟨_,rfl,by rw[HE.out];exact lit1 w _,(Below.refl _ _).alloc (Nat.le_refl _) _⟩
 ·
  have HE:=hide (show inF x frame vals=x.zH.map (fun i=>vals.getD i.toNat 0) by unfold inF;rw[if_neg hk])
  generalize inF x frame vals=IN at *
  have q0:(x.zD == 1)=false:=yR hk
  have H2:=hide h2;clear hk h1 h2 hf hv
  go_enter Tryz.func284,Tryz.ntmps284
  go_wp2_with (go_at_call 291;refine(c_l07Map _ _ x.zH vals _ R3.out HV.out H2.out hn).mono ?_;rintro e w1 ⟨v1,rfl,ho,hb⟩;have HO:=hide ho;have HB1:=hide hb;clear ho hb)
  go_ret
  exact⟨_,rfl,by rw[HE.out];exact HO.out,HB1.out⟩
end
section
open Go.RowKit
theorem c_inputs (x:xJ) (cs:List Value) (b:Nat) (frame vals:List Int) (fv vv:Value) (w:World) (h1:x.zD=1→0≤x.fA∧x.fA<(frame.length:Int)) (h2:Idx x.zH (vals.length:Int)) (hn:x.zH.length≤1048576) (hc:w.cell? ⟨b,5,none⟩=some vv) (hf:RdI w fv frame) (hv:RdI w vv vals) (h:T.rds w x.fs cs):Calls Tryz.prog 287 #[.pointer (some ⟨b,0,none⟩),.agg cs.toArray,fv] w fun e w'=> ∃ v,e= .returned v∧OwI 2 w' w.heap.size v (inF x frame vals)∧Below w.heap.size w w':=by
 obtain⟨v3,rfl,h3⟩:=xJ.yO h
 clear h
 have h3i:=T.yT.1 h3;obtain⟨va3,vc3,rfl,vl3,vm3,vx3⟩:=h3i.open_
 have R3:=hide h3i;have HX3:=hide vx3;clear vx3 h3 h3i
 have HB0:=hide (show Below w.heap.size w (w.alloc (.cells #[.int .i64 x.zD,.int .i64 x.fA,.int .i64 x.fB,(.slice va3 x.zH.length vc3)] 167)) from(Below.refl _ _).alloc (Nat.le_refl _) _)
 have HK0:=hide (Bk.born w 167 #[.int .i64 x.zD,.int .i64 x.fA,.int .i64 x.fB,(.slice va3 x.zH.length vc3)])
 have hlb:b<w.heap.size:=World.block_lt_of_cell? _ _ hc
 have HF:=hide hf;have HV:=hide hv;have HC:=hide hc
 obtain⟨AV,cV,rfl,hlV,hmV,_⟩:=hv.open_
 by_cases hk:x.zD=1
 ·
  obtain⟨n0,n1⟩:=h1 hk
  have hj:x.fA.toNat<frame.length:=by omega
  obtain⟨bf,of,cf,rfl,lf,mf,lbf,hcf⟩:=xO hf (by omega)
  have hg:=gE hj
  have c0:=(HB0.out.cell lbf).trans (hcf _ _ hg)
  have HE:=hide (show inF x frame vals= [frame[x.fA.toNat]] by unfold inF;rw[if_pos hk,List.getD_eq_getElem?_getD,hg];rfl)
  generalize frame[x.fA.toNat]=y at *
  generalize inF x frame vals=IN at *
  have q0:(x.zD == 1)=true:=yS hk
  have lbf2:bf<(w.alloc (.cells #[.int .i64 x.zD,.int .i64 x.fA,.int .i64 x.fB,(.slice va3 x.zH.length vc3)] 167)).heap.size:=lL lbf HB0.out.size
  have HK_:=hide hk;clear hk hcf hg hf hv h1 h2 hc
  go_enter Tryz.func287,Tryz.ntmps287
  go_wp2
  go_ret
  exact⟨_,rfl,by rw[HE.out];have h:=wH (lit1 (w.alloc (.cells #[.int .i64 x.zD,.int .i64 x.fA,.int .i64 x.fB,(.slice va3 x.zH.length vc3)] 167)) y) HB0.out.size;unfold OwI;simpa using h,HB0.out.alloc HB0.out.size _⟩
 ·
  have HE:=hide (show inF x frame vals=x.zH.map (fun i=>vals.getD i.toNat 0) by unfold inF;rw[if_neg hk])
  generalize inF x frame vals=IN at *
  have q0:(x.zD == 1)=false:=yR hk
  have H2:=hide h2;clear hk h1 h2 hf hv hc
  go_enter Tryz.func287,Tryz.ntmps287
  go_wp2
  generalize (w.alloc (.cells #[.int .i64 x.zD,.int .i64 x.fA,.int .i64 x.fB,(.slice va3 x.zH.length vc3)] 167))=W at *
  have HWd:=hide (show (∀ i,W.drew.cell? ⟨w.heap.size,i,none⟩= #[.int .i64 x.zD,.int .i64 x.fA,.int .i64 x.fB,(.slice va3 x.zH.length vc3)][i]?)∧W.drew.cell? ⟨b,5,none⟩=some (.slice AV vals.length cV) from⟨HK0.out.cell,(HB0.out.cell hlb).trans HC.out⟩)
  have HBd:=hide HB0.out.drew;have hsd:=HBd.out.size;have HKd:=hide (Bk.drew HK0.out);have HVd:=hide (RdI.below HV.out HBd.out);have HRd:=hide (Rd.below R3.out HBd.out)
  refine wE (fun w'=>(∀ i,w'.cell? ⟨w.heap.size,i,none⟩= #[.int .i64 x.zD,.int .i64 x.fA,.int .i64 x.fB,(.slice va3 x.zH.length vc3)][i]?)∧w'.cell? ⟨b,5,none⟩=some (.slice AV vals.length cV)) [] (by kernel_rfl) ?_ (fun hS0=>?_)
  ·exact HWd.out
  generalize W.drew=wd at *
  refine tN 0 hS0 ?_
  refine tN 1 hS0 ?_
  refine tN 2 hS0 ?_
  refine tN 3 hS0 ?_
  refine tN 4 hS0 ?_
  refine tN 5 hS0 ?_
  refine oN 6 (fun K hK=>?_)
  go_simp
  go_wp2_with (go_at_call 288;refine(c_mapped _ _ x.zH vals _ HRd.out HVd.out H2.out hn).mono ?_;rintro e w3 ⟨v3,rfl,ho,hb⟩)
  have HO3:=hide (wH ho hsd);have HB3:=hide (yJ HBd.out hsd hb);have HW3:=hide (show (∀ i,w3.cell? ⟨w.heap.size,i,none⟩= #[.int .i64 x.zD,.int .i64 x.fA,.int .i64 x.fB,(.slice va3 x.zH.length vc3)][i]?)∧w3.cell? ⟨b,5,none⟩=some (.slice AV vals.length cV) from⟨(HKd.out.below hb HKd.out.lt).cell,(hb.cell (World.block_lt_of_cell? _ _ HWd.out.2)).trans HWd.out.2⟩);clear ho hb
  refine uN hK ?_ (fun hS1=>?_)
  ·exact HW3.out
  clear hK K hS0
  refine oN 7 (fun K hK=>?_)
  go_simp
  refine uN hK ?_ (fun hS2=>?_)
  ·exact HW3.out
  clear hK K hS1
  refine xY (by kernel_rfl) ?_
  clear hS2
  go_wp2
  go_ret
  exact⟨_,rfl,by rw[HE.out];exact HO3.out,HB3.out⟩
theorem c_outputs (b:Nat) (outs vals:List Int) (ov vv:Value) (w:World) (hi:Idx outs (vals.length:Int)) (hn:outs.length≤1048576) (hco:w.cell? ⟨b,3,none⟩=some ov) (hcv:w.cell? ⟨b,5,none⟩=some vv) (ho:RdI w ov outs) (hv:RdI w vv vals):Calls Tryz.prog 274 #[.pointer (some ⟨b,0,none⟩)] w fun e w'=> ∃ v,e= .returned v∧OwI 2 w' w.heap.size v (outs.map fun i=>vals.getD i.toNat 0)∧Below w.heap.size w w':=by
 have hlb:b<w.heap.size:=World.block_lt_of_cell? _ _ hco
 have HV:=hide hv;have HO:=hide ho;have HI:=hide hi
 obtain⟨AV,cV,rfl,hlV,hmV,_⟩:=hv.open_
 obtain⟨AO,cO,rfl,hlO,hmO,_⟩:=ho.open_
 clear hv ho hi
 go_enter Tryz.func274,Tryz.ntmps274
 go_wp2
 have HWd:=hide (show w.drew.cell? ⟨b,3,none⟩=some (.slice AO outs.length cO)∧w.drew.cell? ⟨b,5,none⟩=some (.slice AV vals.length cV) from⟨hco,hcv⟩)
 have HBd:=hide (Below.refl w.heap.size w).drew;have hsd:=HBd.out.size;have HVd:=hide (RdI.below HV.out HBd.out);have HOd:=hide (RdI.below HO.out HBd.out)
 refine wE (fun w'=>w'.cell? ⟨b,3,none⟩=some (.slice AO outs.length cO)∧w'.cell? ⟨b,5,none⟩=some (.slice AV vals.length cV)) [] (by kernel_rfl) ?_ (fun hS0=>?_)
 ·exact HWd.out
 clear hco hcv
 generalize w.drew=wd at *
 refine tN 0 hS0 ?_
 refine tN 1 hS0 ?_
 refine tN 2 hS0 ?_
 refine tN 3 hS0 ?_
 refine tN 4 hS0 ?_
 refine tN 5 hS0 ?_
 refine tN 6 hS0 ?_
 refine tN 7 hS0 ?_
 refine tN 8 hS0 ?_
 refine oN 9 (fun K hK=>?_)
 go_simp
 go_wp2_with (go_at_call 288;refine(c_mapped _ _ outs vals _ HOd.out HVd.out HI.out hn).mono ?_;rintro e w3 ⟨v3,rfl,ho,hb⟩)
 have HO3:=hide (wH ho hsd);have HB3:=hide (yJ HBd.out hsd hb);have HW3:=hide (show w3.cell? ⟨b,3,none⟩=some (.slice AO outs.length cO)∧w3.cell? ⟨b,5,none⟩=some (.slice AV vals.length cV) from⟨(hb.cell (World.block_lt_of_cell? _ _ HWd.out.1)).trans HWd.out.1,(hb.cell (World.block_lt_of_cell? _ _ HWd.out.2)).trans HWd.out.2⟩);clear ho hb
 refine uN hK ?_ (fun hS1=>?_)
 ·exact HW3.out
 clear hK K hS0
 refine oN 10 (fun K hK=>?_)
 go_simp
 refine uN hK ?_ (fun hS2=>?_)
 ·exact HW3.out
 clear hK K hS1
 refine xY (by kernel_rfl) ?_
 clear hS2
 go_wp2
 go_ret
 exact⟨_,rfl,HO3.out,HB3.out⟩
end
end Go.Proofs.YtoibekfhepnedaaGreat
