/- The mix of a session, in plain words. Edits, in plain words. Edits taken back, in plain words. The range of an edit, in plain words. Contracts: states and what rings, by the program. Contracts: the fields of an edit, program. Contract: l31Fields. Contracts: states, by the reference. Contracts: sums and delays of signals, both sides. -/
import Derived.Test.YtoibekfhepnedaaGreatQAvExactSoundCache
import Derived.Test.YtoibekfhepnedaaGreatQAhExactSoundCache
import Derived.Test.YtoibekfhepnedaaGreatQAsExactSoundCache
import Derived.Test.YtoibekfhepnedaaGreatQAiExactSoundCache
import Derived.Test.YtoibekfhepnedaaGreatQAmExactSoundCache
set_option linter.unusedVariables false
set_option linter.unusedSimpArgs false
set_option maxHeartbeats 2000000
set_option maxRecDepth 100000
section
namespace Go.Proofs.YtoibekfhepnedaaGreat
open Go.RowKit
/-- A signal behind some zeros, of a length. -/
def lateF (a:List Int) (by_ n:Nat):List Int:=cutL (List.replicate by_ 0++a) 0 n
/-- A signal plus a multiple of another one. -/
def addS (a b:List Int) (g:Int):List Int:=(List.range (max a.length b.length)).map fun(i:Nat)=>wrp (smpAt a (i:Int)+g * smpAt b (i:Int))
theorem length_addS (a b:List Int) (g:Int):(addS a b g).length=max a.length b.length:=by simp[addS]
theorem smp_addS {a b:List Int} {g:Int} : ∀ x ∈ addS a b g,Smp x:=by
 intro x hx
 unfold addS at hx
 obtain⟨i,_,rfl⟩:=List.mem_map.1 hx
 exact wrp_smp _
theorem smpAt_smp {a:List Int} (h: ∀ x ∈ a,Smp x) (i:Int):Smp (smpAt a i):=by
 unfold smpAt
 split
 ·next c=>
  rw[List.getD_eq_getElem?_getD]
  cases e:a[i.toNat]? with
  |none=>exact⟨by decide,by decide⟩
  |some x=>exact h x (List.mem_of_getElem? e)
 ·exact⟨by decide,by decide⟩
theorem length_lateF (a:List Int) (b n:Nat):(lateF a b n).length=n:=length_cutL _ _ _
theorem smp_cutL {a:List Int} {f:Int} {n:Nat} (h: ∀ x ∈ a,Smp x): ∀ x ∈ cutL a f n,Smp x:=by
 intro x hx
 unfold cutL at hx
 obtain⟨i,_,rfl⟩:=List.mem_map.1 hx
 exact smpAt_smp h _
theorem smp_lateF {a:List Int} {b n:Nat} (h: ∀ x ∈ a,Smp x): ∀ x ∈ lateF a b n,Smp x:=
 smp_cutL (fun x hx=>by
  rcases List.mem_append.1 hx with hx|hx
  ·rw[(List.mem_replicate.1 hx).2];exact⟨by decide,by decide⟩
  ·exact h x hx)
/-- The program's way: the front of what stands behind zeros. -/
theorem lateF_take {a:List Int} {b:Nat} :(List.replicate b 0++a).take a.length=lateF a b a.length:=by
 apply List.ext_getElem?
 intro i
 unfold lateF cutL
 by_cases hi:i<a.length
 ·rw[List.getElem?_take_of_lt hi,List.getElem?_map,List.getElem?_range hi]
  have hl:i<(List.replicate b (0:Int)++a).length:=by simp;omega
  have e:=List.getElem?_eq_getElem hl
  have:=smpAt_in e
  rw[e]
  simp only[Option.map_some,Int.zero_add]
  rw[this]
 ·rw[List.getElem?_eq_none (by simp;omega),List.getElem?_eq_none (by simp;omega)]
section
variable (c:GClip) (src:List Int)
/-- A clip is added to a signal: its first samples. -/
def clipUp (out:List Int):Nat→List Int
 |0=>out
 |k+1=>(clipUp out k).set (c.zX.toNat+k) (wrp ((clipUp out k).getD (c.zX.toNat+k) 0+c.zR * smpAt src (c.zH+(k:Int))))
/-- How many samples of a clip lie ahead of an end. -/
def clipN (n:Nat):Nat:=min c.zG.toNat (n - c.zX.toNat)
end
theorem length_clipUp {c:GClip} {src out:List Int} : ∀ k,(clipUp c src out k).length=out.length
 |0=>rfl
 |k+1=>by simp[clipUp,length_clipUp k]
theorem smp_clipUp {c:GClip} {src out:List Int} (h: ∀ x ∈ out,Smp x): ∀ k,∀ x ∈ clipUp c src out k,Smp x
 |0=>h
 |k+1=>fun x hx=>by
  rcases List.mem_or_eq_of_mem_set hx with hx|rfl
  ·exact smp_clipUp h k x hx
  ·exact wrp_smp _
/-- The signal of a track: the first clips. -/
def trackUp (sources:List (List Int)) (l:List GClip) (n:Nat):Nat→List Int
 |0=>List.replicate n 0
 |k+1=>match l[k]? with
  |some c=>clipUp c (sources.getD c.zT.toNat []) (trackUp sources l n k) (clipN c n)
  |none=>trackUp sources l n k
def trackF (sources:List (List Int)) (t:GTrack) (n:Nat):List Int:=trackUp sources t.zQ n t.zQ.length
theorem length_trackUp {ss:List (List Int)} {l:List GClip} {n:Nat} : ∀ k,(trackUp ss l n k).length=n
 |0=>by simp[trackUp]
 |k+1=>by
  simp only[trackUp]
  split
  ·rw[length_clipUp,length_trackUp k]
  ·exact length_trackUp k
theorem smp_zeros {n:Nat} : ∀ x ∈ List.replicate n (0:Int),Smp x:=fun x hx=>by rw[(List.mem_replicate.1 hx).2];exact⟨by decide,by decide⟩
theorem smp_trackUp {ss:List (List Int)} {l:List GClip} {n:Nat} : ∀ k,∀ x ∈ trackUp ss l n k,Smp x
 |0=>smp_zeros
 |k+1=>by
  simp only[trackUp]
  split
  ·exact smp_clipUp (smp_trackUp k) _
  ·exact smp_trackUp k
/-- Entry times: the first sends of a strip, the first strips. -/
def entS (i:Nat) (lat:Int) (out:List Int) (l:List GSend):Nat→List Int
 |0=>out
 |k+1=>match l[k]? with
  |some s=>(entS i lat out l k).set s.zV.toNat (max ((entS i lat out l k).getD s.zV.toNat 0) ((entS i lat out l k).getD i 0+lat))
  |none=>entS i lat out l k
def entUp (l:List GStrip):Nat→List Int
 |0=>List.replicate l.length 0
 |k+1=>match l[k]? with
  |some x=>entS k x.zI (entUp l k) x.zJ x.zJ.length
  |none=>entUp l k
def entriesF (m:GMixer):List Int:=entUp m.zC m.zC.length
theorem length_entS {i:Nat} {lat:Int} {out:List Int} {l:List GSend} : ∀ k,(entS i lat out l k).length=out.length
 |0=>rfl
 |k+1=>by
  simp only[entS]
  split
  ·rw[List.length_set,length_entS k]
  ·exact length_entS k
theorem length_entUp {l:List GStrip} : ∀ k,(entUp l k).length=l.length
 |0=>by simp[entUp]
 |k+1=>by
  simp only[entUp]
  split
  ·rw[length_entS,length_entUp k]
  ·exact length_entUp k
theorem length_entriesF (m:GMixer):(entriesF m).length=m.zC.length:=length_entUp _
/-- Numbers from 0 to a bound. -/
def Upper (l:List Int) (B:Int):Prop:= ∀ i,0≤l.getD i 0∧l.getD i 0≤B
theorem Upper.of_zeros {n:Nat} {B:Int} (h:0≤B):Upper (List.replicate n 0) B:=fun i=>by
 rw[List.getD_eq_getElem?_getD,List.getElem?_replicate]
 split<;>simp<;>omega
theorem Upper.mono {l:List Int} {B C:Int} (h:Upper l B) (hc:B≤C):Upper l C:=fun i=>⟨(h i).1,Int.le_trans (h i).2 hc⟩
theorem entS_upper {i:Nat} {lat:Int} {out:List Int} {l:List GSend} {B:Int} (h: ∀ j,0≤out.getD j 0) (hi:out.getD i 0+lat≤B) (hl:0≤lat) (hb:Upper out B) (hto: ∀ s ∈ l,s.zV.toNat≠i):
  ∀ k,Upper (entS i lat out l k) B∧(entS i lat out l k).getD i 0=out.getD i 0
 |0=>⟨hb,rfl⟩
 |k+1=>by
  obtain⟨h1,h2⟩:=entS_upper h hi hl hb hto k
  simp only[entS]
  split
  ·next s hs=>
   have hn:=hto s (List.mem_of_getElem? hs)
   refine⟨fun j=>?_,by rw[lgetD_ne hn];exact h2⟩
   by_cases e:s.zV.toNat=j
   ·subst e
    by_cases hl:s.zV.toNat<(entS i lat out l k).length
    ·rw[lgetD_self hl,h2]
     have:=h1 s.zV.toNat
     have:=h i
     omega
    ·rw[List.set_eq_of_length_le (by omega)]
     exact h1 _
   ·rw[lgetD_ne e];exact h1 j
  ·exact⟨h1,h2⟩
/-- Entry times are at most 32 for each strip ahead. -/
theorem entUp_upper {l:List GStrip} (hl: ∀ x ∈ l,0≤x.zI∧x.zI≤32) (hto: ∀ (i:Nat) (x:GStrip),l[i]?=some x→ ∀ s ∈ x.zJ,s.zV.toNat≠i): ∀ k,Upper (entUp l k) (32 * (k:Int))
 |0=>Upper.of_zeros (by omega)
 |k+1=>by
  have ih:=entUp_upper hl hto k
  simp only[entUp]
  split
  ·next x hx=>
   have h1:=hl x (List.mem_of_getElem? hx)
   refine(entS_upper (B:=32 * ((k+1:Nat):Int)) (fun j=>(ih j).1) ?_ h1.1 (ih.mono (by omega)) (hto k x hx) _).1
   have:=(ih k).2
   omega
  ·exact ih.mono (by omega)
theorem mixer_to {m:GMixer} (h:MixerOk m) {i:Nat} {x:GStrip} (hx:m.zC[i]?=some x): ∀ (k:Nat) (s:GSend),x.zJ[k]?=some s→(i:Int)<s.zV∧s.zV<(m.zC.length:Int)∧(0<k→ ∀ p,x.zJ[k - 1]?=some p→p.zV<s.zV):=by
 have hs:=(h.each i x hx).1.sends.each
 intro k
 induction k with
 |zero=>
  intro s h0
  have:=inB_true.1 (hs 0 s h0).1
  unfold befS at this
  rw[if_pos rfl] at this
  exact⟨by omega,by omega,fun h=>absurd h (by omega)⟩
 |succ k ih=>
  intro s h1
  have:=inB_true.1 (hs (k+1) s h1).1
  unfold befS at this
  rw[if_neg (by omega),Nat.add_sub_cancel] at this
  have hk:k<x.zJ.length:=by have:=(List.getElem?_eq_some_iff.1 h1).1;omega
  have hg:=List.getElem?_eq_getElem hk
  have h2:=ih _ hg
  rw[List.getD_eq_getElem?_getD,hg] at this
  simp only[Option.getD_some] at this
  refine⟨by omega,by omega,fun _ p hp=>?_⟩
  rw[Nat.add_sub_cancel,hg] at hp
  injection hp with hp
  rw[←hp]
  omega
theorem entriesF_upper {m:GMixer} (h:MixerOk m):Upper (entriesF m) 256:=by
 refine(entUp_upper (fun x hx=>?_) (fun i x hx s hs e=>?_) _).mono (by have:=h.few;omega)
 ·obtain⟨i,hi⟩:=List.mem_iff_getElem?.1 hx
  exact inB_true.1 (h.each i x hi).1.latency
 ·obtain⟨k,hk⟩:=List.mem_iff_getElem?.1 hs
  have:=mixer_to h hx k s hk
  omega
/-- What each send waits. -/
def waitN (times:List Int) (i:Nat) (x:GStrip) (s:GSend):Int:=times.getD s.zV.toNat 0 - times.getD i 0 - x.zI
def delaysF (m:GMixer):List (List Int):=m.zC.mapIdx fun i x=>x.zJ.map (waitN (entriesF m) i x)
def totalF (m:GMixer):Int:=(entriesF m).getD (m.zC.length - 1) 0+(m.zC.getD (m.zC.length - 1) ⟨ByteArray.empty,0,[]⟩).zI
/-- The inputs of all strips: what the first tracks bring. -/
def feedUp (s:GSession) (n:Nat):Nat→List (List Int)
 |0=>List.replicate s.zF.zC.length (List.replicate n 0)
 |k+1=>match s.zO[k]?,s.zS[k]? with
  |some t,some f=>(feedUp s n k).set f.toNat (addS ((feedUp s n k).getD f.toNat []) (lateF (trackF s.zN t s.zG.toNat) ((entriesF s.zF).getD f.toNat 0).toNat n) 1)
  |_,_=>feedUp s n k
noncomputable def effF (p:GPatch) (y:List Int) (n:Nat):List Int:=if p=noPatch then y else (renderF p [y] n).getD 0 []
/-- What a strip's first sends bring. -/
def sendUp (y:List Int) (n:Nat) (waits:List Int) (l:List GSend) (ins:List (List Int)):Nat→List (List Int)
 |0=>ins
 |k+1=>match l[k]? with
  |some s=>(sendUp y n waits l ins k).set s.zV.toNat (addS ((sendUp y n waits l ins k).getD s.zV.toNat []) (lateF y (waits.getD k 0).toNat n) s.zR)
  |none=>sendUp y n waits l ins k
noncomputable def stripY (s:GSession) (n:Nat) (ins:List (List Int)) (i:Nat) (x:GStrip):List Int:=lateF (effF (s.zP.getD i noPatch) (ins.getD i []) n) x.zI.toNat n
/-- The inputs and the outputs behind the first strips. -/
noncomputable def stripUp (s:GSession) (n:Nat):Nat→List (List Int) × List (List Int)
 |0=>(feedUp s n s.zO.length,[])
 |k+1=>match s.zF.zC[k]? with
  |some x=>(sendUp (stripY s n (stripUp s n k).1 k x) n ((delaysF s.zF).getD k []) x.zJ (stripUp s n k).1 x.zJ.length,(stripUp s n k).2++ [stripY s n (stripUp s n k).1 k x])
  |none=>stripUp s n k
noncomputable def outsF (s:GSession):List (List Int):=(stripUp s (s.zG+totalF s.zF).toNat s.zF.zC.length).2
noncomputable def mixF (s:GSession):List Int:=cutL ((outsF s).getD (s.zF.zC.length - 1) []) (totalF s.zF) s.zG.toNat
end Go.Proofs.YtoibekfhepnedaaGreat
end
section
namespace Go.Proofs.YtoibekfhepnedaaGreat
open Go.RowKit
end Go.Proofs.YtoibekfhepnedaaGreat
end
section
namespace Go.Proofs.YtoibekfhepnedaaGreat
open Go.RowKit
end Go.Proofs.YtoibekfhepnedaaGreat
end
section
namespace Go.Proofs.YtoibekfhepnedaaGreat
open Go.RowKit
/-- The state of a node at the beginning. -/
def startL (x:GNode):List Int:=
 if x.zD=6 then List.replicate x.fA.toNat 0
 else if x.zD=17 then List.replicate x.fB.toNat 0
 else if x.zD=7∨x.zD=8∨x.zD=16 then [0]
 else if x.zD=12∨x.zD=14 then [x.fA]
 else []
end Go.Proofs.YtoibekfhepnedaaGreat
end
section
namespace Go.Proofs.YtoibekfhepnedaaGreat
open Go.RowKit
theorem ow_lit1 (E:TypeId) (w:World) (n:Int):OwI E (w.alloc (.cells #[.int .i64 n] E)) w.heap.size (.slice (some ⟨w.heap.size,0,none⟩) 1 1) [n]:=
 ⟨rfl,.inr ⟨w.heap.size,1,#[.int .i64 n],rfl,Nat.le_refl _,heap_alloc_new w _,Nat.le_refl _,by decide,rfl,by simp⟩⟩
theorem c_zeros0 (n:Nat) (w:World) (hn:n≤1048576):Calls Tryz.prog 193 #[.int .i64 (n:Int)] w fun e w'=>e= .returned (.slice (some ⟨w.heap.size,0,none⟩) n n)∧OwI 2 w' w.heap.size (.slice (some ⟨w.heap.size,0,none⟩) n n) (List.replicate n 0)∧Below w.heap.size w w':=by
 obtain⟨i0,hi,hz0,hz1,hz2⟩:=info_parts info_i64
 go_enter Tryz.func193,Tryz.ntmps193
 go_wp2_with (at_make;refine wpList_make_full _ rfl _ _ _ rfl w.heap.size 2 i0 _ 1 Tryz.underlying26 hi hz0 hz1 .i64 .i64 _ _ n rfl rfl rfl rfl (by rw[hz2];omega) (by unfold maxLen;omega) (Nat.le_refl _) ?_;intro w1 hown1 hg1)
 have ho1:OwI 2 w1 w.heap.size _ _:=OwI.made _ w1 (n:=n) hg1.size (by unfold maxLen;omega) 0 hown1
 have hb1:Below w.heap.size w w1:=(Below.refl _ _).grown hg1 (Nat.le_refl _) (by simp)
 clear hown1 hg1
 have HO:=hide ho1;have HB:=hide hb1;clear ho1 hb1
 go_wp2
 go_ret
 exact⟨rfl,HO.out,HB.out⟩
theorem c_start (x:GNode) (cs:List Value) (w:World) (h6:x.zD=6→0≤x.fA∧x.fA≤16) (h17:x.zD=17→0≤x.fB∧x.fB≤16) (h:T.rds w x.fs cs):Calls Tryz.prog 228 #[.agg cs.toArray] w fun e w'=> ∃ v,e= .returned v∧OwI 2 w' w.heap.size v (startL x)∧Below w.heap.size w w':=by
 obtain⟨v3,rfl,h3⟩:=GNode.yN h
 clear h
 have h3i:=T.yR.1 h3;obtain⟨va3,vc3,rfl,vl3,vm3,vx3⟩:=h3i.open_
 have R3:=hide h3i;have HX3:=hide vx3;clear vx3 h3 h3i
 have HB0:=hide (show Below w.heap.size w (w.alloc (.cells #[.int .i64 x.zD,.int .i64 x.fA,.int .i64 x.fB,(.slice va3 x.zH.length vc3)] 167)) from(Below.refl _ _).alloc (Nat.le_refl _) _)
 have HK0:=hide (Bk.born w 167 #[.int .i64 x.zD,.int .i64 x.fA,.int .i64 x.fB,(.slice va3 x.zH.length vc3)])
 have H6:=hide h6;have H17:=hide h17;clear h6 h17
 have ZE:=hide (fun(a:Int) (n:Nat) (h:a=(n:Int)) (hn:n≤1048576) (W:World)=>(h ▸ c_zeros0 n W hn:Calls Tryz.prog 193 #[.int .i64 a] W fun e w'=>e= .returned (.slice (some ⟨W.heap.size,0,none⟩) n n)∧OwI 2 w' W.heap.size (.slice (some ⟨W.heap.size,0,none⟩) n n) (List.replicate n 0)∧Below W.heap.size W w'))
 go_enter Tryz.func228,Tryz.ntmps228
 by_cases k6:x.zD=6
 ·
  have q6:(x.zD == 6)=true:=yQ k6
  obtain⟨m,hm⟩: ∃ m:Nat,x.fA=(m:Int):=⟨x.fA.toNat,by have:=H6.out k6;omega⟩
  have h16:=H6.out k6;have HM:=hide hm;clear hm;have hm16:m≤16:=by have:=HM.out;omega
  have HS:Sec (startL x=List.replicate m 0):=hide (by unfold startL;rw[if_pos k6,HM.out,Int.toNat_natCast]);clear k6 h16
  go_wp2_with fail
  refine(ZE.out _ _ HM.out (by omega) _).mono ?_;rintro e w1 ⟨rfl,ho,hb⟩
  have HO:=hide (OwI.more ho HB0.out.size);have HB:=hide (yI HB0.out HB0.out.size hb);clear ho hb
  go_wp2
  go_ret
  exact⟨.slice (some ⟨w.heap.size+1,0,none⟩) m m,rfl,by rw[HS.out];simpa using HO.out,HB.out⟩
 have q6:(x.zD == 6)=false:=yP k6
 by_cases k17:x.zD=17
 ·
  have q17:(x.zD == 17)=true:=yQ k17
  obtain⟨m,hm⟩: ∃ m:Nat,x.fB=(m:Int):=⟨x.fB.toNat,by have:=H17.out k17;omega⟩
  have h16:=H17.out k17;have HM:=hide hm;clear hm;have hm16:m≤16:=by have:=HM.out;omega
  have HS:Sec (startL x=List.replicate m 0):=hide (by unfold startL;rw[if_neg k6,if_pos k17,HM.out,Int.toNat_natCast]);clear k6 k17 h16
  go_wp2_with fail
  refine(ZE.out _ _ HM.out (by omega) _).mono ?_;rintro e w1 ⟨rfl,ho,hb⟩
  have HO:=hide (OwI.more ho HB0.out.size);have HB:=hide (yI HB0.out HB0.out.size hb);clear ho hb
  go_wp2
  go_ret
  exact⟨.slice (some ⟨w.heap.size+1,0,none⟩) m m,rfl,by rw[HS.out];simpa using HO.out,HB.out⟩
 have q17:(x.zD == 17)=false:=yP k17
 by_cases k7:x.zD=7
 ·
  have q7:(x.zD == 7)=true:=yQ k7
  have HS:Sec (startL x=List.replicate 1 0):=hide (by unfold startL;rw[if_neg k6,if_neg k17,if_pos (by omega)];rfl)
  clear k6 k17 k7
  go_wp2_with fail
  refine(ZE.out _ _ (show (1:Int)=((1:Nat):Int) from rfl) (by omega) _).mono ?_;rintro e w1 ⟨rfl,ho,hb⟩
  have HO:=hide (OwI.more ho HB0.out.size);have HB:=hide (yI HB0.out HB0.out.size hb);clear ho hb
  go_wp2
  go_ret
  exact⟨.slice (some ⟨w.heap.size+1,0,none⟩) 1 1,rfl,by rw[HS.out];simpa using HO.out,HB.out⟩
 have q7:(x.zD == 7)=false:=yP k7
 by_cases k8:x.zD=8
 ·
  have q8:(x.zD == 8)=true:=yQ k8
  have HS:Sec (startL x=List.replicate 1 0):=hide (by unfold startL;rw[if_neg k6,if_neg k17,if_pos (by omega)];rfl)
  clear k6 k17 k8 k7
  go_wp2_with fail
  refine(ZE.out _ _ (show (1:Int)=((1:Nat):Int) from rfl) (by omega) _).mono ?_;rintro e w1 ⟨rfl,ho,hb⟩
  have HO:=hide (OwI.more ho HB0.out.size);have HB:=hide (yI HB0.out HB0.out.size hb);clear ho hb
  go_wp2
  go_ret
  exact⟨.slice (some ⟨w.heap.size+1,0,none⟩) 1 1,rfl,by rw[HS.out];simpa using HO.out,HB.out⟩
 have q8:(x.zD == 8)=false:=yP k8
 by_cases k16:x.zD=16
 ·
  have q16:(x.zD == 16)=true:=yQ k16
  have HS:Sec (startL x=List.replicate 1 0):=hide (by unfold startL;rw[if_neg k6,if_neg k17,if_pos (by omega)];rfl)
  clear k6 k17 k16 k7 k8
  go_wp2_with fail
  refine(ZE.out _ _ (show (1:Int)=((1:Nat):Int) from rfl) (by omega) _).mono ?_;rintro e w1 ⟨rfl,ho,hb⟩
  have HO:=hide (OwI.more ho HB0.out.size);have HB:=hide (yI HB0.out HB0.out.size hb);clear ho hb
  go_wp2
  go_ret
  exact⟨.slice (some ⟨w.heap.size+1,0,none⟩) 1 1,rfl,by rw[HS.out];simpa using HO.out,HB.out⟩
 have q16:(x.zD == 16)=false:=yP k16
 by_cases k12:x.zD=12
 ·
  have q12:(x.zD == 12)=true:=yQ k12
  have HS:Sec (startL x= [x.fA]):=hide (by unfold startL;rw[if_neg k6,if_neg k17,if_neg (by omega),if_pos (by omega)])
  clear k6 k17 k7 k8 k16 k12
  have HB:=hide (HB0.out.alloc HB0.out.size (.cells #[.int .i64 x.fA] 2))
  have HO:Sec (OwI 2 ((w.alloc (.cells #[.int .i64 x.zD,.int .i64 x.fA,.int .i64 x.fB,(.slice va3 x.zH.length vc3)] 167)).alloc (.cells #[.int .i64 x.fA] 2)) w.heap.size (.slice (some ⟨(w.alloc (.cells #[.int .i64 x.zD,.int .i64 x.fA,.int .i64 x.fB,(.slice va3 x.zH.length vc3)] 167)).heap.size,0,none⟩) 1 1) [x.fA]):=hide (OwI.more (ow_lit1 _ _ _) HB0.out.size)
  go_wp2
  go_ret
  exact⟨.slice (some ⟨w.heap.size+1,0,none⟩) 1 1,rfl,by rw[HS.out];simpa using HO.out,HB.out⟩
 have q12:(x.zD == 12)=false:=yP k12
 by_cases k14:x.zD=14
 ·
  have q14:(x.zD == 14)=true:=yQ k14
  have HS:Sec (startL x= [x.fA]):=hide (by unfold startL;rw[if_neg k6,if_neg k17,if_neg (by omega),if_pos (by omega)])
  clear k6 k17 k7 k8 k16 k14 k12
  have HB:=hide (HB0.out.alloc HB0.out.size (.cells #[.int .i64 x.fA] 2))
  have HO:Sec (OwI 2 ((w.alloc (.cells #[.int .i64 x.zD,.int .i64 x.fA,.int .i64 x.fB,(.slice va3 x.zH.length vc3)] 167)).alloc (.cells #[.int .i64 x.fA] 2)) w.heap.size (.slice (some ⟨(w.alloc (.cells #[.int .i64 x.zD,.int .i64 x.fA,.int .i64 x.fB,(.slice va3 x.zH.length vc3)] 167)).heap.size,0,none⟩) 1 1) [x.fA]):=hide (OwI.more (ow_lit1 _ _ _) HB0.out.size)
  go_wp2
  go_ret
  exact⟨.slice (some ⟨w.heap.size+1,0,none⟩) 1 1,rfl,by rw[HS.out];simpa using HO.out,HB.out⟩
 have q14:(x.zD == 14)=false:=yP k14
 have HS:Sec (startL x=List.replicate 0 0):=hide (by unfold startL;rw[if_neg k6,if_neg k17,if_neg (by omega),if_neg (by omega)];rfl)
 clear k6 k17 k7 k8 k16 k12 k14
 go_wp2_with fail
 refine(ZE.out _ _ (show (0:Int)=((0:Nat):Int) from rfl) (by omega) _).mono ?_;rintro e w1 ⟨rfl,ho,hb⟩
 have HO:=hide (OwI.more ho HB0.out.size);have HB:=hide (yI HB0.out HB0.out.size hb);clear ho hb
 go_wp2
 go_ret
 exact⟨.slice (some ⟨w.heap.size+1,0,none⟩) 0 0,rfl,by rw[HS.out];simpa using HO.out,HB.out⟩
end Go.Proofs.YtoibekfhepnedaaGreat
end
section
namespace Go.Proofs.YtoibekfhepnedaaGreat
open Go.RowKit
end Go.Proofs.YtoibekfhepnedaaGreat
end
section
namespace Go.Proofs.YtoibekfhepnedaaGreat
open Go.RowKit
end Go.Proofs.YtoibekfhepnedaaGreat
end
section
namespace Go.Proofs.YtoibekfhepnedaaGreat
open Go.RowKit
theorem c_l03Zeros0 (n:Nat) (w:World) (hn:n≤1048576):Calls Tryz.prog 184 #[.int .i64 (n:Int)] w fun e w'=> ∃ v',e= .returned v'∧OwI 2 w' w.heap.size v' (List.replicate n 0)∧Below w.heap.size w w':=by
 go_enter Tryz.func184,Tryz.ntmps184
 go_wp2
 go_loopw [0,3] (fun m o wr=> ∃ k:Nat,k≤n∧m= .int .i64 (k:Int)∧OwI 2 wr w.heap.size o (List.replicate (n - k) 0)∧Below w.heap.size w wr) (fun m _ _=>(intOf m).toNat)
 case atStart=>exact⟨n,Nat.le_refl _,rfl,by rw[Nat.sub_self];exact new_i64 w,(Below.refl _ _).alloc (Nat.le_refl _) _⟩
 case round=>
  obtain⟨k,hk,rfl,ho,hb⟩:=hrel
  have HO:=hide ho;have HB:=hide hb;have hsz:=hb.size;clear ho hb
  by_cases h0:0<k
  ·have HR:=hide (show List.replicate (n - k) (0:Int)++ [0]=List.replicate (n - (k - 1)) 0 by
    rw[show n - (k - 1)=(n - k)+1 by omega,←List.replicate_succ'])
   have hl:(List.replicate (n - k) (0:Int)).length+1≤17592186044416:=by rw[List.length_replicate];omega
   go_wp2_with (at_builtin;refine app1_i64 rfl _ _ rfl rfl HO.out rfl hl hsz ?_;intro v5 w5 ho5 hg5 hv5;have hb5:=below_own HB.out HO.out hg5 (Nat.le_refl _) hsz;have HO5:=hide ho5;have HB5:=hide hb5;clear ho5 hb5 hg5 hv5)
   go_roundw
   case rel=>exact⟨k - 1,by omega,by go_num,by rw[←HR.out];exact HO5.out,HB5.out⟩
   case measure=>first|(simp[intOf];done)|(simp[intOf];omega)
  ·obtain rfl:k=0:=by omega
   go_wp2
   go_ret
   exact⟨_,rfl,by have:=HO.out;rw[Nat.sub_zero] at this;exact this,HB.out⟩
theorem c_l06Start (x:GNode) (b o:Nat) (w:World) (h6:x.zD=6→0≤x.fA∧x.fA≤16) (h17:x.zD=17→0≤x.fB∧x.fB≤16) (h:T.at w x.fs b o):Calls Tryz.prog 270 #[.pointer (some ⟨b,o,none⟩)] w fun e w'=> ∃ v,e= .returned v∧OwI 2 w' w.heap.size v (startL x)∧Below w.heap.size w w':=by
 have HAT:=hide h
 obtain⟨hlt0,cs,hr,hc⟩:=h
 obtain⟨v3,rfl,h3⟩:=GNode.yN hr
 clear hr
 have h3i:=T.yR.1 h3;obtain⟨va3,vc3,rfl,vl3,vm3,vx3⟩:=h3i.open_
 have R3:=hide h3i;have HX3:=hide vx3;clear vx3 h3 h3i
 have HL:=hide hlt0;have HCC:=hide hc;have HB0:=hide (Below.refl w.heap.size w);clear hlt0 hc
 have H6:=hide h6;have H17:=hide h17;clear h6 h17
 have ZE:=hide (fun(a:Int) (n:Nat) (h:a=(n:Int)) (hn:n≤1048576) (W:World)=>(h ▸ c_l03Zeros0 n W hn:Calls Tryz.prog 184 #[.int .i64 a] W fun e w'=> ∃ v',e= .returned v'∧OwI 2 w' W.heap.size v' (List.replicate n 0)∧Below W.heap.size W w'))
 have p0:w.cell? ⟨b,o,none⟩=some (.int .i64 x.zD):=(HB0.out.cell HL.out).trans (HCC.out 0 _ rfl)
 have p1:w.cell? ⟨b,o+1,none⟩=some (.int .i64 x.fA):=(HB0.out.cell HL.out).trans (HCC.out 1 _ rfl)
 have p2:w.cell? ⟨b,o+2,none⟩=some (.int .i64 x.fB):=(HB0.out.cell HL.out).trans (HCC.out 2 _ rfl)
 have p3:w.cell? ⟨b,o+3,none⟩=some (.slice va3 x.zH.length vc3):=(HB0.out.cell HL.out).trans (HCC.out 3 _ rfl)
 have lb:b<w.heap.size:=Nat.lt_of_lt_of_le HL.out HB0.out.size
 go_enter Tryz.func270,Tryz.ntmps270
 by_cases k6:x.zD=6
 ·
  have q6:(x.zD == 6)=true:=yQ k6
  obtain⟨m,hm⟩: ∃ m:Nat,x.fA=(m:Int):=⟨x.fA.toNat,by have:=H6.out k6;omega⟩
  have h16:=H6.out k6;have HM:=hide hm;clear hm;have hm16:m≤16:=by have:=HM.out;omega
  have HS:Sec (startL x=List.replicate m 0):=hide (by unfold startL;rw[if_pos k6,HM.out,Int.toNat_natCast]);clear k6 h16
  go_wp2_with fail
  refine(ZE.out _ _ HM.out (by omega) _).mono ?_;rintro e w1 ⟨v,rfl,ho,hb⟩
  have HO:=hide ho;have HB:=hide hb;clear ho hb
  go_wp2
  go_ret
  exact⟨_,rfl,by rw[HS.out];exact HO.out,HB.out⟩
 have q6:(x.zD == 6)=false:=yP k6
 by_cases k17:x.zD=17
 ·
  have q17:(x.zD == 17)=true:=yQ k17
  obtain⟨m,hm⟩: ∃ m:Nat,x.fB=(m:Int):=⟨x.fB.toNat,by have:=H17.out k17;omega⟩
  have h16:=H17.out k17;have HM:=hide hm;clear hm;have hm16:m≤16:=by have:=HM.out;omega
  have HS:Sec (startL x=List.replicate m 0):=hide (by unfold startL;rw[if_neg k6,if_pos k17,HM.out,Int.toNat_natCast]);clear k6 k17 h16
  go_wp2_with fail
  refine(ZE.out _ _ HM.out (by omega) _).mono ?_;rintro e w1 ⟨v,rfl,ho,hb⟩
  have HO:=hide ho;have HB:=hide hb;clear ho hb
  go_wp2
  go_ret
  exact⟨_,rfl,by rw[HS.out];exact HO.out,HB.out⟩
 have q17:(x.zD == 17)=false:=yP k17
 by_cases k7:x.zD=7
 ·
  have q7:(x.zD == 7)=true:=yQ k7
  have HS:Sec (startL x= [0]):=hide (by unfold startL;rw[if_neg k6,if_neg k17,if_pos (by omega)])
  clear k6 k17 k7
  go_wp2
  go_ret
  exact⟨_,rfl,by rw[HS.out];exact ow_lit1 _ _ _,(Below.refl _ _).alloc (Nat.le_refl _) _⟩
 have q7:(x.zD == 7)=false:=yP k7
 by_cases k8:x.zD=8
 ·
  have q8:(x.zD == 8)=true:=yQ k8
  have HS:Sec (startL x= [0]):=hide (by unfold startL;rw[if_neg k6,if_neg k17,if_pos (by omega)])
  clear k6 k17 k8 k7
  go_wp2
  go_ret
  exact⟨_,rfl,by rw[HS.out];exact ow_lit1 _ _ _,(Below.refl _ _).alloc (Nat.le_refl _) _⟩
 have q8:(x.zD == 8)=false:=yP k8
 by_cases k16:x.zD=16
 ·
  have q16:(x.zD == 16)=true:=yQ k16
  have HS:Sec (startL x= [0]):=hide (by unfold startL;rw[if_neg k6,if_neg k17,if_pos (by omega)])
  clear k6 k17 k16 k7 k8
  go_wp2
  go_ret
  exact⟨_,rfl,by rw[HS.out];exact ow_lit1 _ _ _,(Below.refl _ _).alloc (Nat.le_refl _) _⟩
 have q16:(x.zD == 16)=false:=yP k16
 by_cases k12:x.zD=12
 ·
  have q12:(x.zD == 12)=true:=yQ k12
  have HS:Sec (startL x= [x.fA]):=hide (by unfold startL;rw[if_neg k6,if_neg k17,if_neg (by omega),if_pos (by omega)])
  clear k6 k17 k12 k7 k8 k16
  go_wp2
  go_ret
  exact⟨_,rfl,by rw[HS.out];exact ow_lit1 _ _ _,(Below.refl _ _).alloc (Nat.le_refl _) _⟩
 have q12:(x.zD == 12)=false:=yP k12
 by_cases k14:x.zD=14
 ·
  have q14:(x.zD == 14)=true:=yQ k14
  have HS:Sec (startL x= [x.fA]):=hide (by unfold startL;rw[if_neg k6,if_neg k17,if_neg (by omega),if_pos (by omega)])
  clear k6 k17 k14 k7 k8 k16 k12
  go_wp2
  go_ret
  exact⟨_,rfl,by rw[HS.out];exact ow_lit1 _ _ _,(Below.refl _ _).alloc (Nat.le_refl _) _⟩
 have q14:(x.zD == 14)=false:=yP k14
 have HS:Sec (startL x= []):=hide (by unfold startL;rw[if_neg k6,if_neg k17,if_neg (by omega),if_neg (by omega)])
 clear k6 k17 k7 k8 k16 k12 k14
 go_wp2
 go_ret
 exact⟨_,rfl,by rw[HS.out];exact new_i64 _,(Below.refl _ _).alloc (Nat.le_refl _) _⟩
end Go.Proofs.YtoibekfhepnedaaGreat
end
section
namespace Go.Proofs.YtoibekfhepnedaaGreat
open Go.RowKit
def addN (a b:List Int) (g:Int) (k:Nat):List Int:=(List.range k).map fun(i:Nat)=>wrp (smpAt a (i:Int)+g * smpAt b (i:Int))
theorem addN_snoc (a b:List Int) (g:Int) (k:Nat):addN a b g (k+1)=addN a b g k++ [wrp (smpAt a (k:Int)+g * smpAt b (k:Int))]:=by
 unfold addN;rw[List.range_succ,List.map_append];rfl
theorem length_addN (a b:List Int) (g:Int) (k:Nat):(addN a b g k).length=k:=by simp[addN]
def addZ (a b:List Int) (g:Int) (n k:Nat):List Int:=addN a b g k++List.replicate (n - k) 0
theorem length_addZ {a b:List Int} {g:Int} {n k:Nat} (h:k≤n):(addZ a b g n k).length=n:=by simp[addZ,length_addN];omega
theorem addZ_none (a b:List Int) (g:Int) (n:Nat):addZ a b g n 0=List.replicate n 0:=by simp[addZ,addN]
theorem addZ_full (a b:List Int) (g:Int) (n:Nat):addZ a b g n n=addN a b g n:=by simp[addZ]
theorem addZ_set {a b:List Int} {g:Int} {n k:Nat} (h:k<n):(addZ a b g n k).set k (wrp (smpAt a (k:Int)+g * smpAt b (k:Int)))=addZ a b g n (k+1):=by
 unfold addZ
 rw[addN_snoc,List.set_append_right _ _ (by rw[length_addN];exact Nat.le_refl _),length_addN,Nat.sub_self]
 have:n - k=(n - (k+1))+1:=by omega
 rw[this,List.replicate_succ,List.set_cons_zero]
 simp
theorem wrp_inner (x y:Int):wrp (x+wrp y)=wrp (x+y):=wrp_mod (by unfold wrp;omega)
theorem add_in {a b:List Int} {g:Int} (ha: ∀ x ∈ a,Smp x) (hb: ∀ x ∈ b,Smp x) (hg:Smp g) (k:Int):IntKind.i64.wrap (g * smpAt b k)=g * smpAt b k∧IntKind.i64.wrap (smpAt a k+g * smpAt b k)=smpAt a k+g * smpAt b k∧Smp (smpAt a k)∧Smp (smpAt b k):=by
 have h1:=smpAt_smp ha k
 have h2:=smpAt_smp hb k
 have h3:=smp_mul hg h2
 refine⟨IntWalk.i64_in _ (by omega),IntWalk.i64_in _ (by unfold Smp at h1;omega),h1,h2⟩
theorem c_l03Add (v u:Value) (a b:List Int) (g:Int) (w:World) (ha:RdI w v a) (hb:RdI w u b) (sa: ∀ x ∈ a,Smp x) (sb: ∀ x ∈ b,Smp x) (sg:Smp g) (na:a.length≤1048576) (nb:b.length≤1048576):Calls Tryz.prog 186 #[v,u,.int .i64 g] w fun e w'=> ∃ v',e= .returned v'∧OwI 2 w' w.heap.size v' (addS a b g)∧Below w.heap.size w w':=by
 have HA:=hide ha;have HBB:=hide hb
 obtain⟨A,cap,rfl,hl,hc,_⟩:=ha.open_
 obtain⟨A2,cap2,rfl,hl2,hc2,_⟩:=hb.open_
 clear ha hb
 obtain⟨n,hn⟩: ∃ n:Nat,max a.length b.length=n:=⟨_,rfl⟩
 have hm:max (a.length:Int) (b.length:Int)=(n:Int):=by omega
 have hn2:n≤1048576:=by omega
 have HALL:=hide (show addN a b g n=addS a b g by rw[←hn];rfl)
 have HS:=hide (add_in sa sb sg)
 have HM:=hide hm;clear hm hn sa sb
 go_enter Tryz.func186,Tryz.ntmps186
 go_wp2_with (go_at_call 213;refine(c_qMax _ _ _).mono ?_;rintro e w' ⟨rfl,rfl⟩;rw[HM.out])
 have HO0:=hide (new_i64 w);have HB0:=hide (show Below w.heap.size w (w.alloc (.cells #[] 2)) from(Below.refl _ _).alloc (Nat.le_refl _) _)
 go_loopw [7,9] (fun r i wr=> ∃ k:Nat,k≤n∧i= .int .i64 (k:Int)∧OwI 2 wr w.heap.size r (addN a b g k)∧Below w.heap.size w wr) (fun _ i _=>n - (intOf i).toNat)
 case atStart=>exact⟨0,Nat.zero_le _,rfl,HO0.out,HB0.out⟩
 case round=>
  obtain⟨k,hk,rfl,ho,hbw⟩:=hrel
  have HO:=hide ho;have HB:=hide hbw;have hsz:=hbw.size;clear ho hbw
  by_cases hlt:k<n
  ·have hll:(addN a b g k).length+1≤17592186044416:=by rw[length_addN];omega
   obtain⟨q1,q2,q3,q4⟩:=HS.out (k:Int)
   have HQ3:=hide q3;have HQ4:=hide q4;clear q1 q2 q3 q4
   have HEQ:=hide (show wrp (smpAt a (k:Int)+wrp (smpAt b (k:Int) * g))=wrp (smpAt a (k:Int)+g * smpAt b (k:Int)) by rw[wrp_inner,Int.mul_comm (smpAt b (k:Int)) g])
   go_wp2_with fail
   refine(c_l03At _ a _ _ (Rd.below HA.out HB.out)).mono ?_;rintro e w' ⟨rfl,rfl⟩
   go_wp2_with fail
   refine(c_l03At _ b _ _ (Rd.below HBB.out HB.out)).mono ?_;rintro e w' ⟨rfl,rfl⟩
   go_wp2_with (first|(go_at_call 239;refine(c_l01Mul _ _ _ HQ4.out sg).mono ?_;rintro e w' ⟨rfl,rfl⟩)|(go_at_call 238;refine(c_mAdd _ _ _ HQ3.out (wrp_smp _)).mono ?_;rintro e w' ⟨rfl,rfl⟩;rw[HEQ.out])|(at_builtin;refine app1_i64 (n:=wrp (smpAt a (k:Int)+g * smpAt b (k:Int))) rfl _ _ rfl rfl HO.out rfl hll hsz ?_;intro v8 w8 ho8 hg8 hv8;have HO8:=hide ho8;have HB8:=hide (HB.out.grown hg8 hsz (fun j hj=>(HO.out.lt j hj).1));clear ho8 hg8 hv8))
   go_roundw
   case rel=>exact⟨k+1,by omega,by go_num,by rw[addN_snoc];exact HO8.out,HB8.out⟩
   case measure=>simp[intOf];omega
  ·obtain rfl:k=n:=by omega
   go_wp2
   go_ret
   exact⟨_,rfl,by rw[←HALL.out];exact HO.out,HB.out⟩
theorem c_addTimes (v u:Value) (a b:List Int) (g:Int) (w:World) (ha:RdI w v a) (hb:RdI w u b) (sa: ∀ x ∈ a,Smp x) (sb: ∀ x ∈ b,Smp x) (sg:Smp g) (na:a.length≤1048576) (nb:b.length≤1048576):Calls Tryz.prog 195 #[v,.int .i64 g,u] w fun e w'=> ∃ v',e= .returned v'∧OwI 2 w' w.heap.size v' (addS a b g)∧Below w.heap.size w w':=by
 have HA:=hide ha;have HBB:=hide hb
 obtain⟨A,cap,rfl,hl,hc,_⟩:=ha.open_
 obtain⟨A2,cap2,rfl,hl2,hc2,_⟩:=hb.open_
 clear ha hb
 obtain⟨n,hn⟩: ∃ n:Nat,max a.length b.length=n:=⟨_,rfl⟩
 have hn2:n≤1048576:=by omega
 have HALL:=hide (show addN a b g n=addS a b g by rw[←hn];rfl)
 have HS:=hide (add_in sa sb sg)
 clear sa sb
 rcases Nat.lt_or_ge a.length b.length with hcmp|hcmp
 ·obtain rfl:n=b.length:=by omega
  have q0:(a.length:Int)<(b.length:Int)∨(b.length:Int)≤(a.length:Int):=by omega
  have q1:(a.length:Int)<(b.length:Int):=by omega
  have HZ:=hide (fun W=>c_zerosE b.length W hn2)
  clear hn q0
  go_enter Tryz.func195,Tryz.ntmps195
  go_wp2_with fail
  refine(c_size _ a _ HA.out).mono ?_;rintro e w' ⟨rfl,rfl⟩
  go_wp2_with fail
  refine(c_size _ b _ HBB.out).mono ?_;rintro e w' ⟨rfl,rfl⟩
  go_wp2_with fail
  refine(HZ.out _).mono ?_;rintro e w1 ⟨rfl,ho1,hb1⟩
  generalize hnn:b.length=n at *
  have HO1:=hide (show OwI 2 w1 w.heap.size (.slice (some ⟨w.heap.size,0,none⟩) n n) (addZ a b g n 0) by rw[addZ_none];exact ho1)
  have HB1:=hide hb1;clear ho1 hb1
  go_wp2
  go_loopw [17] (fun i wr=> ∃ k:Nat,k≤n∧i= .int .i64 k∧OwI 2 wr w.heap.size (.slice (some ⟨w.heap.size,0,none⟩) n n) (addZ a b g n k)∧Below w.heap.size w wr) (fun i _=>n - (intOf i).toNat)
  case atStart=>exact⟨0,Nat.zero_le _,rfl,HO1.out,HB1.out⟩
  case round=>
   obtain⟨k,hk,rfl,ho,hbw⟩:=hrel
   have HO:=hide ho;have HB:=hide hbw;have hsz:=hbw.size;clear ho hbw
   by_cases hlt:k<n
   ·obtain⟨e1,e2,_,_⟩:=HS.out (k:Int)
    have fr:=HO.out.freeN k
    have n1:((k:Int)<(n:Int)):=by omega
    have hlk:k<(addZ a b g n k).length:=by rw[length_addZ hk];exact hlt
    have hck:=hide (HO.out.cellN (List.getElem?_eq_getElem hlk))
    have ck:=hck.out
    generalize (addZ a b g n k)[k]=z0 at *
    go_wp2_with fail
    refine(c_at _ a _ _ (by omega) (Rd.below HA.out HB.out)).mono ?_;rintro e w' ⟨rfl,rfl⟩
    go_wp2_with fail
    refine(c_at _ b _ _ (by omega) (Rd.below HBB.out HB.out)).mono ?_;rintro e w' ⟨rfl,rfl⟩
    go_wp2_with ((go_at_call 242;refine(c_Wrap _ _).mono ?_;rintro e w' ⟨rfl,rfl⟩))
    have HO2:=hide (HO.out.setN k (wrp (smpAt a (k:Int)+g * smpAt b (k:Int))))
    have HG2:=hide (HO.out.grownN k (.int .i64 (wrp (smpAt a (k:Int)+g * smpAt b (k:Int)))))
    go_roundw
    case rel=>exact⟨k+1,by omega,by go_num,by rw[←addZ_set hlt];exact HO2.out,HB.out.grown HG2.out hsz (fun j hj=>by injection hj with hj;omega)⟩
    case measure=>simp[intOf];omega
   ·obtain rfl:k=n:=by omega
    go_wp2
    go_ret
    exact⟨_,rfl,by rw[←HALL.out,←addZ_full];exact HO.out,HB.out⟩
 ·obtain rfl:n=a.length:=by omega
  have q0:(a.length:Int)<(b.length:Int)∨(b.length:Int)≤(a.length:Int):=by omega
  have q1:(b.length:Int)≤(a.length:Int):=by omega
  have HZ:=hide (fun W=>c_zerosE a.length W hn2)
  clear hn q0
  go_enter Tryz.func195,Tryz.ntmps195
  go_wp2_with fail
  refine(c_size _ a _ HA.out).mono ?_;rintro e w' ⟨rfl,rfl⟩
  go_wp2_with fail
  refine(c_size _ b _ HBB.out).mono ?_;rintro e w' ⟨rfl,rfl⟩
  go_wp2_with fail
  refine(HZ.out _).mono ?_;rintro e w1 ⟨rfl,ho1,hb1⟩
  generalize hnn:a.length=n at *
  have HO1:=hide (show OwI 2 w1 w.heap.size (.slice (some ⟨w.heap.size,0,none⟩) n n) (addZ a b g n 0) by rw[addZ_none];exact ho1)
  have HB1:=hide hb1;clear ho1 hb1
  go_wp2
  go_loopw [17] (fun i wr=> ∃ k:Nat,k≤n∧i= .int .i64 k∧OwI 2 wr w.heap.size (.slice (some ⟨w.heap.size,0,none⟩) n n) (addZ a b g n k)∧Below w.heap.size w wr) (fun i _=>n - (intOf i).toNat)
  case atStart=>exact⟨0,Nat.zero_le _,rfl,HO1.out,HB1.out⟩
  case round=>
   obtain⟨k,hk,rfl,ho,hbw⟩:=hrel
   have HO:=hide ho;have HB:=hide hbw;have hsz:=hbw.size;clear ho hbw
   by_cases hlt:k<n
   ·obtain⟨e1,e2,_,_⟩:=HS.out (k:Int)
    have fr:=HO.out.freeN k
    have n1:((k:Int)<(n:Int)):=by omega
    have hlk:k<(addZ a b g n k).length:=by rw[length_addZ hk];exact hlt
    have hck:=hide (HO.out.cellN (List.getElem?_eq_getElem hlk))
    have ck:=hck.out
    generalize (addZ a b g n k)[k]=z0 at *
    go_wp2_with fail
    refine(c_at _ a _ _ (by omega) (Rd.below HA.out HB.out)).mono ?_;rintro e w' ⟨rfl,rfl⟩
    go_wp2_with fail
    refine(c_at _ b _ _ (by omega) (Rd.below HBB.out HB.out)).mono ?_;rintro e w' ⟨rfl,rfl⟩
    go_wp2_with ((go_at_call 242;refine(c_Wrap _ _).mono ?_;rintro e w' ⟨rfl,rfl⟩))
    have HO2:=hide (HO.out.setN k (wrp (smpAt a (k:Int)+g * smpAt b (k:Int))))
    have HG2:=hide (HO.out.grownN k (.int .i64 (wrp (smpAt a (k:Int)+g * smpAt b (k:Int)))))
    go_roundw
    case rel=>exact⟨k+1,by omega,by go_num,by rw[←addZ_set hlt];exact HO2.out,HB.out.grown HG2.out hsz (fun j hj=>by injection hj with hj;omega)⟩
    case measure=>simp[intOf];omega
   ·obtain rfl:k=n:=by omega
    go_wp2
    go_ret
    exact⟨_,rfl,by rw[←HALL.out,←addZ_full];exact HO.out,HB.out⟩
end Go.Proofs.YtoibekfhepnedaaGreat
end
