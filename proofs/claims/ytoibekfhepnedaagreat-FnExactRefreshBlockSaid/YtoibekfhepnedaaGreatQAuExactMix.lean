/- Memory while a mix is made: the inputs of all strips, the outputs, the times at which they are right. Arguments: a slice of structs that came in reads as a list. No program is named here. Arguments that are structs of slices of structs read as nested data. No program is named here. Arguments that are structs read as nested data. -/
import Derived.Test.YtoibekfhepnedaaGreatQAtExactMix
import Derived.Test.YtoibekfhepnedaaGreatQAaExactMix
import Derived.Deep.Slices
import Derived.ChangeSame
import Derived.ChangeArms
import Derived.Test.YtoibekfhepnedaaGreatQAbExactMix
set_option linter.unusedVariables false
set_option linter.unusedSimpArgs false

namespace Go.Proofs.YtoibekfhepnedaaGreat
section
open Go.RowKit
theorem zRy {E:TypeId} {w w':World} {B:Nat} {row:Option Nat} {v:Value} {xs:List Int} (h:OwI E w B v xs) (hg:w.grownBy w' row) (hd: ∀ g,v.ownBlock=some g→row≠some g):OwI E w' B v xs:=
 yDz (fun b hb=>hg.block b (h.lt b hb).2 (fun e=>hd b hb e.symm)) h
theorem Own.grown {B:Nat} {w w':World} {x:T} {F:List Nat} {v:Value} {row:Option Nat} (h:Own B w x F v) (hg:w.grownBy w' row) (hd: ∀ g ∈ F,row≠some g):Own B w' x F v:=
 ⟨T.ow_keep _ _ _ (fun b hb=>hg.block b (h.lt b hb) (fun e=>hd b hb e.symm)) h.ow,h.nodup,h.lo⟩
structure StM (w3 wr:World) (bi:Nat) (A F:List Nat) (cs:Array Value) (ins outs:List (List Int)) (vo vr:Value) (rdy:List Int):Prop where
 bel:Below w3.heap.size w3 wr
 lo:w3.heap.size≤bi
 cel:Cel wr bi A 26 cs ins
 outs:Own w3.heap.size wr (T.sl 26 1 (outs.map (T.ints 2))) F vo
 rdy:OwI 2 wr w3.heap.size vr rdy
 ai:bi ∈ A
 alt: ∀ q ∈ A,q<wr.heap.size
 af: ∀ g ∈ F,g ∈ A
 ar: ∀ g,vr.ownBlock=some g→g ∈ A
 nf:bi ∉ F
 nr: ∀ g,vr.ownBlock=some g→g≠bi∧g ∉ F
section
variable {w3 w w':World} {bi:Nat} {A F:List Nat} {cs:Array Value} {ins outs:List (List Int)} {vo vr:Value} {rdy:List Int}
theorem StM.below (h:StM w3 w bi A F cs ins outs vo vr rdy) (hb:Below w.heap.size w w'):StM w3 w' bi A F cs ins outs vo vr rdy:=
 ⟨yQ h.bel h.bel.size hb,h.lo,h.cel.below hb,h.outs.all hb,wX h.rdy hb,h.ai,fun q hq=>zW (h.alt q hq) hb.size,h.af,h.ar,h.nf,h.nr⟩
theorem StM.addv (h:StM w3 w bi A F cs ins outs vo vr rdy) (hb:Below w.heap.size w w') {v:Value} (hv: ∀ g,v.ownBlock=some g→w.heap.size≤g∧g<w'.heap.size):StM w3 w' bi (v.ownBlock.toList++A) F cs ins outs vo vr rdy:=
 ⟨yQ h.bel h.bel.size hb,h.lo,h.cel.grow (uGz hb none) (fun g e=>by cases e) (fun g hg=> .inr (hv g (by simpa using hg)).1),h.outs.all hb,wX h.rdy hb,List.mem_append_right _ h.ai,fun q hq=>by
  rcases List.mem_append.1 hq with hq|hq
  ·exact(hv q (by simpa using hq)).2
  ·exact zW (h.alt q hq) hb.size,fun g hg=>List.mem_append_right _ (h.af g hg),fun g hg=>List.mem_append_right _ (h.ar g hg),h.nf,h.nr⟩
theorem StM.put (h:StM w3 w bi A F cs ins outs vo vr rdy) {i:Nat} {l0 l:List Int} {v:Value} (hi:ins[i]?=some l0) (hv:RdI w v l) (hn: ∀ q ∈ A,v.ownBlock≠some q) (hl: ∀ k,v.ownBlock=some k→k<w.heap.size):StM w3 (w.setCell ⟨bi,i,none⟩ v) bi A F (cs.setIfInBounds i v) (ins.set i l) outs vo vr rdy:=
 ⟨h.bel.setCell h.lo _,h.lo,h.cel.put hi hv h.ai hn hl,h.outs.grown (zFy w bi i v) (fun g hg e=>by injection e with e;exact h.nf (by rw[e];exact hg)),zRy h.rdy (zFy w bi i v) (fun g hg e=>by injection e with e;exact(h.nr g hg).1 e.symm),h.ai,fun q hq=>by simpa[World.setCell] using h.alt q hq,h.af,h.ar,h.nf,h.nr⟩
theorem StM.out (h:StM w3 w bi A F cs ins outs vo vr rdy) {y:List Int} {v8:Value} {F8 Fx:List Nat} (h8:Own w3.heap.size w' (T.sl 26 1 ((outs++ [y]).map (T.ints 2))) F8 v8) (hg:w.grownBy w' vo.ownBlock) (hv: ∀ b ∈ F8,b ∈ F∨b ∈ Fx∨w.heap.size≤b) (hx: ∀ b ∈ Fx,b ∈ A∧b≠bi∧vr.ownBlock≠some b):StM w3 w' bi (F8++A) F8 cs ins (outs++ [y]) v8 vr rdy:=by
 have hvo: ∀ g,vo.ownBlock=some g→g ∈ F:=fun g hg=>h.outs.mem g hg
 have hrl: ∀ g,vr.ownBlock=some g→g<w.heap.size:=fun g hg=>(h.rdy.lt g hg).2
 have hbl:=h.cel.bk.lt;refine⟨h.bel.grown hg h.bel.size (fun j hj=>h.outs.row j hj),h.lo,h.cel.grow hg (fun g e=>⟨h.af g (hvo g e),fun e2=>h.nf (by rw[e2];exact hvo g e)⟩) (fun g hg=>?_),h8,zRy h.rdy hg (fun g hg e=>(h.nr g hg).2 (hvo g e)),List.mem_append_right _ h.ai,fun q hq=>(List.mem_append.1 hq).elim (fun hq=>h8.lt q hq) (fun hq=>zW (h.alt q hq) hg.size),fun g hg=>List.mem_append_left _ hg,fun g hg=>List.mem_append_right _ (h.ar g hg),fun hm=>?_,fun g hg=>⟨(h.nr g hg).1,fun hm=>?_⟩⟩
 ·rcases hv g hg with h1|h1|h1
  ·exact .inl (h.af g h1)
  ·exact .inl (hx g h1).1
  ·exact .inr h1
 ·rcases hv bi hm with h1|h1|h1
  ·exact h.nf h1
  ·exact(hx bi h1).2.1 rfl
  ·omega
 ·rcases hv g hm with h1|h1|h1
  ·exact(h.nr g hg).2 h1
  ·exact(hx g h1).2.2 hg
  ·have:=hrl g hg;omega
theorem StM.time (h:StM w3 w bi A F cs ins outs vo vr rdy) {z:Int} {v8:Value} (h8:OwI 2 w' w3.heap.size v8 (rdy++ [z])) (hg:w.grownBy w' vr.ownBlock) (hv: ∀ k,v8.ownBlock=some k→vr.ownBlock=some k∨w.heap.size≤k):StM w3 w' bi (v8.ownBlock.toList++A) F cs ins outs vo v8 (rdy++ [z]):=by
 have hbl:=h.cel.bk.lt;refine⟨h.bel.grown hg h.bel.size (fun j hj=>(h.rdy.lt j hj).1),h.lo,h.cel.grow hg (fun g e=>⟨h.ar g e,fun e2=>(h.nr g e).1 e2.symm⟩) (fun g hg=>?_),h.outs.grown hg (fun g hg e=>(h.nr g e).2 hg),h8,List.mem_append_right _ h.ai,fun q hq=>(List.mem_append.1 hq).elim (fun hq=>(h8.lt q (by simpa using hq)).2) (fun hq=>zW (h.alt q hq) hg.size),fun g hg=>List.mem_append_right _ (h.af g hg),fun g hg=>List.mem_append_left _ (by rw[hg];simp),h.nf,fun g hg=>?_⟩
 ·rcases hv g (by simpa using hg) with h1|h1
  ·exact .inl (h.ar g h1)
  ·exact .inr h1
 ·rcases hv g hg with h1|h1
  ·exact h.nr g h1
  ·exact⟨by omega,fun hm=>by have:=h.outs.lt g hm;omega⟩
theorem StM.two (h:StM w3 w bi [bi] [] cs ins [] (.slice none 0 0) (.slice none 0 0) []):StM w3 ((w.alloc (.cells #[] 26)).alloc (.cells #[] 2)) bi [w.heap.size,w.heap.size+1,bi] [w.heap.size] cs ins [] (.slice (some ⟨w.heap.size,0,none⟩) 0 0) (.slice (some ⟨w.heap.size+1,0,none⟩) 0 0) []:=by
 have hs:=h.bel.size;have hlb:=h.cel.bk.lt;have hb:Below w.heap.size w ((w.alloc (.cells #[] 26)).alloc (.cells #[] 2)):=(zR.alloc zJ _).alloc (by simp) _;have ho:=Own.born (B:=w.heap.size) (World.ownsRow_made w #[] 0 zJ (by decide) rfl:(w.alloc (.cells #[] 26)).ownsRow w.heap.size 26 1 (.slice (some ⟨w.heap.size,0,none⟩) 0 0) 0 []);have ho2:=(ho.all ((Below.refl (w.alloc (.cells #[] 26)).heap.size (w.alloc (.cells #[] 26))).alloc zJ (.cells #[] 2))).more hs
 have hr:OwI 2 ((w.alloc (.cells #[] 26)).alloc (.cells #[] 2)) w3.heap.size (.slice (some ⟨w.heap.size+1,0,none⟩) 0 0) []:=by
  have h2:=(vL (w.alloc (.cells #[] 26))).more (B':=w3.heap.size) (by simp;omega)
  simpa using h2
 refine⟨yQ h.bel h.bel.size hb,h.lo,h.cel.grow (uGz hb none) (fun g e=>by cases e) (G:= [w.heap.size,w.heap.size+1]) (fun g hg=> .inr (by simp at hg;omega)),by simpa[Value.ownBlock] using ho2,hr,by simp,by simp;omega,by simp,by simp[Value.ownBlock],by simp;omega,by simp[Value.ownBlock];omega⟩
end
def insUp (m k:Nat) (Z:List Int):List (List Int):=List.replicate k Z++List.replicate (m - k) []
theorem insUp_step {m k:Nat} {Z:List Int} (h:k<m):insUp m k Z=insUp m k Z∧(insUp m k Z)[k]?=some []∧(insUp m k Z).set k Z=insUp m (k+1) Z:=by
 refine⟨rfl,?_,?_⟩
 ·unfold insUp
  rw[List.getElem?_append_right (by simp),List.length_replicate,Nat.sub_self,List.getElem?_replicate];simp;omega
 ·unfold insUp
  rw[List.set_append_right _ _ (by simp),List.length_replicate,Nat.sub_self,show m - k=(m - (k+1))+1 by omega,List.replicate_succ,List.set_cons_zero,List.replicate_succ'];simp
theorem insUp_all (m:Nat) (Z:List Int):insUp m m Z=List.replicate m Z:=by simp[insUp]
end
section
open Go.RowKit Go.ChangeShapes Go.WideShapes Go.Deep
end
section
open Go.RowKit Go.ChangeShapes Go.WideShapes Go.Deep
theorem rds_range {w:World} (tr:Nat→T) (g:Nat→List Value): ∀ (l:List Nat),(∀ i ∈ l,T.rd w (tr i) (g i))→T.rds w (l.map tr) (l.flatMap g)
 | [],_=>T.c_re
 |i :: l,h=>by
  simp only[List.map_cons,List.flatMap_cons,T.rds];exact⟨_,_,rfl,h i (by simp),rds_range tr g l (fun j hj=>h j (by simp[hj]))⟩
theorem wCz {α H:Type} {enc:TypeId × Value→H} {P:Program} {w:World} {base:Nat} {spare:Nat→Bool} {held:Bool} {t e:TypeId} {fuel:Nat} {cs:List Value} {x:DataW H × List MemPlace} (E:TypeId)
  (tr:α→T) {sz:Nat} (good:α→Prop) (hw: ∀ x,T.wide (tr x)=sz) (hs:0<sz) (dflt:α) (ht:P.underlying t=some (.slice e)) (ce:P.cellsOf e=sz)
  (hel: ∀ n cs' y,DataW.trod enc P w base spare held n e cs'=some y→ ∃ z,T.rd w (tr z) cs'∧good z)
  (h:DataW.trod enc P w base spare held fuel t cs=some x): ∃ (v:Value) (xs:List α),cs= [v]∧T.rd w (.sl E sz (xs.map tr)) [v]∧ ∀ z ∈ xs,good z:=by
 rcases open_slice ht h with ⟨rfl,_⟩|⟨a,len,cap,m,n,D,Pl,rfl,hb,hl,hm,hmm,_,hx⟩
 ·refine⟨_,[],rfl,?_,by simp⟩
  simp only[T.rd,List.map_nil];exact⟨_,[],rfl,by simp,Rd.nil_ w sz,by simp[T.rds]⟩
 ·have hlm:len≤m:=by rw[hmm];split<;>omega
  have each: ∀ i,i<len→ ∃ z:α × List Value,z.2.length=sz∧T.rd w (tr z.1) z.2∧good z.1∧ ∀ j,j<sz→w.cell? (a.add (i * sz+j))=z.2[j]?:=by
   intro i hi;obtain⟨cs',h1,h2⟩:=hx i zM;rw[ce] at h1;obtain⟨_,hlen,hcell⟩:=World.cells?_some h1;obtain⟨z,hz,hg⟩:=hel _ _ _ h2;refine⟨(z,cs'),hlen,hz,hg,fun j hj=>?_⟩;rw[←hcell j hj,add_add]
  obtain⟨f,hf⟩:= @choose_lt (α × List Value) ⟨(dflt,[])⟩ len _ each
  let g:Nat→List Value:=fun i=>if i<len then (f i).2 else List.replicate sz (.bool true)
  have hgl: ∀ i,(g i).length=sz:=fun i=>by
   show (if i<len then (f i).2 else _).length=sz
   split
   ·next hi=>exact(hf i hi).1
   ·simp
  have hgi: ∀ i,i<len→g i=(f i).2:=fun i hi=>if_pos hi
  refine⟨_,(List.range len).map fun i=>(f i).1,rfl,?_,?_⟩
  ·simp only[T.rd]
   refine⟨_,(List.range len).flatMap g,rfl,?_,?_,?_⟩
   ·intro y hy
    obtain⟨z,_,rfl⟩:=List.mem_map.1 hy;exact hw z
   ·have hlen:(((List.range len).map fun i=>(f i).1).map tr).length=len:=by simp
    rw[hlen];refine⟨by rw[flat_len hgl];simp,some a,cap,rfl,hl,by unfold maxLen at hm;omega,fun hn=>?_⟩;have hc0:=(hf 0 hn).2.2.2 0 hs;rw[gE (by rw[(hf 0 hn).1];exact hs)] at hc0;have hz:a.add (0 * sz+0)=a:=by simp[Addr.add]
    rw[hz] at hc0
    have hsp:a.spot=none:=by
     unfold World.cell? at hc0
     split at hc0
     ·split at hc0
      ·cases hc0
      ·rename_i h';simpa using h'
     ·cases hc0
    obtain⟨b,off,sp⟩:=a;simp only at hsp;subst hsp;refine⟨b,off,rfl,World.block_lt_of_cell? w _ hc0,fun j u hu=>?_⟩;have hj:j<len * sz:=by have:=(List.getElem?_eq_some_iff.1 hu).1;rw[flat_len hgl] at this;simpa using this
    have hk:j / sz<len:=(Nat.div_lt_iff_lt_mul hs).2 hj;have hjm:j % sz<sz:=Nat.mod_lt _ hs;have ej:j / sz * sz+j % sz=j:=by have:=Nat.div_add_mod j sz;rw[Nat.mul_comm] at this;exact this
    have h1:=(hf (j / sz) hk).2.2.2 (j % sz) hjm;have hin:(g (j / sz))[j % sz]?=some ((g (j / sz))[j % sz]'(by rw[hgl];exact hjm)):=gE _;have h3:=flat_at hgl (xs:=List.range len) (k:=j / sz) (j:=j % sz) (x:=j / sz) (by simp[hk]) hin;rw[ej,hu] at h3;rw[ej,←hgi _ hk,hin,←h3] at h1;rw[show (⟨b,off+j,none⟩:Addr)=(⟨b,off,none⟩:Addr).add j by unfold Addr.add;split<;>simp_all];exact h1
   ·have:=rds_range (w:=w) (fun i=>tr (f i).1) g (List.range len) (fun i hi=>by
     have hi':=List.mem_range.1 hi;rw[hgi i hi'];exact(hf i hi').2.1)
    rw[List.map_map];exact this
  ·intro z hz
   simp only[List.mem_map,List.mem_range] at hz;obtain⟨i,hi,rfl⟩:=hz;exact(hf i hi).2.2.1
end
section
open Go.RowKit Go.ChangeShapes Go.WideShapes Go.Deep
theorem uA {α:Type} : ∀ (n:Nat) (l:List α),l.length=n+1→ ∃ a t,l=a :: t∧t.length=n
 |n,a :: t,h=>⟨a,t,rfl,by simpa using h⟩
theorem i64_ok {n:Int} (h:(Lit.int .i64 n).wf=true):I64 n:=i64_of_wf h
theorem op_n {H:Type} {enc:TypeId × Value→H} {W:World} {base:Nat} {spare:Nat→Bool} {held:Bool} {fuel:Nat} {cs:List Value} {x:DataW H × List MemPlace} (h:DataW.trod enc Tryz.prog W base spare held fuel 2 cs=some x): ∃ n:Int,cs= [.int .i64 n]∧I64 n:=by
 obtain⟨n,e,_,hw⟩:=DataW.trod_int Tryz.underlying2 h;exact⟨n,e,i64_ok hw⟩
theorem op_s {H:Type} {enc:TypeId × Value→H} {W:World} {base:Nat} {spare:Nat→Bool} {held:Bool} {fuel:Nat} {cs:List Value} {x:DataW H × List MemPlace} (h:DataW.trod enc Tryz.prog W base spare held fuel 9 cs=some x): ∃ n:ByteArray,cs= [.string n]∧n.size≤9223372036854775807:=by
 obtain⟨n,e,_,hw⟩:=DataW.trod_string Tryz.underlying9 h;exact⟨n,e,by unfold maxLen at hw;omega⟩
theorem op_LI {H:Type} {enc:TypeId × Value→H} {W:World} {base:Nat} {spare:Nat→Bool} {held:Bool} {fuel:Nat} {cs:List Value} {x:DataW H × List MemPlace} (h:DataW.trod enc Tryz.prog W base spare held fuel 26 cs=some x): ∃ (v:Value) (xs:List Int),cs= [v]∧T.rd W (T.ints 2 xs) [v]∧ ∀ y ∈ xs,I64 y:=
 wCz 2 T.num I64 (fun _=>rfl) zM 0 Tryz.underlying26 (by kernel_rfl) (fun n cs' y hy=>by
  obtain⟨z,e,hz⟩:=op_n hy;exact⟨z,by simp only[T.rd];exact e,hz⟩) h
theorem op_LL {H:Type} {enc:TypeId × Value→H} {W:World} {base:Nat} {spare:Nat→Bool} {held:Bool} {fuel:Nat} {cs:List Value} {x:DataW H × List MemPlace} (h:DataW.trod enc Tryz.prog W base spare held fuel 24 cs=some x): ∃ (v:Value) (xs:List (List Int)),cs= [v]∧T.rd W (T.sl 26 1 (xs.map (T.ints 2))) [v]∧ ∀ l ∈ xs,∀ y ∈ l,I64 y:=
 wCz 26 (T.ints 2) (fun l=> ∀ y ∈ l,I64 y) (fun _=>rfl) zM [] Tryz.underlying24 (by kernel_rfl) (fun n cs' y hy=>by
  obtain⟨v,z,e,hr,hz⟩:=op_LI hy;exact⟨z,by rw[e];exact hr,hz⟩) h
theorem op_Clip {H:Type} {enc:TypeId × Value→H} {W:World} {base:Nat} {spare:Nat→Bool} {held:Bool} {fuel:Nat} {cs:List Value} {x:DataW H × List MemPlace} (h:DataW.trod enc Tryz.prog W base spare held fuel 282 cs=some x): ∃ g:xU,T.rds W g.fs cs∧g.good:=by
 obtain⟨ys,k,_,_,hcl,hyl,hf⟩:=DataW.trod_struct Tryz.underlying282 h;have hl5:cs.length=5:=hcl.trans (by kernel_rfl);obtain⟨c0,cs0,rfl,hl4⟩:=uA 4 _ hl5;obtain⟨c1,cs1,rfl,hl3⟩:=uA 3 _ hl4;obtain⟨c2,cs2,rfl,hl2⟩:=uA 2 _ hl3;obtain⟨c3,cs3,rfl,hl1⟩:=uA 1 _ hl2;obtain⟨c4,cs4,rfl,hl0⟩:=uA 0 _ hl1;obtain rfl:cs4= []:=List.eq_nil_of_length_eq_zero hl0;have hyn:ys.length=5:=hyl;have z0:Tryz.prog.cellsOf 2=1:=by kernel_rfl
 have g0:DataW.trod enc Tryz.prog W base spare held k 2 (List.take (Tryz.prog.cellsOf 2) (List.drop 0 [c0,c1,c2,c3,c4]))=ys[0]?:=hf 0 _ rfl;rw[z0,gE zM] at g0;replace g0:DataW.trod enc Tryz.prog W base spare held k 2 [c0]=some _:=g0;obtain⟨n0,e0,w0⟩:=op_n g0;have g1:DataW.trod enc Tryz.prog W base spare held k 2 (List.take (Tryz.prog.cellsOf 2) (List.drop 1 [c0,c1,c2,c3,c4]))=ys[1]?:=hf 1 _ rfl;rw[z0,gE zM] at g1;replace g1:DataW.trod enc Tryz.prog W base spare held k 2 [c1]=some _:=g1;obtain⟨n1,e1,w1⟩:=op_n g1;have g2:DataW.trod enc Tryz.prog W base spare held k 2 (List.take (Tryz.prog.cellsOf 2) (List.drop 2 [c0,c1,c2,c3,c4]))=ys[2]?:=hf 2 _ rfl;rw[z0,gE zM] at g2;replace g2:DataW.trod enc Tryz.prog W base spare held k 2 [c2]=some _:=g2;obtain⟨n2,e2,w2⟩:=op_n g2;have g3:DataW.trod enc Tryz.prog W base spare held k 2 (List.take (Tryz.prog.cellsOf 2) (List.drop 3 [c0,c1,c2,c3,c4]))=ys[3]?:=hf 3 _ rfl;rw[z0,gE zM] at g3;replace g3:DataW.trod enc Tryz.prog W base spare held k 2 [c3]=some _:=g3;obtain⟨n3,e3,w3⟩:=op_n g3;have g4:DataW.trod enc Tryz.prog W base spare held k 2 (List.take (Tryz.prog.cellsOf 2) (List.drop 4 [c0,c1,c2,c3,c4]))=ys[4]?:=hf 4 _ rfl;rw[z0,gE zM] at g4;replace g4:DataW.trod enc Tryz.prog W base spare held k 2 [c4]=some _:=g4;obtain⟨n4,e4,w4⟩:=op_n g4;obtain rfl:c0=_:=(List.cons.inj e0).1;obtain rfl:c1=_:=(List.cons.inj e1).1;obtain rfl:c2=_:=(List.cons.inj e2).1;obtain rfl:c3=_:=(List.cons.inj e3).1;obtain rfl:c4=_:=(List.cons.inj e4).1;refine⟨⟨n0,n1,n2,n3,n4⟩,?_,⟨w0,w1,w2,w3,w4⟩⟩;unfold xU.fs;exact T.c_rn (T.c_rn (T.c_rn (T.c_rn (T.c_rn (T.c_re)))))
theorem op_LClip {H:Type} {enc:TypeId × Value→H} {W:World} {base:Nat} {spare:Nat→Bool} {held:Bool} {fuel:Nat} {cs:List Value} {x:DataW H × List MemPlace} (h:DataW.trod enc Tryz.prog W base spare held fuel 183 cs=some x): ∃ (v:Value) (xs:List xU),cs= [v]∧T.rd W (T.sl 39 5 (xs.map xU.t)) [v]∧ ∀ y ∈ xs,xU.good y:=
 wCz 39 xU.t xU.good xU.wide_t zM ⟨0,0,0,0,0⟩ Tryz.underlying183 (by kernel_rfl) (fun n cs' y hy=>by
  obtain⟨z,hz,hg⟩:=op_Clip hy;exact⟨z,by simp only[xU.t,T.rd];exact hz,hg⟩) h
theorem op_Track {H:Type} {enc:TypeId × Value→H} {W:World} {base:Nat} {spare:Nat→Bool} {held:Bool} {fuel:Nat} {cs:List Value} {x:DataW H × List MemPlace} (h:DataW.trod enc Tryz.prog W base spare held fuel 185 cs=some x): ∃ g:xQ,T.rds W g.fs cs∧g.good:=by
 obtain⟨ys,k,_,_,hcl,hyl,hf⟩:=DataW.trod_struct Tryz.underlying185 h;have hl1:cs.length=1:=hcl.trans (by kernel_rfl);obtain⟨c0,cs0,rfl,hl0⟩:=uA 0 _ hl1;obtain rfl:cs0= []:=List.eq_nil_of_length_eq_zero hl0;have hyn:ys.length=1:=hyl;have z0:Tryz.prog.cellsOf 183=1:=by kernel_rfl
 have g0:DataW.trod enc Tryz.prog W base spare held k 183 (List.take (Tryz.prog.cellsOf 183) (List.drop 0 [c0]))=ys[0]?:=hf 0 _ rfl;rw[z0,gE zM] at g0;replace g0:DataW.trod enc Tryz.prog W base spare held k 183 [c0]=some _:=g0;obtain⟨v0,n0,e0,r0,w0⟩:=op_LClip g0;obtain rfl:c0=v0:=(List.cons.inj e0).1;refine⟨⟨n0⟩,?_,w0⟩;unfold xQ.fs;exact T.c_rl r0 (T.c_re)
theorem op_LTrack {H:Type} {enc:TypeId × Value→H} {W:World} {base:Nat} {spare:Nat→Bool} {held:Bool} {fuel:Nat} {cs:List Value} {x:DataW H × List MemPlace} (h:DataW.trod enc Tryz.prog W base spare held fuel 53 cs=some x): ∃ (v:Value) (xs:List xQ),cs= [v]∧T.rd W (T.sl 96 1 (xs.map xQ.t)) [v]∧ ∀ y ∈ xs,xQ.good y:=
 wCz 96 xQ.t xQ.good xQ.wide_t zM ⟨[]⟩ Tryz.underlying53 (by kernel_rfl) (fun n cs' y hy=>by
  obtain⟨z,hz,hg⟩:=op_Track hy;exact⟨z,by simp only[xQ.t,T.rd];exact hz,hg⟩) h
theorem op_Node {H:Type} {enc:TypeId × Value→H} {W:World} {base:Nat} {spare:Nat→Bool} {held:Bool} {fuel:Nat} {cs:List Value} {x:DataW H × List MemPlace} (h:DataW.trod enc Tryz.prog W base spare held fuel 279 cs=some x): ∃ g:xR,T.rds W g.fs cs∧g.good:=by
 obtain⟨ys,k,_,_,hcl,hyl,hf⟩:=DataW.trod_struct Tryz.underlying279 h;have hl4:cs.length=4:=hcl.trans (by kernel_rfl);obtain⟨c0,cs0,rfl,hl3⟩:=uA 3 _ hl4;obtain⟨c1,cs1,rfl,hl2⟩:=uA 2 _ hl3;obtain⟨c2,cs2,rfl,hl1⟩:=uA 1 _ hl2;obtain⟨c3,cs3,rfl,hl0⟩:=uA 0 _ hl1;obtain rfl:cs3= []:=List.eq_nil_of_length_eq_zero hl0;have hyn:ys.length=4:=hyl;have z0:Tryz.prog.cellsOf 26=1:=by kernel_rfl
 have z1:Tryz.prog.cellsOf 2=1:=by kernel_rfl
 have g0:DataW.trod enc Tryz.prog W base spare held k 2 (List.take (Tryz.prog.cellsOf 2) (List.drop 0 [c0,c1,c2,c3]))=ys[0]?:=hf 0 _ rfl;rw[z1,gE zM] at g0;replace g0:DataW.trod enc Tryz.prog W base spare held k 2 [c0]=some _:=g0;obtain⟨n0,e0,w0⟩:=op_n g0;have g1:DataW.trod enc Tryz.prog W base spare held k 2 (List.take (Tryz.prog.cellsOf 2) (List.drop 1 [c0,c1,c2,c3]))=ys[1]?:=hf 1 _ rfl;rw[z1,gE zM] at g1;replace g1:DataW.trod enc Tryz.prog W base spare held k 2 [c1]=some _:=g1;obtain⟨n1,e1,w1⟩:=op_n g1;have g2:DataW.trod enc Tryz.prog W base spare held k 2 (List.take (Tryz.prog.cellsOf 2) (List.drop 2 [c0,c1,c2,c3]))=ys[2]?:=hf 2 _ rfl;rw[z1,gE zM] at g2;replace g2:DataW.trod enc Tryz.prog W base spare held k 2 [c2]=some _:=g2;obtain⟨n2,e2,w2⟩:=op_n g2;have g3:DataW.trod enc Tryz.prog W base spare held k 26 (List.take (Tryz.prog.cellsOf 26) (List.drop 3 [c0,c1,c2,c3]))=ys[3]?:=hf 3 _ rfl;rw[z0,gE zM] at g3;replace g3:DataW.trod enc Tryz.prog W base spare held k 26 [c3]=some _:=g3;obtain⟨v3,n3,e3,r3,w3⟩:=op_LI g3;obtain rfl:c0=_:=(List.cons.inj e0).1;obtain rfl:c1=_:=(List.cons.inj e1).1;obtain rfl:c2=_:=(List.cons.inj e2).1;obtain rfl:c3=v3:=(List.cons.inj e3).1;refine⟨⟨n0,n1,n2,n3⟩,?_,⟨w0,w1,w2,w3⟩⟩;unfold xR.fs;exact T.c_rn (T.c_rn (T.c_rn (T.c_rl r3 (T.c_re))))
theorem op_LNode {H:Type} {enc:TypeId × Value→H} {W:World} {base:Nat} {spare:Nat→Bool} {held:Bool} {fuel:Nat} {cs:List Value} {x:DataW H × List MemPlace} (h:DataW.trod enc Tryz.prog W base spare held fuel 187 cs=some x): ∃ (v:Value) (xs:List xR),cs= [v]∧T.rd W (T.sl 167 4 (xs.map xR.t)) [v]∧ ∀ y ∈ xs,xR.good y:=
 wCz 167 xR.t xR.good xR.wide_t zM ⟨0,0,0,[]⟩ Tryz.underlying187 (by kernel_rfl) (fun n cs' y hy=>by
  obtain⟨z,hz,hg⟩:=op_Node hy;exact⟨z,by simp only[xR.t,T.rd];exact hz,hg⟩) h
theorem op_Patch {H:Type} {enc:TypeId × Value→H} {W:World} {base:Nat} {spare:Nat→Bool} {held:Bool} {fuel:Nat} {cs:List Value} {x:DataW H × List MemPlace} (h:DataW.trod enc Tryz.prog W base spare held fuel 189 cs=some x): ∃ g:xO,T.rds W g.fs cs∧g.good:=by
 obtain⟨ys,k,_,_,hcl,hyl,hf⟩:=DataW.trod_struct Tryz.underlying189 h;have hl4:cs.length=4:=hcl.trans (by kernel_rfl);obtain⟨c0,cs0,rfl,hl3⟩:=uA 3 _ hl4;obtain⟨c1,cs1,rfl,hl2⟩:=uA 2 _ hl3;obtain⟨c2,cs2,rfl,hl1⟩:=uA 1 _ hl2;obtain⟨c3,cs3,rfl,hl0⟩:=uA 0 _ hl1;obtain rfl:cs3= []:=List.eq_nil_of_length_eq_zero hl0;have hyn:ys.length=4:=hyl;have z0:Tryz.prog.cellsOf 24=1:=by kernel_rfl
 have z1:Tryz.prog.cellsOf 26=1:=by kernel_rfl
 have z2:Tryz.prog.cellsOf 187=1:=by kernel_rfl
 have z3:Tryz.prog.cellsOf 2=1:=by kernel_rfl
 have g0:DataW.trod enc Tryz.prog W base spare held k 2 (List.take (Tryz.prog.cellsOf 2) (List.drop 0 [c0,c1,c2,c3]))=ys[0]?:=hf 0 _ rfl;rw[z3,gE zM] at g0;replace g0:DataW.trod enc Tryz.prog W base spare held k 2 [c0]=some _:=g0;obtain⟨n0,e0,w0⟩:=op_n g0;have g1:DataW.trod enc Tryz.prog W base spare held k 24 (List.take (Tryz.prog.cellsOf 24) (List.drop 1 [c0,c1,c2,c3]))=ys[1]?:=hf 1 _ rfl;rw[z0,gE zM] at g1;replace g1:DataW.trod enc Tryz.prog W base spare held k 24 [c1]=some _:=g1;obtain⟨v1,n1,e1,r1,w1⟩:=op_LL g1;have g2:DataW.trod enc Tryz.prog W base spare held k 187 (List.take (Tryz.prog.cellsOf 187) (List.drop 2 [c0,c1,c2,c3]))=ys[2]?:=hf 2 _ rfl;rw[z2,gE zM] at g2;replace g2:DataW.trod enc Tryz.prog W base spare held k 187 [c2]=some _:=g2;obtain⟨v2,n2,e2,r2,w2⟩:=op_LNode g2;have g3:DataW.trod enc Tryz.prog W base spare held k 26 (List.take (Tryz.prog.cellsOf 26) (List.drop 3 [c0,c1,c2,c3]))=ys[3]?:=hf 3 _ rfl;rw[z1,gE zM] at g3;replace g3:DataW.trod enc Tryz.prog W base spare held k 26 [c3]=some _:=g3;obtain⟨v3,n3,e3,r3,w3⟩:=op_LI g3;obtain rfl:c0=_:=(List.cons.inj e0).1;obtain rfl:c1=v1:=(List.cons.inj e1).1;obtain rfl:c2=v2:=(List.cons.inj e2).1;obtain rfl:c3=v3:=(List.cons.inj e3).1;refine⟨⟨n0,n1,n2,n3⟩,?_,⟨w0,w1,w2,w3⟩⟩;unfold xO.fs;exact T.c_rn (T.c_rl r1 (T.c_rl r2 (T.c_rl r3 (T.c_re))))
theorem op_LPatch {H:Type} {enc:TypeId × Value→H} {W:World} {base:Nat} {spare:Nat→Bool} {held:Bool} {fuel:Nat} {cs:List Value} {x:DataW H × List MemPlace} (h:DataW.trod enc Tryz.prog W base spare held fuel 54 cs=some x): ∃ (v:Value) (xs:List xO),cs= [v]∧T.rd W (T.sl 108 4 (xs.map xO.t)) [v]∧ ∀ y ∈ xs,xO.good y:=
 wCz 108 xO.t xO.good xO.wide_t zM ⟨0,[],[],[]⟩ Tryz.underlying54 (by kernel_rfl) (fun n cs' y hy=>by
  obtain⟨z,hz,hg⟩:=op_Patch hy;exact⟨z,by simp only[xO.t,T.rd];exact hz,hg⟩) h
theorem op_Send {H:Type} {enc:TypeId × Value→H} {W:World} {base:Nat} {spare:Nat→Bool} {held:Bool} {fuel:Nat} {cs:List Value} {x:DataW H × List MemPlace} (h:DataW.trod enc Tryz.prog W base spare held fuel 303 cs=some x): ∃ g:xV,T.rds W g.fs cs∧g.good:=by
 obtain⟨ys,k,_,_,hcl,hyl,hf⟩:=DataW.trod_struct Tryz.underlying303 h;have hl2:cs.length=2:=hcl.trans (by kernel_rfl);obtain⟨c0,cs0,rfl,hl1⟩:=uA 1 _ hl2;obtain⟨c1,cs1,rfl,hl0⟩:=uA 0 _ hl1;obtain rfl:cs1= []:=List.eq_nil_of_length_eq_zero hl0;have hyn:ys.length=2:=hyl;have z0:Tryz.prog.cellsOf 2=1:=by kernel_rfl
 have g0:DataW.trod enc Tryz.prog W base spare held k 2 (List.take (Tryz.prog.cellsOf 2) (List.drop 0 [c0,c1]))=ys[0]?:=hf 0 _ rfl;rw[z0,gE zM] at g0;replace g0:DataW.trod enc Tryz.prog W base spare held k 2 [c0]=some _:=g0;obtain⟨n0,e0,w0⟩:=op_n g0;have g1:DataW.trod enc Tryz.prog W base spare held k 2 (List.take (Tryz.prog.cellsOf 2) (List.drop 1 [c0,c1]))=ys[1]?:=hf 1 _ rfl;rw[z0,gE zM] at g1;replace g1:DataW.trod enc Tryz.prog W base spare held k 2 [c1]=some _:=g1;obtain⟨n1,e1,w1⟩:=op_n g1;obtain rfl:c0=_:=(List.cons.inj e0).1;obtain rfl:c1=_:=(List.cons.inj e1).1;refine⟨⟨n0,n1⟩,?_,⟨w0,w1⟩⟩;unfold xV.fs;exact T.c_rn (T.c_rn (T.c_re))
theorem op_LSend {H:Type} {enc:TypeId × Value→H} {W:World} {base:Nat} {spare:Nat→Bool} {held:Bool} {fuel:Nat} {cs:List Value} {x:DataW H × List MemPlace} (h:DataW.trod enc Tryz.prog W base spare held fuel 241 cs=some x): ∃ (v:Value) (xs:List xV),cs= [v]∧T.rd W (T.sl 98 2 (xs.map xV.t)) [v]∧ ∀ y ∈ xs,xV.good y:=
 wCz 98 xV.t xV.good xV.wide_t zM ⟨0,0⟩ Tryz.underlying241 (by kernel_rfl) (fun n cs' y hy=>by
  obtain⟨z,hz,hg⟩:=op_Send hy;exact⟨z,by simp only[xV.t,T.rd];exact hz,hg⟩) h
theorem op_Strip {H:Type} {enc:TypeId × Value→H} {W:World} {base:Nat} {spare:Nat→Bool} {held:Bool} {fuel:Nat} {cs:List Value} {x:DataW H × List MemPlace} (h:DataW.trod enc Tryz.prog W base spare held fuel 243 cs=some x): ∃ g:xP,T.rds W g.fs cs∧g.good:=by
 obtain⟨ys,k,_,_,hcl,hyl,hf⟩:=DataW.trod_struct Tryz.underlying243 h;have hl3:cs.length=3:=hcl.trans (by kernel_rfl);obtain⟨c0,cs0,rfl,hl2⟩:=uA 2 _ hl3;obtain⟨c1,cs1,rfl,hl1⟩:=uA 1 _ hl2;obtain⟨c2,cs2,rfl,hl0⟩:=uA 0 _ hl1;obtain rfl:cs2= []:=List.eq_nil_of_length_eq_zero hl0;have hyn:ys.length=3:=hyl;have z0:Tryz.prog.cellsOf 241=1:=by kernel_rfl
 have z1:Tryz.prog.cellsOf 2=1:=by kernel_rfl
 have z2:Tryz.prog.cellsOf 9=1:=by kernel_rfl
 have g0:DataW.trod enc Tryz.prog W base spare held k 9 (List.take (Tryz.prog.cellsOf 9) (List.drop 0 [c0,c1,c2]))=ys[0]?:=hf 0 _ rfl;rw[z2,gE zM] at g0;replace g0:DataW.trod enc Tryz.prog W base spare held k 9 [c0]=some _:=g0;obtain⟨n0,e0,w0⟩:=op_s g0;have g1:DataW.trod enc Tryz.prog W base spare held k 2 (List.take (Tryz.prog.cellsOf 2) (List.drop 1 [c0,c1,c2]))=ys[1]?:=hf 1 _ rfl;rw[z1,gE zM] at g1;replace g1:DataW.trod enc Tryz.prog W base spare held k 2 [c1]=some _:=g1;obtain⟨n1,e1,w1⟩:=op_n g1;have g2:DataW.trod enc Tryz.prog W base spare held k 241 (List.take (Tryz.prog.cellsOf 241) (List.drop 2 [c0,c1,c2]))=ys[2]?:=hf 2 _ rfl;rw[z0,gE zM] at g2;replace g2:DataW.trod enc Tryz.prog W base spare held k 241 [c2]=some _:=g2;obtain⟨v2,n2,e2,r2,w2⟩:=op_LSend g2;obtain rfl:c0=_:=(List.cons.inj e0).1;obtain rfl:c1=_:=(List.cons.inj e1).1;obtain rfl:c2=v2:=(List.cons.inj e2).1;refine⟨⟨n0,n1,n2⟩,?_,⟨w0,w1,w2⟩⟩;unfold xP.fs;exact T.c_rs (T.c_rn (T.c_rl r2 (T.c_re)))
theorem op_LStrip {H:Type} {enc:TypeId × Value→H} {W:World} {base:Nat} {spare:Nat→Bool} {held:Bool} {fuel:Nat} {cs:List Value} {x:DataW H × List MemPlace} (h:DataW.trod enc Tryz.prog W base spare held fuel 55 cs=some x): ∃ (v:Value) (xs:List xP),cs= [v]∧T.rd W (T.sl 101 3 (xs.map xP.t)) [v]∧ ∀ y ∈ xs,xP.good y:=
 wCz 101 xP.t xP.good xP.wide_t zM ⟨ByteArray.empty,0,[]⟩ Tryz.underlying55 (by kernel_rfl) (fun n cs' y hy=>by
  obtain⟨z,hz,hg⟩:=op_Strip hy;exact⟨z,by simp only[xP.t,T.rd];exact hz,hg⟩) h
theorem op_Mixer {H:Type} {enc:TypeId × Value→H} {W:World} {base:Nat} {spare:Nat→Bool} {held:Bool} {fuel:Nat} {cs:List Value} {x:DataW H × List MemPlace} (h:DataW.trod enc Tryz.prog W base spare held fuel 57 cs=some x): ∃ g:wG,T.rds W g.fs cs∧g.good:=by
 obtain⟨ys,k,_,_,hcl,hyl,hf⟩:=DataW.trod_struct Tryz.underlying57 h;have hl1:cs.length=1:=hcl.trans (by kernel_rfl);obtain⟨c0,cs0,rfl,hl0⟩:=uA 0 _ hl1;obtain rfl:cs0= []:=List.eq_nil_of_length_eq_zero hl0;have hyn:ys.length=1:=hyl;have z0:Tryz.prog.cellsOf 55=1:=by kernel_rfl
 have g0:DataW.trod enc Tryz.prog W base spare held k 55 (List.take (Tryz.prog.cellsOf 55) (List.drop 0 [c0]))=ys[0]?:=hf 0 _ rfl;rw[z0,gE zM] at g0;replace g0:DataW.trod enc Tryz.prog W base spare held k 55 [c0]=some _:=g0;obtain⟨v0,n0,e0,r0,w0⟩:=op_LStrip g0;obtain rfl:c0=v0:=(List.cons.inj e0).1;refine⟨⟨n0⟩,?_,w0⟩;unfold wG.fs;exact T.c_rl r0 (T.c_re)
theorem op_Session {H:Type} {enc:TypeId × Value→H} {W:World} {base:Nat} {spare:Nat→Bool} {held:Bool} {fuel:Nat} {cs:List Value} {x:DataW H × List MemPlace} (h:DataW.trod enc Tryz.prog W base spare held fuel 59 cs=some x): ∃ g:xS,T.rds W g.fs cs∧g.good:=by
 obtain⟨ys,k,_,_,hcl,hyl,hf⟩:=DataW.trod_struct Tryz.underlying59 h;have hl6:cs.length=6:=hcl.trans (by kernel_rfl);obtain⟨c0,cs0,rfl,hl5⟩:=uA 5 _ hl6;obtain⟨c1,cs1,rfl,hl4⟩:=uA 4 _ hl5;obtain⟨c2,cs2,rfl,hl3⟩:=uA 3 _ hl4;obtain⟨c3,cs3,rfl,hl2⟩:=uA 2 _ hl3;obtain⟨c4,cs4,rfl,hl1⟩:=uA 1 _ hl2;obtain⟨c5,cs5,rfl,hl0⟩:=uA 0 _ hl1;obtain rfl:cs5= []:=List.eq_nil_of_length_eq_zero hl0;have hyn:ys.length=6:=hyl;have z0:Tryz.prog.cellsOf 24=1:=by kernel_rfl
 have z1:Tryz.prog.cellsOf 26=1:=by kernel_rfl
 have z2:Tryz.prog.cellsOf 54=1:=by kernel_rfl
 have z3:Tryz.prog.cellsOf 53=1:=by kernel_rfl
 have z4:Tryz.prog.cellsOf 2=1:=by kernel_rfl
 have z5:Tryz.prog.cellsOf 57=1:=by kernel_rfl
 have g0:DataW.trod enc Tryz.prog W base spare held k 2 (List.take (Tryz.prog.cellsOf 2) (List.drop 0 [c0,c1,c2,c3,c4,c5]))=ys[0]?:=hf 0 _ rfl;rw[z4,gE zM] at g0;replace g0:DataW.trod enc Tryz.prog W base spare held k 2 [c0]=some _:=g0;obtain⟨n0,e0,w0⟩:=op_n g0;have g1:DataW.trod enc Tryz.prog W base spare held k 24 (List.take (Tryz.prog.cellsOf 24) (List.drop 1 [c0,c1,c2,c3,c4,c5]))=ys[1]?:=hf 1 _ rfl;rw[z0,gE zM] at g1;replace g1:DataW.trod enc Tryz.prog W base spare held k 24 [c1]=some _:=g1;obtain⟨v1,n1,e1,r1,w1⟩:=op_LL g1;have g2:DataW.trod enc Tryz.prog W base spare held k 53 (List.take (Tryz.prog.cellsOf 53) (List.drop 2 [c0,c1,c2,c3,c4,c5]))=ys[2]?:=hf 2 _ rfl;rw[z3,gE zM] at g2;replace g2:DataW.trod enc Tryz.prog W base spare held k 53 [c2]=some _:=g2;obtain⟨v2,n2,e2,r2,w2⟩:=op_LTrack g2;have g3:DataW.trod enc Tryz.prog W base spare held k 26 (List.take (Tryz.prog.cellsOf 26) (List.drop 3 [c0,c1,c2,c3,c4,c5]))=ys[3]?:=hf 3 _ rfl;rw[z1,gE zM] at g3;replace g3:DataW.trod enc Tryz.prog W base spare held k 26 [c3]=some _:=g3;obtain⟨v3,n3,e3,r3,w3⟩:=op_LI g3;have g4:DataW.trod enc Tryz.prog W base spare held k 54 (List.take (Tryz.prog.cellsOf 54) (List.drop 4 [c0,c1,c2,c3,c4,c5]))=ys[4]?:=hf 4 _ rfl;rw[z2,gE zM] at g4;replace g4:DataW.trod enc Tryz.prog W base spare held k 54 [c4]=some _:=g4;obtain⟨v4,n4,e4,r4,w4⟩:=op_LPatch g4;have g5:DataW.trod enc Tryz.prog W base spare held k 57 (List.take (Tryz.prog.cellsOf 57) (List.drop 5 [c0,c1,c2,c3,c4,c5]))=ys[5]?:=hf 5 _ rfl;rw[z5,gE zM] at g5;replace g5:DataW.trod enc Tryz.prog W base spare held k 57 [c5]=some _:=g5;obtain⟨n5,r5,w5⟩:=op_Mixer g5;obtain rfl:c0=_:=(List.cons.inj e0).1;obtain rfl:c1=v1:=(List.cons.inj e1).1;obtain rfl:c2=v2:=(List.cons.inj e2).1;obtain rfl:c3=v3:=(List.cons.inj e3).1;obtain rfl:c4=v4:=(List.cons.inj e4).1;refine⟨⟨n0,n1,n2,n3,n4,n5⟩,?_,⟨w0,w1,w2,w3,w4,w5⟩⟩;obtain⟨s5_0,he5,sr5_0⟩:=wG.yV r5;simp only[List.cons.injEq,and_true] at he5;subst he5;unfold xS.fs;exact T.c_rn (T.c_rl r1 (T.c_rl r2 (T.c_rl r3 (T.c_rl r4 (T.c_rl sr5_0 (T.c_re))))))
theorem op_Cache {H:Type} {enc:TypeId × Value→H} {W:World} {base:Nat} {spare:Nat→Bool} {held:Bool} {fuel:Nat} {cs:List Value} {x:DataW H × List MemPlace} (h:DataW.trod enc Tryz.prog W base spare held fuel 61 cs=some x): ∃ g:xX,T.rds W g.fs cs∧g.good:=by
 obtain⟨ys,k,_,_,hcl,hyl,hf⟩:=DataW.trod_struct Tryz.underlying61 h;have hl8:cs.length=8:=hcl.trans (by kernel_rfl);obtain⟨c0,cs0,rfl,hl7⟩:=uA 7 _ hl8;obtain⟨c1,cs1,rfl,hl6⟩:=uA 6 _ hl7;obtain⟨c2,cs2,rfl,hl5⟩:=uA 5 _ hl6;obtain⟨c3,cs3,rfl,hl4⟩:=uA 4 _ hl5;obtain⟨c4,cs4,rfl,hl3⟩:=uA 3 _ hl4;obtain⟨c5,cs5,rfl,hl2⟩:=uA 2 _ hl3;obtain⟨c6,cs6,rfl,hl1⟩:=uA 1 _ hl2;obtain⟨c7,cs7,rfl,hl0⟩:=uA 0 _ hl1;obtain rfl:cs7= []:=List.eq_nil_of_length_eq_zero hl0;have hyn:ys.length=3:=hyl;have z0:Tryz.prog.cellsOf 26=1:=by kernel_rfl
 have z1:Tryz.prog.cellsOf 59=6:=by kernel_rfl
 have g0:DataW.trod enc Tryz.prog W base spare held k 59 (List.take (Tryz.prog.cellsOf 59) (List.drop 0 [c0,c1,c2,c3,c4,c5,c6,c7]))=ys[0]?:=hf 0 _ rfl;rw[z1,gE zM] at g0;replace g0:DataW.trod enc Tryz.prog W base spare held k 59 [c0,c1,c2,c3,c4,c5]=some _:=g0;obtain⟨n0,r0,w0⟩:=op_Session g0;have g1:DataW.trod enc Tryz.prog W base spare held k 26 (List.take (Tryz.prog.cellsOf 26) (List.drop 6 [c0,c1,c2,c3,c4,c5,c6,c7]))=ys[1]?:=hf 1 _ rfl;rw[z0,gE zM] at g1;replace g1:DataW.trod enc Tryz.prog W base spare held k 26 [c6]=some _:=g1;obtain⟨v1,n1,e1,r1,w1⟩:=op_LI g1;have g2:DataW.trod enc Tryz.prog W base spare held k 26 (List.take (Tryz.prog.cellsOf 26) (List.drop 7 [c0,c1,c2,c3,c4,c5,c6,c7]))=ys[2]?:=hf 2 _ rfl;rw[z0,gE zM] at g2;replace g2:DataW.trod enc Tryz.prog W base spare held k 26 [c7]=some _:=g2;obtain⟨v2,n2,e2,r2,w2⟩:=op_LI g2;obtain rfl:c6=v1:=(List.cons.inj e1).1;obtain rfl:c7=v2:=(List.cons.inj e2).1;refine⟨⟨n0,n1,n2⟩,?_,⟨w0.1,w0.2.1,w0.2.2.1,w0.2.2.2.1,w0.2.2.2.2.1,w0.2.2.2.2.2,w1,w2⟩⟩;obtain⟨s0_1,s0_2,s0_3,s0_4,s0_5,he0,sr0_1,sr0_2,sr0_3,sr0_4,sr0_5⟩:=xS.yV r0;simp only[List.cons.injEq,and_true] at he0;obtain⟨rfl,rfl,rfl,rfl,rfl,rfl⟩:=he0;unfold xX.fs;exact T.c_rn (T.c_rl sr0_1 (T.c_rl sr0_2 (T.c_rl sr0_3 (T.c_rl sr0_4 (T.c_rl sr0_5 (T.c_rl r1 (T.c_rl r2 (T.c_re))))))))
end
end Go.Proofs.YtoibekfhepnedaaGreat
