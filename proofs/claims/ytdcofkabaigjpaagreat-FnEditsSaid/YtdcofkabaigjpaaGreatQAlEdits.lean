/- Playing a patch stays within samples; states after some nodes. Contract: what a node without state gives out, by the program. Contract: the next state of a node, by the reference. Contract: a node's output and next state, by the program. -/
import Derived.Test.YtdcofkabaigjpaaGreatQAkEdits
set_option linter.unusedVariables false
set_option linter.unusedSimpArgs false
set_option maxHeartbeats 8000000
set_option maxRecDepth 100000
namespace Go.Proofs.YtdcofkabaigjpaaGreat
section
open Go.RowKit
theorem vCz:Smp 0:=⟨by decide,by decide⟩
theorem wLz {l:List Int} (h: ∀ y ∈ l,Smp y) (i:Nat):Smp (l.getD i 0):=by
 rw[List.getD_eq_getElem?_getD]
 cases hg:l[i]? with
 |none=>exact vCz
 |some y=>exact h y (List.mem_of_getElem? hg)
theorem pow2_pos (k:Nat):(1:Int)≤((2 ^ k:Nat):Int):=by
 have:0<2 ^ k:=Nat.pow_pos (by decide)
 omega
theorem ediv_smp {a:Int} (h:Smp a) {m:Int} (hm:1≤m):Smp (a / m):=by
 unfold Smp at *;have h1:a / m * m≤a:=Int.ediv_mul_le a zM
 constructor
 ·exact Int.le_ediv_of_mul_le zM zM
 ·have h2:a / m<2147483648:=Int.ediv_lt_of_lt_mul zM zM
  omega
theorem look_smp {t:List Int} (h: ∀ y ∈ t,Smp y) (a:Int):Smp (lookF t a):=wLz h _
section
variable {x:xR} {tables:List (List Int)} {ins st:List Int}
theorem tab_smp (h:vAz tables) (j:Nat): ∀ y ∈ tables.getD j [],Smp y:=by
 rw[List.getD_eq_getElem?_getD]
 cases hg:tables[j]? with
 |none=>simp
 |some t=>exact vOz.1 (h.each j t hg).2
theorem xEz {n:Int} (h:yCz x n) (k:Int) (e:x.zD=k) {lo hi:Int} (h1:(uF k).low=lo) (h2:(uF k).high=hi) (h3:lo≤hi):lo≤x.fA∧x.fA≤hi:=by
 have ha:=h.a;rw[e,h1,h2,if_pos h3] at ha;exact xK.1 ha
theorem node_a {n:Int} (h:yCz x n) (hk:x.zD=2∨x.zD=11∨x.zD=12∨x.zD=14):Smp x.fA:=by
 unfold Smp
 rcases hk with e|e|e|e
 ·have:=xEz h 2 e (lo:= -2147483648) (hi:=2147483647) rfl rfl (by decide);omega
 ·have:=xEz h 11 e (lo:=0) (hi:=2147483647) rfl rfl (by decide);omega
 ·have:=xEz h 12 e (lo:= -2147483648) (hi:=2147483647) rfl rfl (by decide);omega
 ·have:=xEz h 14 e (lo:= -2147483648) (hi:=2147483647) rfl rfl (by decide);omega
theorem zJz {c:Prop} [Decidable c] {a b:Int} (h1:c→Smp a) (h2: ¬ c→Smp b):Smp (if c then a else b):=by
 by_cases h:c
 ·rw[if_pos h];exact h1 h
 ·rw[if_neg h];exact h2 h
theorem outF_smp (h:PlayIn x tables ins st):Smp (uB x tables ins st):=by
 have hi:=fun i=>wLz h.ins_ i
 have hs:=fun i=>wLz h.st_ i
 unfold uB;refine zJz (fun _=>hi 0) fun _=>?_
 refine zJz (fun e=>node_a h.ok (.inl e)) fun _=>?_
 refine zJz (fun _=>zRz _) fun _=>?_
 refine zJz (fun _=>zRz _) fun _=>?_
 refine zJz (fun _=>zRz _) fun _=>?_
 refine zJz (fun _=>hs 0) fun _=>?_
 refine zJz (fun _=>zRz _) fun _=>?_
 refine zJz (fun _=>zRz _) fun _=>?_
 refine zJz (fun _=>zRz _) fun _=>?_
 refine zJz (fun _=>ediv_smp (hi 0) (pow2_pos _)) fun _=>?_
 refine zJz (fun e=>?_) fun _=>?_
 ·have h1:=xEz h.ok 11 e (lo:=0) (hi:=2147483647) rfl rfl (by decide)
  have h2:=hi 0;unfold Smp at *
  omega
 refine zJz (fun _=>hs 0) fun _=>?_
 refine zJz (fun _=>look_smp (tab_smp h.tabs _) _) fun _=>?_
 refine zJz (fun _=>hs 0) fun _=>?_
 refine zJz (fun _=>zJz (fun _=>hi 1) fun _=>hi 2) fun _=>?_
 refine zJz (fun _=>zJz (fun _=>hi 0) fun _=>hs 0) fun _=>?_
 exact zRz _
theorem noise_smp (s:Int):Smp (noiseF s):=by
 unfold noiseF
 split<;>exact zRz _
theorem drop1_smp (h: ∀ y ∈ st,Smp y) {z:Int} (hz:Smp z): ∀ y ∈ st.drop 1++ [z],Smp y:=by
 intro y hy
 rcases List.mem_append.1 hy with hy|hy
 ·exact h y (List.mem_of_mem_drop hy)
 ·simp at hy;subst hy;exact hz
theorem nextSt_ok (h:PlayIn x tables ins st) {out:Int} (ho:Smp out):(wF x ins st out).length=(wW x).length∧ ∀ y ∈ wF x ins st out,Smp y:=by
 have hi:=fun i=>wLz h.ins_ i
 have hl:=h.state;have ha:=h.ok.a;have hb:=h.ok.b;have hk:=xK.1 h.ok.kind;have one: ∀ {z:Int},Smp z→ ∀ y ∈ [z],Smp y:=fun hz y hy=>by simp at hy;subst hy;exact hz
 by_cases e6:x.zD=6
 ·have h1:=xEz h.ok 6 e6 (lo:=1) (hi:=16) rfl rfl (by decide)
  unfold wW at hl ⊢;unfold wF;rw[if_pos e6] at hl ⊢;rw[if_pos e6];rw[List.length_replicate] at hl ⊢;refine⟨?_,drop1_smp h.st_ (hi 0)⟩;rw[List.length_append,List.length_drop,List.length_singleton]
  omega
 by_cases e17:x.zD=17
 ·have h1:1≤x.fB∧x.fB≤16:=by
   rw[e17,if_pos (by rfl)] at hb;exact xK.1 hb
  unfold wW at hl ⊢;unfold wF;rw[if_neg e6,if_pos e17] at hl ⊢;rw[if_neg e6,if_pos e17];rw[List.length_replicate] at hl ⊢;refine⟨?_,drop1_smp h.st_ ho⟩;rw[List.length_append,List.length_drop,List.length_singleton]
  omega
 by_cases e7:x.zD=7
 ·unfold wW wF;simp[e7];exact ho
 by_cases e16:x.zD=16
 ·unfold wW wF;simp[e16];exact ho
 by_cases e8:x.zD=8
 ·unfold wW wF;simp[e8];have:=hi 0;rwa [List.getD_eq_getElem?_getD] at this
 by_cases e12:x.zD=12
 ·unfold wW wF;simp[e12];exact zRz _
 by_cases e14:x.zD=14
 ·unfold wW wF;simp[e14];exact noise_smp _
 ·unfold wW wF;simp[e6,e7,e8,e12,e14,e16,e17]
end
structure StOk (p:xQ) (cells:List (List Int)):Prop where
 len:cells.length=p.zF.length
 each: ∀ (i:Nat) (x:xR) (st:List Int),p.zF[i]?=some x→cells[i]?=some st→st.length=(wW x).length∧ ∀ y ∈ st,Smp y
theorem start_smp {x:xR} {n:Int} (h:yCz x n): ∀ y ∈ wW x,Smp y:=by
 unfold wW;have rep: ∀ n,∀ y ∈ List.replicate n (0:Int),Smp y:=fun n y hy=>by rw[(List.mem_replicate.1 hy).2];exact vCz
 split
 ·exact rep _
 split
 ·exact rep _
 split
 ·intro y hy;simp at hy;subst hy;exact vCz
 split
 ·next e=>
  intro y hy;simp at hy;subst hy
  rcases e with e|e
  ·exact node_a h (.inr (.inr (.inl e)))
  ·exact node_a h (.inr (.inr (.inr e)))
 ·simp
theorem st_start {p:xQ} (h:vZ p):StOk p (p.zF.map wW):=by
 refine⟨by simp,fun i x st hx hs=>?_⟩;rw[List.getElem?_map,hx] at hs;injection hs with hs;subst hs;exact⟨rfl,start_smp (h.formed.nodes i x hx).1⟩
section
variable {p:xQ} {cells:List (List Int)} {frame vals:List Int}
theorem inF_smp {n:xR} (hf: ∀ y ∈ frame,Smp y) (hv: ∀ y ∈ vals,Smp y): ∀ y ∈ inF n frame vals,Smp y:=by
 unfold inF
 split
 ·intro y hy;simp at hy;subst hy;have:=wLz hf n.fA.toNat;rwa [List.getD_eq_getElem?_getD] at this
 ·intro y hy
  obtain⟨i,_,rfl⟩:=List.mem_map.1 hy;exact wLz hv _
theorem play_in (h:vZ p) (hs:StOk p cells) (hf: ∀ y ∈ frame,Smp y) (hv: ∀ y ∈ vals,Smp y) {i:Nat} {x:xR} {st:List Int} (hx:p.zF[i]?=some x) (hst:cells[i]?=some st):PlayIn x p.zY (inF x frame vals) st:=by
 obtain⟨h1,_,_⟩:=h.formed.nodes i x hx;obtain⟨h4,h5⟩:=hs.each i x st hx hst;refine⟨h1,h.formed.tables,?_,h4,inF_smp hf hv,h5⟩;unfold inF
 split
 ·rfl
 ·have:=h1.arity
  rw[List.length_map]
  omega
theorem st_get (hs:StOk p cells) {i:Nat} {x:xR} (hx:p.zF[i]?=some x): ∃ st,cells[i]?=some st∧cells.getD i []=st:=by
 have hi:i<cells.length:=by rw[hs.len];exact(List.getElem?_eq_some_iff.1 hx).1
 have hg:=gE hi;exact⟨_,hg,by rw[List.getD_eq_getElem?_getD,hg];rfl⟩
theorem smp_set {l:List Int} (h: ∀ y ∈ l,Smp y) {i:Nat} {z:Int} (hz:Smp z): ∀ y ∈ l.set i z,Smp y:=by
 intro y hy
 rcases List.mem_or_eq_of_mem_set hy with h1|h1
 ·exact h y h1
 ·subst h1;exact hz
theorem valStep_smp (h:vZ p) (hs:StOk p cells) (hf: ∀ y ∈ frame,Smp y) (hv: ∀ y ∈ vals,Smp y) (i:Int): ∀ y ∈ yRz p cells frame vals i,Smp y:=by
 unfold yRz
 split
 ·next x hx=>
  obtain⟨st,h1,h2⟩:=st_get hs hx;rw[h2];exact smp_set hv (outF_smp (play_in h hs hf hv hx h1))
 ·exact hv
theorem yJy (h:vZ p) (hs:StOk p cells) (hf: ∀ y ∈ frame,Smp y): ∀ (l:List Int) (v:List Int),(∀ y ∈ v,Smp y)→ ∀ y ∈ uD p cells frame l v,Smp y
 | [],v,hv=>hv
 |i :: l,v,hv=>yJy h hs hf l (yRz p cells frame v i) (valStep_smp h hs hf hv i)
theorem valsF_smp (h:vZ p) (hs:StOk p cells) (hf: ∀ y ∈ frame,Smp y): ∀ y ∈ wKz p cells frame,Smp y:=
 yJy h hs hf _ _ (fun y hy=>by rw[(List.mem_replicate.1 hy).2];exact vCz)
theorem yDy:(yUz p cells frame vals).length=p.zF.length:=by simp[yUz]
theorem cellsF_at {i:Nat} {x:xR} (hx:p.zF[i]?=some x):(yUz p cells frame vals)[i]?=some (wF x (inF x frame vals) (cells.getD i []) (vals.getD i 0)):=by
 unfold yUz;rw[List.getElem?_mapIdx,hx];rfl
theorem st_next (h:vZ p) (hs:StOk p cells) (hf: ∀ y ∈ frame,Smp y) (hv: ∀ y ∈ vals,Smp y):StOk p (yUz p cells frame vals):=by
 refine⟨yDy,fun i x st hx hst=>?_⟩;rw[cellsF_at hx] at hst;injection hst with hst;subst hst;obtain⟨st,h1,h2⟩:=st_get hs hx;rw[h2];exact nextSt_ok (play_in h hs hf hv hx h1) (wLz hv i)
end
def updC (S:Nat→Bool) (cells news:List (List Int)):List (List Int):=cells.mapIdx fun i c=>if S i then news.getD i [] else c
section
variable {S S':Nat→Bool} {cells news:List (List Int)}
theorem zEy:(updC S cells news).length=cells.length:=by simp[updC]
theorem updC_get {i:Nat} {c:List Int} (h:cells[i]?=some c):(updC S cells news)[i]?=some (if S i then news.getD i [] else c):=by
 unfold updC;rw[List.getElem?_mapIdx,h];rfl
theorem updC_set {i:Nat} (h: ∀ j,S' j=(S j || decide (j=i))):(updC S cells news).set i (news.getD i [])=updC S' cells news:=by
 apply List.ext_getElem?
 intro j;by_cases hj:j<cells.length
 ·have hg:=gE hj
  rw[updC_get hg,h j];by_cases e:i=j
  ·subst e
   rw[List.getElem?_set_self (by rw[zEy];exact hj)];simp
  ·rw[List.getElem?_set_ne e,updC_get hg]
   have: ¬ j=i:=fun e'=>e e'.symm
   simp[this]
 ·rw[List.getElem?_eq_none (by rw[List.length_set,zEy];omega),List.getElem?_eq_none (by rw[zEy];omega)]
theorem updC_same (h: ∀ j,S j=S' j):updC S cells news=updC S' cells news:=by
 rw[show S=S' from funext h]
end
def vVz (p:xQ) (k:Nat) (i:Nat):Bool:=decide ((i:Int) ∈ (xY p.zF).take k) && ((p.zF[i]?).map fun x=>decide (x.zD≠6)).getD false
section
variable {p:xQ}
theorem doneA_skip {k:Nat} {i:Int} {x:xR} (hk:(xY p.zF)[k]?=some i) (hi:0≤i) (hx:p.zF[i.toNat]?=some x) (h6:x.zD=6) (j:Nat):vVz p (k+1) j=vVz p k j:=by
 unfold vVz;rw[List.take_add_one,hk];by_cases e:(j:Int)=i
 ·have:j=i.toNat:=by omega
  subst this;rw[hx];simp[h6]
 ·simp[e]
theorem doneA_next {k:Nat} {i:Int} {x:xR} (hk:(xY p.zF)[k]?=some i) (hi:0≤i) (hx:p.zF[i.toNat]?=some x) (h6:x.zD≠6) (j:Nat):vVz p (k+1) j=(vVz p k j || decide (j=i.toNat)):=by
 unfold vVz;rw[List.take_add_one,hk];by_cases e:(j:Int)=i
 ·have:j=i.toNat:=by omega
  subst this;rw[hx];simp[h6,e]
 ·have: ¬ j=i.toNat:=by omega
  simp[e,this]
theorem doneA_false (h:(xY p.zF).length=p.zF.length) {k:Nat} {i:Int} (hk:(xY p.zF)[k]?=some i) (hi:0≤i):vVz p k i.toNat=false:=by
 obtain⟨n,_,_,h2,_⟩:=yUy h hk;unfold vVz;have:((i.toNat:Nat):Int)=i:=by omega
 rw[this];simp[h2]
end
section
variable {p:xQ} {cells:List (List Int)} {frame vals:List Int}
theorem turn_facts (h:vZ p) (hs:StOk p cells) (hv:vals.length=p.zF.length) {k:Nat} {i:Int} (hk:(xY p.zF)[k]?=some i):
  ∃ (x:xR) (st:List Int),0≤i∧i.toNat<p.zF.length∧p.zF[i.toNat]?=some x∧cells[i.toNat]?=some st∧
   (updC (vVz p k) cells (yUz p cells frame (wKz p cells frame)))[i.toNat]?=some st∧
   uD p cells frame ((xY p.zF).take (k+1)) vals=(uD p cells frame ((xY p.zF).take k) vals).set i.toNat (uB x p.zY (inF x frame (uD p cells frame ((xY p.zF).take k) vals)) st)∧
   (x.zD≠6→updC (vVz p (k+1)) cells (yUz p cells frame (wKz p cells frame))=(updC (vVz p k) cells (yUz p cells frame (wKz p cells frame))).set i.toNat (wF x (inF x frame (uD p cells frame ((xY p.zF).take k) vals)) st (uB x p.zY (inF x frame (uD p cells frame ((xY p.zF).take k) vals)) st)))∧
   (x.zD=6→updC (vVz p (k+1)) cells (yUz p cells frame (wKz p cells frame))=updC (vVz p k) cells (yUz p cells frame (wKz p cells frame))∧uB x p.zY (inF x frame (uD p cells frame ((xY p.zF).take k) vals)) st=st.getD 0 0∧0<st.length):=by
 obtain⟨x,h0,hx,hni,hw⟩:=yUy h.order hk;have hi:i.toNat<p.zF.length:=(List.getElem?_eq_some_iff.1 hx).1;obtain⟨st,h1,h2⟩:=st_get hs hx;have hlt:k<(xY p.zF).length:=(List.getElem?_eq_some_iff.1 hk).1
 have hsnoc:uD p cells frame ((xY p.zF).take (k+1)) vals=(uD p cells frame ((xY p.zF).take k) vals).set i.toNat (uB x p.zY (inF x frame (uD p cells frame ((xY p.zF).take k) vals)) st):=by
  rw[vG hk,zAy];generalize uD p cells frame ((xY p.zF).take k) vals=V;unfold yRz;rw[hx,h2]
 refine⟨x,st,h0,hi,hx,h1,?_,hsnoc,fun h6=>?_,fun h6=>⟨?_,?_,?_⟩⟩
 ·rw[updC_get h1,doneA_false h.order hk h0];rfl
 ·rw[←updC_set (i:=i.toNat) (doneA_next hk h0 hx h6)]
  congr 1
  rw[List.getD_eq_getElem?_getD,cellsF_at hx,h2];have ht:=in_turn (cells:=cells) (frame:=frame) h.play hv hk hx h6;have hp:=vals_prefix (cells:=cells) (frame:=frame) h.play hv (k+1) (by rw[←h.order];exact hlt) i (by rw[vG hk];simp);rw[hsnoc,zVz (by rw[yZz,hv];exact hi)] at hp;rw[←ht,←hp]
  rfl
 ·exact updC_same (doneA_skip hk h0 hx h6)
 ·unfold uB;simp[h6]
 ·have hl:=(hs.each _ x st hx h1).1
  have ha:=(h.formed.nodes _ x hx).1.a;rw[h6] at ha;simp[uF,kndL] at ha;have:=xK.1 ha;unfold wW at hl;simp[h6] at hl
  omega
end
end
section
open Go.RowKit
end
section
open Go.RowKit
theorem rdI_tail {w:World} {b off n cap:Nat} {xs:List Int} (h:RdI w (.slice (some ⟨b,off,none⟩) n cap) xs) (hn:1≤n):(cap=1→RdI w (.slice (some ⟨b,off,none⟩) 0 0) (xs.drop 1))∧(1<cap→RdI w (.slice (some ⟨b,off+1,none⟩) (n - 1) (cap - 1)) (xs.drop 1)):=by
 obtain⟨h1,A,c,h2,h3,h4,h5⟩:=h;injection h2 with e1 e2 e3;subst e1 e3;have hl:(xs.drop 1).length=n - 1:=by rw[List.length_drop];omega
 have hx:xs.length=n:=e2.symm
 constructor
 ·intro hc
  have h0:(xs.drop 1).length=0:=by omega
  have e:xs.drop 1= []:=List.eq_nil_of_length_eq_zero h0;rw[e];exact⟨rfl,some ⟨b,off,none⟩,0,rfl,zJ,by omega,fun hq=>absurd hq (by simp)⟩
 ·intro hc
  refine⟨by simp,some ⟨b,off+1,none⟩,cap - 1,by rw[hl],by rw[hl];omega,by omega,fun hq=>?_⟩;obtain⟨b',off',e,hb,hcell⟩:=h5 zM;injection e with e;injection e with e1 e2;subst e1 e2;refine⟨b,off+1,rfl,hb,fun j u hj=>?_⟩;have:=hcell (j+1) u (by rw[List.map_drop,List.getElem?_drop] at hj;rw[Nat.add_comm];exact hj);rw[show off+1+j=off+(j+1) by omega];exact this
theorem lit1 (w:World) (n:Int):OwI 2 (w.alloc (.cells #[.int .i64 n] 2)) w.heap.size (.slice (some ⟨w.heap.size,0,none⟩) 1 1) [n]:=World.ownsRow_lit (base:=w.heap.size) (e:=2) (size:=1) w #[.int .i64 n] 1 zJ (by decide) rfl
theorem zFz {w:World} {ops:Array Oper} {o:Oper} {a:Act} {K:Act→World→Prop} {Q:Exit→Act→World→Prop} {E:Prop} (hgd:o.guard=none) (s x:Operand)
  (ho:o.op= .call { callee:= .builtin .append,args:= #[s,x],argTypes:= #[26,26] }) {B:Nat} {v:Value} {xs:List Int} (hs:a.eval s=v) (hown:OwI 2 w B v xs)
  {y:Value} {ys:List Int} (hx:a.eval x=y) (hr:RdI w y ys) (hl:xs.length+ys.length≤8796093022208) (hB:B≤w.heap.size)
  (h: ∀ v' w',OwI 2 w' B v' (xs++ys)→w.grownBy w' v.ownBlock→(∀ k,v'.ownBlock=some k→v.ownBlock=some k∨w.heap.size≤k)→K (a.put o.dst v') w'):
  if Region.wanted o (yielded ops a.tmps)=true then Oper.wp Tryz.prog o a w K Q else E:=
 yGy hgd s x _ ho B _ _ 1 8 Tryz.underlying26 vPz rfl zM v xs.length _ hs hown y ys.length _ hx hr (fun u hu=>by obtain⟨n,_,rfl⟩:=List.mem_map.1 hu;rfl) zM (by unfold maxLen;omega) hB
  fun v' w' h1 h2 h3=>h v' w' (by unfold OwI;simpa using h1) h2 h3
theorem wpAnyN_two {P:Program} {ops:Array Oper} {Q:Exit→Act→World→Prop} {md:Region.Mode} {S:World→Prop} {n:List Nat} {i j:Nat} {o o2:Oper} {fuel:Nat} {listed:Array Bool} {a:Act} {w:World} (hr:Region.ready md ops listed= [i,j]) (ho:ops[i]?=some o) (ho2:ops[j]?=some o2)
  (h: ∀ K':Act→World→Prop,Shut (∀ a w,S w→(S w→zNz P md ops Q S n fuel (listed.setIfInBounds i true) a w)→K' a w)→if Region.wanted o (yielded ops a.tmps)=true then Oper.wp P o a w K' Q else K' (a.put o.dst undef) w)
  (h2: ∀ K':Act→World→Prop,Shut (∀ a w,S w→(S w→zNz P md ops Q S n fuel (listed.setIfInBounds j true) a w)→K' a w)→if Region.wanted o2 (yielded ops a.tmps)=true then Oper.wp P o2 a w K' Q else K' (a.put o2.dst undef) w):
  zNz P md ops Q S n (fuel+1) listed a w:=
 ⟨fun h0=>(by rw[h0] at hr;cases hr),fun q hq=>by
  rw[hr,List.mem_cons,List.mem_singleton] at hq
  rcases hq with rfl|rfl
  ·exact wpOp_step ho (fun K' hK=>h K' (fun a w hS hW=>hK a w ⟨.inr hS,hW hS⟩))
  ·exact wpOp_step ho2 (fun K' hK=>h2 K' (fun a w hS hW=>hK a w ⟨.inr hS,hW hS⟩))⟩
theorem c_l06Next (x:xR) (b o:Nat) (tables:List (List Int)) (ins st:List Int) (iv sv:Value) (out:Int) (w:World) (hP:PlayIn x tables ins st) (hI:RdI w iv ins) (hS:RdI w sv st) (h:T.at w x.fs b o):Calls Tryz.prog 175 #[.pointer (some ⟨b,o,none⟩),iv,sv,.int .i64 out] w fun e w'=> ∃ v,e= .returned v∧OwI 2 w' w.heap.size v (wF x ins st out)∧Below w.heap.size w w':=by
 have HAT:=xN h;obtain⟨hlt0,cs,hr,hc⟩:=h;obtain⟨v3,rfl,h3⟩:=xR.yT hr;clear hr;obtain⟨va3,vc3,rfl,vl3,vm3,R3,HX3⟩:=oI h3;clear h3;have HL:=xN hlt0;have HCC:=xN hc;have HB0:=xN (Below.refl w.heap.size w);clear hlt0 hc;have HP:=xN hP;have HI:=xN hI;have HS:=xN hS;have hk:=xK.1 hP.ok.kind;have h17:x.zD=1∨x.zD=2∨x.zD=3∨x.zD=4∨x.zD=5∨x.zD=6∨x.zD=7∨x.zD=8∨x.zD=9∨x.zD=10∨x.zD=11∨x.zD=12∨x.zD=13∨x.zD=14∨x.zD=15∨x.zD=16∨x.zD=17:=by omega
 have HA0:=xN hP.ok.a;have HB0_:=xN hP.ok.b;have HTB:=xN hP.ok.table;clear hP hI hS hk;obtain⟨p0,p1,p2,p3⟩:=pc4 HB0.o HL.o HCC.o;have lb:b<w.heap.size:=zW HL.o HB0.o.size
 rcases h17 with e|e|e|e|e|e|e|e|e|e|e|e|e|e|e|e|e
 ·
  have hnum:=HP.o.num;have hst:=HP.o.state;have hia:=HP.o.ins_;have hsa:=HP.o.st_;rw[e] at hnum;replace hnum:ins.length=1:=by rw[hnum];rfl
  obtain⟨i0,rfl⟩:=lnI1 hnum;obtain⟨IA,ci,rfl,li,mi,_⟩:=HI.o.open_;have hs0:Smp i0:=hia i0 (by simp);simp only[List.length_cons,List.length_nil] at li;obtain⟨SA,cs_,rfl,ls,ms,_⟩:=HS.o.open_;clear hnum hst hia hsa;have HE:=xN (show wF x [i0] st out= [] by unfold wF;simp only[e];rfl);rw[e] at p0;generalize wF x [i0] st out=OO at *;clear e
  go_enter Tryz.func175,Tryz.ntmps175
  go_wp2;go_ret
  exact⟨_,rfl,by rw[HE.o];exact vP w,zR.alloc zJ _⟩
 ·
  have hnum:=HP.o.num;have hst:=HP.o.state;have hia:=HP.o.ins_;have hsa:=HP.o.st_;rw[e] at hnum;replace hnum:ins.length=0:=by rw[hnum];rfl
  obtain rfl:ins= []:=List.eq_nil_of_length_eq_zero hnum;obtain⟨IA,ci,rfl,li,mi,_⟩:=HI.o.open_;obtain⟨SA,cs_,rfl,ls,ms,_⟩:=HS.o.open_;clear hnum hst hia hsa;have HE:=xN (show wF x [] st out= [] by unfold wF;simp only[e];rfl);rw[e] at p0;generalize wF x [] st out=OO at *;clear e
  go_enter Tryz.func175,Tryz.ntmps175
  go_wp2;go_ret
  exact⟨_,rfl,by rw[HE.o];exact vP w,zR.alloc zJ _⟩
 ·
  have hnum:=HP.o.num;have hst:=HP.o.state;have hia:=HP.o.ins_;have hsa:=HP.o.st_;rw[e] at hnum;replace hnum:ins.length=2:=by rw[hnum];rfl
  obtain⟨i0,i1,rfl⟩:=lnI2 hnum;obtain⟨IA,ci,rfl,li,mi,_⟩:=HI.o.open_;have hs0:Smp i0:=hia i0 (by simp);have hs1:Smp i1:=hia i1 (by simp);simp only[List.length_cons,List.length_nil] at li;obtain⟨SA,cs_,rfl,ls,ms,_⟩:=HS.o.open_;clear hnum hst hia hsa;have HE:=xN (show wF x [i0,i1] st out= [] by unfold wF;simp only[e];rfl);rw[e] at p0;generalize wF x [i0,i1] st out=OO at *;clear e
  go_enter Tryz.func175,Tryz.ntmps175
  go_wp2;go_ret
  exact⟨_,rfl,by rw[HE.o];exact vP w,zR.alloc zJ _⟩
 ·
  have hnum:=HP.o.num;have hst:=HP.o.state;have hia:=HP.o.ins_;have hsa:=HP.o.st_;rw[e] at hnum;replace hnum:ins.length=2:=by rw[hnum];rfl
  obtain⟨i0,i1,rfl⟩:=lnI2 hnum;obtain⟨IA,ci,rfl,li,mi,_⟩:=HI.o.open_;have hs0:Smp i0:=hia i0 (by simp);have hs1:Smp i1:=hia i1 (by simp);simp only[List.length_cons,List.length_nil] at li;obtain⟨SA,cs_,rfl,ls,ms,_⟩:=HS.o.open_;clear hnum hst hia hsa;have HE:=xN (show wF x [i0,i1] st out= [] by unfold wF;simp only[e];rfl);rw[e] at p0;generalize wF x [i0,i1] st out=OO at *;clear e
  go_enter Tryz.func175,Tryz.ntmps175
  go_wp2;go_ret
  exact⟨_,rfl,by rw[HE.o];exact vP w,zR.alloc zJ _⟩
 ·
  have hA:Smp x.fA:=by have h:=HA0.o;rw[e] at h;exact xK.1 h
  have hnum:=HP.o.num;have hst:=HP.o.state;have hia:=HP.o.ins_;have hsa:=HP.o.st_;rw[e] at hnum;replace hnum:ins.length=1:=by rw[hnum];rfl
  obtain⟨i0,rfl⟩:=lnI1 hnum;obtain⟨IA,ci,rfl,li,mi,_⟩:=HI.o.open_;have hs0:Smp i0:=hia i0 (by simp);simp only[List.length_cons,List.length_nil] at li;obtain⟨SA,cs_,rfl,ls,ms,_⟩:=HS.o.open_;clear hnum hst hia hsa;have HE:=xN (show wF x [i0] st out= [] by unfold wF;simp only[e];rfl);rw[e] at p0;generalize wF x [i0] st out=OO at *;clear e
  go_enter Tryz.func175,Tryz.ntmps175
  go_wp2;go_ret
  exact⟨_,rfl,by rw[HE.o];exact vP w,zR.alloc zJ _⟩
 ·
  have HA:=xN (show 1≤x.fA∧x.fA≤16 by have h:=HA0.o;rw[e] at h;exact xK.1 h);have hnum:=HP.o.num;have hst:=HP.o.state;have hia:=HP.o.ins_;have hsa:=HP.o.st_;rw[e] at hnum;replace hnum:ins.length=1:=by rw[hnum];rfl
  obtain⟨i0,rfl⟩:=lnI1 hnum;obtain⟨bi,oi,ci,rfl,li,mi,lbi,hci⟩:=wP HI.o (by simp);have c0:=hci 0 i0 rfl;rw[Nat.add_zero] at c0;clear hci;have hs0:Smp i0:=hia i0 (by simp);simp only[List.length_cons,List.length_nil] at li;have hst0:0<st.length:=by rw[hst];unfold wW;simp only[e];simp;have:=HA.o;omega
  obtain⟨bs,os,cs_,rfl,ls,ms,lbs,hcs_⟩:=wP HS.o hst0;have hgs:=gE hst0;have s0:=hcs_ 0 _ hgs;rw[Nat.add_zero] at s0;have hss:Smp st[0]:=hsa _ (List.getElem_mem hst0);have HSD:=xN (show st.getD 0 0=st[0] by rw[List.getD_eq_getElem?_getD,hgs];rfl);generalize st[0]=y0 at *;clear hcs_ hgs;clear hnum hst hia hsa;have HE:=xN (show wF x [i0] st out=st.drop 1++ [i0] by unfold wF;simp only[e];rfl);rw[e] at p0;generalize wF x [i0] st out=OO at *;have HK_:=xN e;clear e;have hst1:1≤st.length:=hst0;have hsl:st.length≤1048576:=by have h:=HP.o.state;unfold wW at h;simp only[HK_.o] at h;simp at h;have:=HA.o;omega
  have HT1:=xN (rdI_tail HS.o hst1);by_cases hq:cs_=1
  ·
   subst hq;have HTL:=xN (HT1.o.1 rfl);have hl1:st.length=1:=by omega
   have hdl:(st.drop 1).length≤1048576:=by rw[List.length_drop];omega
   go_enter Tryz.func175,Tryz.ntmps175
   go_wp2;refine wG (fun w'=>w'.cell? ⟨bi,oi,none⟩=some (.int .i64 i0)) [] (by kernel_rfl) ?_ (fun hS0=>?_)
   ·exact c0
   have HCd:=xN (show w.drew.cell? ⟨bi,oi,none⟩=some (.int .i64 i0) from c0);have HTd:=xN (RdI.below HTL.o (Below.refl w.heap.size w).drew);have HBd:=xN (Below.refl w.heap.size w).drew;have hdz:w.drew.heap.size=w.heap.size:=rfl;clear c0 p0 p1 p2 p3 lb;generalize w.drew=wd at *;refine zN 0 hS0 ?_;refine zN 1 hS0 ?_;refine zN 3 hS0 ?_;refine zN 4 hS0 ?_;refine zN 5 hS0 ?_;refine wpAnyN_two (i:=2) (j:=6) (o:=_) (o2:=_) (by kernel_rfl) rfl rfl (fun K hK=>?_) (fun K hK=>?_)
   ·
    go_simp;go_wp2_with (go_at_call 39;refine(vQz _ (st.drop 1) _ HTd.o hdl).mono ?_;rintro e w3 ⟨v3,rfl,ho,hb⟩)
    rw[hdz] at ho hb;have HC3:=xN ((hb.cell (by rw[←hdz];exact World.block_lt_of_cell? _ _ HCd.o)).trans HCd.o);have HO3:=xN ho;have HB3:=xN (yO HBd.o zM (by rw[hdz];exact hb));have hs3:w.heap.size≤w3.heap.size:=(by have:=hb.size;omega);clear ho hb;refine uN hK ?_ (fun hS1=>?_)
    ·exact HC3.o
    clear hK K hS0;have HA4:=xN (show Below w3.heap.size w3 (w3.alloc (.cells #[.int .i64 i0] 2)) from zR.alloc zJ _);have HO4:=xN (uM HO3.o HA4.o);have HB4:=xN (yO HB3.o hs3 HA4.o);have HL4:=xN (OwI.rd (lit1 w3 i0));have HC4:=xN ((HA4.o.cell (World.block_lt_of_cell? _ _ HC3.o)).trans HC3.o);have hs4:=HB4.o.size;refine pN 6 (fun K hK=>?_);go_simp;refine uN hK ?_ (fun hS2=>?_)
    ·exact HC4.o
    clear hK K hS1;refine pN 7 (fun K hK=>?_);refine zFz rfl _ _ rfl rfl HO4.o (ys:= [i0]) rfl HL4.o (by simp only[List.length_cons,List.length_nil];omega) hs4 ?_;intro v8 w8 ho hg hv;have HB8:=xN (zOz HB4.o HO4.o hg zJ hs4);have HO8:=xN ho;have HC8:=xN (show w8.cell? ⟨bi,oi,none⟩=some (.int .i64 i0) from(HB8.o.cell lbi).trans ((HB4.o.cell lbi).symm.trans HC4.o));clear ho hg hv;refine uN hK ?_ (fun hS3=>?_)
    ·exact HC8.o
    clear hK K hS2;refine pN 8 (fun K hK=>?_);go_simp;refine uN hK ?_ (fun hS4=>?_)
    ·exact HC8.o
    clear hK K hS3;refine qN ?_;clear hS4;go_wp2;go_ret
    exact⟨_,rfl,by rw[HE.o];exact HO8.o,HB8.o⟩
   ·
    have HA3:=xN (show Below wd.heap.size wd (wd.alloc (.cells #[.int .i64 i0] 2)) from zR.alloc zJ _);have HL3:=xN (show RdI (wd.alloc (.cells #[.int .i64 i0] 2)) (.slice (some ⟨w.heap.size,0,none⟩) 1 1) [i0] by have:=OwI.rd (lit1 wd i0);rwa [hdz] at this);have HC3:=xN ((HA3.o.cell (World.block_lt_of_cell? _ _ HCd.o)).trans HCd.o);have HB3:=xN (yO HBd.o zM HA3.o);have HT3:=xN (RdI.below HTd.o HA3.o);have hs3:=HB3.o.size;go_simp;refine uN hK ?_ (fun hS1=>?_)
    ·exact HC3.o
    clear hK K hS0;generalize wd.alloc (.cells #[.int .i64 i0] 2)=W3 at *;refine pN 2 (fun K hK=>?_);go_simp;go_wp2_with (go_at_call 39;refine(vQz _ (st.drop 1) _ HT3.o hdl).mono ?_;rintro e w4 ⟨v3,rfl,ho,hb⟩)
    have HB4:=xN (yO HB3.o hs3 hb);have HO4:=xN (zGz ho hs3);have HL4:=xN (RdI.below HL3.o hb);have HC4:=xN ((hb.cell (World.block_lt_of_cell? _ _ HC3.o)).trans HC3.o);have hs4:=HB4.o.size;clear ho hb;refine uN hK ?_ (fun hS2=>?_)
    ·exact HC4.o
    clear hK K hS1;refine pN 7 (fun K hK=>?_);refine zFz rfl _ _ rfl rfl HO4.o (ys:= [i0]) rfl HL4.o (by simp only[List.length_cons,List.length_nil];omega) hs4 ?_;intro v8 w8 ho hg hv;have HB8:=xN (zOz HB4.o HO4.o hg zJ hs4);have HO8:=xN ho;have HC8:=xN (show w8.cell? ⟨bi,oi,none⟩=some (.int .i64 i0) from(HB8.o.cell lbi).trans ((HB4.o.cell lbi).symm.trans HC4.o));clear ho hg hv;refine uN hK ?_ (fun hS3=>?_)
    ·exact HC8.o
    clear hK K hS2;refine pN 8 (fun K hK=>?_);go_simp;refine uN hK ?_ (fun hS4=>?_)
    ·exact HC8.o
    clear hK K hS3;refine qN ?_;clear hS4;go_wp2;go_ret
    exact⟨_,rfl,by rw[HE.o];exact HO8.o,HB8.o⟩
  ·
   have HTL:=xN (HT1.o.2 zM);have q1:(1:Int)<(cs_:Int):=zM;have q2:1<cs_:=zM;have q3:(1:Int)≤(st.length:Int):=zM;have hdl:(st.drop 1).length≤1048576:=by rw[List.length_drop];omega
   go_enter Tryz.func175,Tryz.ntmps175
   go_wp2;refine wG (fun w'=>w'.cell? ⟨bi,oi,none⟩=some (.int .i64 i0)) [] (by kernel_rfl) ?_ (fun hS0=>?_)
   ·exact c0
   have HCd:=xN (show w.drew.cell? ⟨bi,oi,none⟩=some (.int .i64 i0) from c0);have HTd:=xN (RdI.below HTL.o (Below.refl w.heap.size w).drew);have HBd:=xN (Below.refl w.heap.size w).drew;have hdz:w.drew.heap.size=w.heap.size:=rfl;clear c0 p0 p1 p2 p3 lb;generalize w.drew=wd at *;refine zN 0 hS0 ?_;refine zN 1 hS0 ?_;refine zN 3 hS0 ?_;refine zN 4 hS0 ?_;refine zN 5 hS0 ?_;refine wpAnyN_two (i:=2) (j:=6) (o:=_) (o2:=_) (by kernel_rfl) rfl rfl (fun K hK=>?_) (fun K hK=>?_)
   ·
    go_simp;go_wp2_with (go_at_call 39;refine(vQz _ (st.drop 1) _ HTd.o hdl).mono ?_;rintro e w3 ⟨v3,rfl,ho,hb⟩)
    rw[hdz] at ho hb;have HC3:=xN ((hb.cell (by rw[←hdz];exact World.block_lt_of_cell? _ _ HCd.o)).trans HCd.o);have HO3:=xN ho;have HB3:=xN (yO HBd.o zM (by rw[hdz];exact hb));have hs3:w.heap.size≤w3.heap.size:=(by have:=hb.size;omega);clear ho hb;refine uN hK ?_ (fun hS1=>?_)
    ·exact HC3.o
    clear hK K hS0;have HA4:=xN (show Below w3.heap.size w3 (w3.alloc (.cells #[.int .i64 i0] 2)) from zR.alloc zJ _);have HO4:=xN (uM HO3.o HA4.o);have HB4:=xN (yO HB3.o hs3 HA4.o);have HL4:=xN (OwI.rd (lit1 w3 i0));have HC4:=xN ((HA4.o.cell (World.block_lt_of_cell? _ _ HC3.o)).trans HC3.o);have hs4:=HB4.o.size;refine pN 6 (fun K hK=>?_);go_simp;refine uN hK ?_ (fun hS2=>?_)
    ·exact HC4.o
    clear hK K hS1;refine pN 7 (fun K hK=>?_);refine zFz rfl _ _ rfl rfl HO4.o (ys:= [i0]) rfl HL4.o (by simp only[List.length_cons,List.length_nil];omega) hs4 ?_;intro v8 w8 ho hg hv;have HB8:=xN (zOz HB4.o HO4.o hg zJ hs4);have HO8:=xN ho;have HC8:=xN (show w8.cell? ⟨bi,oi,none⟩=some (.int .i64 i0) from(HB8.o.cell lbi).trans ((HB4.o.cell lbi).symm.trans HC4.o));clear ho hg hv;refine uN hK ?_ (fun hS3=>?_)
    ·exact HC8.o
    clear hK K hS2;refine pN 8 (fun K hK=>?_);go_simp;refine uN hK ?_ (fun hS4=>?_)
    ·exact HC8.o
    clear hK K hS3;refine qN ?_;clear hS4;go_wp2;go_ret
    exact⟨_,rfl,by rw[HE.o];exact HO8.o,HB8.o⟩
   ·
    have HA3:=xN (show Below wd.heap.size wd (wd.alloc (.cells #[.int .i64 i0] 2)) from zR.alloc zJ _);have HL3:=xN (show RdI (wd.alloc (.cells #[.int .i64 i0] 2)) (.slice (some ⟨w.heap.size,0,none⟩) 1 1) [i0] by have:=OwI.rd (lit1 wd i0);rwa [hdz] at this);have HC3:=xN ((HA3.o.cell (World.block_lt_of_cell? _ _ HCd.o)).trans HCd.o);have HB3:=xN (yO HBd.o zM HA3.o);have HT3:=xN (RdI.below HTd.o HA3.o);have hs3:=HB3.o.size;go_simp;refine uN hK ?_ (fun hS1=>?_)
    ·exact HC3.o
    clear hK K hS0;generalize wd.alloc (.cells #[.int .i64 i0] 2)=W3 at *;refine pN 2 (fun K hK=>?_);go_simp;go_wp2_with (go_at_call 39;refine(vQz _ (st.drop 1) _ HT3.o hdl).mono ?_;rintro e w4 ⟨v3,rfl,ho,hb⟩)
    have HB4:=xN (yO HB3.o hs3 hb);have HO4:=xN (zGz ho hs3);have HL4:=xN (RdI.below HL3.o hb);have HC4:=xN ((hb.cell (World.block_lt_of_cell? _ _ HC3.o)).trans HC3.o);have hs4:=HB4.o.size;clear ho hb;refine uN hK ?_ (fun hS2=>?_)
    ·exact HC4.o
    clear hK K hS1;refine pN 7 (fun K hK=>?_);refine zFz rfl _ _ rfl rfl HO4.o (ys:= [i0]) rfl HL4.o (by simp only[List.length_cons,List.length_nil];omega) hs4 ?_;intro v8 w8 ho hg hv;have HB8:=xN (zOz HB4.o HO4.o hg zJ hs4);have HO8:=xN ho;have HC8:=xN (show w8.cell? ⟨bi,oi,none⟩=some (.int .i64 i0) from(HB8.o.cell lbi).trans ((HB4.o.cell lbi).symm.trans HC4.o));clear ho hg hv;refine uN hK ?_ (fun hS3=>?_)
    ·exact HC8.o
    clear hK K hS2;refine pN 8 (fun K hK=>?_);go_simp;refine uN hK ?_ (fun hS4=>?_)
    ·exact HC8.o
    clear hK K hS3;refine qN ?_;clear hS4;go_wp2;go_ret
    exact⟨_,rfl,by rw[HE.o];exact HO8.o,HB8.o⟩
 ·
  have hnum:=HP.o.num;have hst:=HP.o.state;have hia:=HP.o.ins_;have hsa:=HP.o.st_;rw[e] at hnum;replace hnum:ins.length=1:=by rw[hnum];rfl
  obtain⟨i0,rfl⟩:=lnI1 hnum;obtain⟨IA,ci,rfl,li,mi,_⟩:=HI.o.open_;have hs0:Smp i0:=hia i0 (by simp);simp only[List.length_cons,List.length_nil] at li;obtain⟨SA,cs_,rfl,ls,ms,_⟩:=HS.o.open_;clear hnum hst hia hsa;have HE:=xN (show wF x [i0] st out= [out] by unfold wF;simp only[e];rfl);rw[e] at p0;generalize wF x [i0] st out=OO at *;clear e
  go_enter Tryz.func175,Tryz.ntmps175
  go_wp2;go_ret
  exact⟨_,rfl,by rw[HE.o];exact lit1 w _,zR.alloc zJ _⟩
 ·
  have hnum:=HP.o.num;have hst:=HP.o.state;have hia:=HP.o.ins_;have hsa:=HP.o.st_;rw[e] at hnum;replace hnum:ins.length=1:=by rw[hnum];rfl
  obtain⟨i0,rfl⟩:=lnI1 hnum;obtain⟨bi,oi,ci,rfl,li,mi,lbi,hci⟩:=wP HI.o (by simp);have c0:=hci 0 i0 rfl;rw[Nat.add_zero] at c0;clear hci;have hs0:Smp i0:=hia i0 (by simp);simp only[List.length_cons,List.length_nil] at li;obtain⟨SA,cs_,rfl,ls,ms,_⟩:=HS.o.open_;clear hnum hst hia hsa;have HE:=xN (show wF x [i0] st out= [i0] by unfold wF;simp only[e];rfl);rw[e] at p0;generalize wF x [i0] st out=OO at *;clear e
  go_enter Tryz.func175,Tryz.ntmps175
  go_wp2;go_ret
  exact⟨_,rfl,by rw[HE.o];exact lit1 w _,zR.alloc zJ _⟩
 ·
  have hnum:=HP.o.num;have hst:=HP.o.state;have hia:=HP.o.ins_;have hsa:=HP.o.st_;rw[e] at hnum;replace hnum:ins.length=2:=by rw[hnum];rfl
  obtain⟨i0,i1,rfl⟩:=lnI2 hnum;obtain⟨IA,ci,rfl,li,mi,_⟩:=HI.o.open_;have hs0:Smp i0:=hia i0 (by simp);have hs1:Smp i1:=hia i1 (by simp);simp only[List.length_cons,List.length_nil] at li;obtain⟨SA,cs_,rfl,ls,ms,_⟩:=HS.o.open_;clear hnum hst hia hsa;have HE:=xN (show wF x [i0,i1] st out= [] by unfold wF;simp only[e];rfl);rw[e] at p0;generalize wF x [i0,i1] st out=OO at *;clear e
  go_enter Tryz.func175,Tryz.ntmps175
  go_wp2;go_ret
  exact⟨_,rfl,by rw[HE.o];exact vP w,zR.alloc zJ _⟩
 ·
  have hA:0≤x.fA∧x.fA≤31:=by have h:=HA0.o;rw[e] at h;exact xK.1 h
  have hnum:=HP.o.num;have hst:=HP.o.state;have hia:=HP.o.ins_;have hsa:=HP.o.st_;rw[e] at hnum;replace hnum:ins.length=1:=by rw[hnum];rfl
  obtain⟨i0,rfl⟩:=lnI1 hnum;obtain⟨IA,ci,rfl,li,mi,_⟩:=HI.o.open_;have hs0:Smp i0:=hia i0 (by simp);simp only[List.length_cons,List.length_nil] at li;obtain⟨SA,cs_,rfl,ls,ms,_⟩:=HS.o.open_;clear hnum hst hia hsa;have HE:=xN (show wF x [i0] st out= [] by unfold wF;simp only[e];rfl);rw[e] at p0;generalize wF x [i0] st out=OO at *;clear e
  go_enter Tryz.func175,Tryz.ntmps175
  go_wp2;go_ret
  exact⟨_,rfl,by rw[HE.o];exact vP w,zR.alloc zJ _⟩
 ·
  have hA:0≤x.fA∧x.fA≤2147483647:=by have h:=HA0.o;rw[e] at h;exact xK.1 h
  have hnum:=HP.o.num;have hst:=HP.o.state;have hia:=HP.o.ins_;have hsa:=HP.o.st_;rw[e] at hnum;replace hnum:ins.length=1:=by rw[hnum];rfl
  obtain⟨i0,rfl⟩:=lnI1 hnum;obtain⟨IA,ci,rfl,li,mi,_⟩:=HI.o.open_;have hs0:Smp i0:=hia i0 (by simp);simp only[List.length_cons,List.length_nil] at li;obtain⟨SA,cs_,rfl,ls,ms,_⟩:=HS.o.open_;clear hnum hst hia hsa;have HE:=xN (show wF x [i0] st out= [] by unfold wF;simp only[e];rfl);rw[e] at p0;generalize wF x [i0] st out=OO at *;clear e
  go_enter Tryz.func175,Tryz.ntmps175
  go_wp2;go_ret
  exact⟨_,rfl,by rw[HE.o];exact vP w,zR.alloc zJ _⟩
 ·
  have hnum:=HP.o.num;have hst:=HP.o.state;have hia:=HP.o.ins_;have hsa:=HP.o.st_;rw[e] at hnum;replace hnum:ins.length=1:=by rw[hnum];rfl
  obtain⟨i0,rfl⟩:=lnI1 hnum;obtain⟨bi,oi,ci,rfl,li,mi,lbi,hci⟩:=wP HI.o (by simp);have c0:=hci 0 i0 rfl;rw[Nat.add_zero] at c0;clear hci;have hs0:Smp i0:=hia i0 (by simp);simp only[List.length_cons,List.length_nil] at li;have hst0:0<st.length:=by rw[hst];unfold wW;simp only[e];simp
  obtain⟨bs,os,cs_,rfl,ls,ms,lbs,hcs_⟩:=wP HS.o hst0;have hgs:=gE hst0;have s0:=hcs_ 0 _ hgs;rw[Nat.add_zero] at s0;have hss:Smp st[0]:=hsa _ (List.getElem_mem hst0);have HSD:=xN (show st.getD 0 0=st[0] by rw[List.getD_eq_getElem?_getD,hgs];rfl);generalize st[0]=y0 at *;clear hcs_ hgs;clear hnum hst hia hsa;have HE:=xN (show wF x [i0] st out= [wrp (y0+i0)] by unfold wF;simp only[e];(try rw[HSD.o]);(try rfl));rw[e] at p0;generalize wF x [i0] st out=OO at *;clear e
  go_enter Tryz.func175,Tryz.ntmps175
  go_wp2;refine wG (fun w'=>w'.cell? ⟨bi,oi,none⟩=some (.int .i64 i0)∧w'.cell? ⟨bs,os,none⟩=some (.int .i64 y0)) [] (by kernel_rfl) ?_ (fun hS0=>?_)
  ·exact⟨c0,s0⟩
  have HCd:=xN (show w.drew.cell? ⟨bi,oi,none⟩=some (.int .i64 i0)∧w.drew.cell? ⟨bs,os,none⟩=some (.int .i64 y0) from⟨c0,s0⟩);have HBd:=xN (Below.refl w.heap.size w).drew;have hdz:w.drew.heap.size=w.heap.size:=rfl;clear c0 s0 p0 p1 p2 p3 lb;generalize w.drew=wd at *;refine zN 0 hS0 ?_;refine zN 1 hS0 ?_;refine zN 2 hS0 ?_;refine zN 3 hS0 ?_;refine zN 4 hS0 ?_;refine zN 5 hS0 ?_;refine pN 6 (fun K hK=>?_);go_simp;go_wp2_with (go_at_call 142;refine(c_mAdd _ _ _ hss hs0).mono ?_;rintro e w' ⟨rfl,rfl⟩)
  refine uN hK ?_ (fun hS1=>?_)
  ·exact HCd.o
  clear hK K hS0;have HA4:=xN (show Below wd.heap.size wd (wd.alloc (.cells #[.int .i64 (wrp (y0+i0))] 2)) from zR.alloc zJ _);have HC4:=xN (show (wd.alloc (.cells #[.int .i64 (wrp (y0+i0))] 2)).cell? ⟨bi,oi,none⟩=some (.int .i64 i0)∧(wd.alloc (.cells #[.int .i64 (wrp (y0+i0))] 2)).cell? ⟨bs,os,none⟩=some (.int .i64 y0) from⟨(HA4.o.cell (World.block_lt_of_cell? _ _ HCd.o.1)).trans HCd.o.1,(HA4.o.cell (World.block_lt_of_cell? _ _ HCd.o.2)).trans HCd.o.2⟩);refine pN 7 (fun K hK=>?_);go_simp;refine uN hK ?_ (fun hS2=>?_)
  ·exact HC4.o
  clear hK K hS1;refine pN 8 (fun K hK=>?_);go_simp;refine uN hK ?_ (fun hS3=>?_)
  ·exact HC4.o
  clear hK K hS2;refine qN ?_;clear hS3;go_wp2;go_ret
  exact⟨_,rfl,by rw[HE.o,←hdz];exact lit1 wd _,yO HBd.o zM HA4.o⟩
 ·
  have hA:0≤x.fA∧x.fA≤3:=by have h:=HA0.o;rw[e] at h;exact xK.1 h
  have hAt:x.fA<(tables.length:Int):=HTB.o e;have hnum:=HP.o.num;have hst:=HP.o.state;have hia:=HP.o.ins_;have hsa:=HP.o.st_;rw[e] at hnum;replace hnum:ins.length=1:=by rw[hnum];rfl
  obtain⟨i0,rfl⟩:=lnI1 hnum;obtain⟨IA,ci,rfl,li,mi,_⟩:=HI.o.open_;have hs0:Smp i0:=hia i0 (by simp);simp only[List.length_cons,List.length_nil] at li;obtain⟨SA,cs_,rfl,ls,ms,_⟩:=HS.o.open_;clear hnum hst hia hsa;have HE:=xN (show wF x [i0] st out= [] by unfold wF;simp only[e];rfl);rw[e] at p0;generalize wF x [i0] st out=OO at *;clear e
  go_enter Tryz.func175,Tryz.ntmps175
  go_wp2;go_ret
  exact⟨_,rfl,by rw[HE.o];exact vP w,zR.alloc zJ _⟩
 ·
  have hnum:=HP.o.num;have hst:=HP.o.state;have hia:=HP.o.ins_;have hsa:=HP.o.st_;rw[e] at hnum;replace hnum:ins.length=0:=by rw[hnum];rfl
  obtain rfl:ins= []:=List.eq_nil_of_length_eq_zero hnum;obtain⟨IA,ci,rfl,li,mi,_⟩:=HI.o.open_;have hst0:0<st.length:=by rw[hst];unfold wW;simp only[e];simp
  obtain⟨bs,os,cs_,rfl,ls,ms,lbs,hcs_⟩:=wP HS.o hst0;have hgs:=gE hst0;have s0:=hcs_ 0 _ hgs;rw[Nat.add_zero] at s0;have hss:Smp st[0]:=hsa _ (List.getElem_mem hst0);have HSD:=xN (show st.getD 0 0=st[0] by rw[List.getD_eq_getElem?_getD,hgs];rfl);generalize st[0]=y0 at *;clear hcs_ hgs;clear hnum hst hia hsa;have HE:=xN (show wF x [] st out= [noiseF y0] by unfold wF;simp only[e];(try rw[HSD.o]);(try rfl));rw[e] at p0;generalize wF x [] st out=OO at *;clear e
  go_enter Tryz.func175,Tryz.ntmps175
  go_wp2_with (go_at_call 179;refine(c_l06Noise _ _).mono ?_;rintro e w' ⟨rfl,rfl⟩)
  go_ret
  exact⟨_,rfl,by rw[HE.o];exact lit1 w _,zR.alloc zJ _⟩
 ·
  have hnum:=HP.o.num;have hst:=HP.o.state;have hia:=HP.o.ins_;have hsa:=HP.o.st_;rw[e] at hnum;replace hnum:ins.length=3:=by rw[hnum];rfl
  obtain⟨i0,i1,i2,rfl⟩:=lnI3 hnum;obtain⟨IA,ci,rfl,li,mi,_⟩:=HI.o.open_;have hs0:Smp i0:=hia i0 (by simp);have hs1:Smp i1:=hia i1 (by simp);have hs2:Smp i2:=hia i2 (by simp);simp only[List.length_cons,List.length_nil] at li;obtain⟨SA,cs_,rfl,ls,ms,_⟩:=HS.o.open_;clear hnum hst hia hsa;have HE:=xN (show wF x [i0,i1,i2] st out= [] by unfold wF;simp only[e];rfl);rw[e] at p0;generalize wF x [i0,i1,i2] st out=OO at *;clear e
  go_enter Tryz.func175,Tryz.ntmps175
  go_wp2;go_ret
  exact⟨_,rfl,by rw[HE.o];exact vP w,zR.alloc zJ _⟩
 ·
  have hnum:=HP.o.num;have hst:=HP.o.state;have hia:=HP.o.ins_;have hsa:=HP.o.st_;rw[e] at hnum;replace hnum:ins.length=2:=by rw[hnum];rfl
  obtain⟨i0,i1,rfl⟩:=lnI2 hnum;obtain⟨IA,ci,rfl,li,mi,_⟩:=HI.o.open_;have hs0:Smp i0:=hia i0 (by simp);have hs1:Smp i1:=hia i1 (by simp);simp only[List.length_cons,List.length_nil] at li;obtain⟨SA,cs_,rfl,ls,ms,_⟩:=HS.o.open_;clear hnum hst hia hsa;have HE:=xN (show wF x [i0,i1] st out= [out] by unfold wF;simp only[e];rfl);rw[e] at p0;generalize wF x [i0,i1] st out=OO at *;clear e
  go_enter Tryz.func175,Tryz.ntmps175
  go_wp2;go_ret
  exact⟨_,rfl,by rw[HE.o];exact lit1 w _,zR.alloc zJ _⟩
 ·
  have hA:Smp x.fA:=by have h:=HA0.o;rw[e] at h;exact xK.1 h
  have HA:=xN (show 1≤x.fB∧x.fB≤16 by have h:=HB0_.o;rw[e] at h;exact xK.1 h);have hnum:=HP.o.num;have hst:=HP.o.state;have hia:=HP.o.ins_;have hsa:=HP.o.st_;rw[e] at hnum;replace hnum:ins.length=1:=by rw[hnum];rfl
  obtain⟨i0,rfl⟩:=lnI1 hnum;obtain⟨IA,ci,rfl,li,mi,_⟩:=HI.o.open_;have hs0:Smp i0:=hia i0 (by simp);simp only[List.length_cons,List.length_nil] at li;have hst0:0<st.length:=by rw[hst];unfold wW;simp only[e];simp;have:=HA.o;omega
  obtain⟨bs,os,cs_,rfl,ls,ms,lbs,hcs_⟩:=wP HS.o hst0;have hgs:=gE hst0;have s0:=hcs_ 0 _ hgs;rw[Nat.add_zero] at s0;have hss:Smp st[0]:=hsa _ (List.getElem_mem hst0);have HSD:=xN (show st.getD 0 0=st[0] by rw[List.getD_eq_getElem?_getD,hgs];rfl);generalize st[0]=y0 at *;clear hcs_ hgs;clear hnum hst hia hsa;have HE:=xN (show wF x [i0] st out=st.drop 1++ [out] by unfold wF;simp only[e];rfl);rw[e] at p0;generalize wF x [i0] st out=OO at *;have HK_:=xN e;clear e;have hst1:1≤st.length:=hst0;have hsl:st.length≤1048576:=by have h:=HP.o.state;unfold wW at h;simp only[HK_.o] at h;simp at h;have:=HA.o;omega
  have HT1:=xN (rdI_tail HS.o hst1);by_cases hq:cs_=1
  ·
   subst hq;have HTL:=xN (HT1.o.1 rfl);have hl1:st.length=1:=by omega
   have hdl:(st.drop 1).length≤1048576:=by rw[List.length_drop];omega
   go_enter Tryz.func175,Tryz.ntmps175
   go_wp2_with fail
   refine(vQz _ (st.drop 1) _ HTL.o hdl).mono ?_;rintro e w3 ⟨v3,rfl,ho,hb⟩;have HO3:=xN ho;have HB3:=xN hb;have hs3:=hb.size;clear ho hb;go_wp2_with (at_builtin;refine yGz rfl _ _ rfl rfl HO3.o rfl zM hs3 ?_;intro v8 w8 ho8 hg8 hv8;have HB8:=xN (zOz HB3.o HO3.o hg8 zJ hs3);have HO8:=xN ho8;clear ho8 hg8 hv8)
   go_ret
   exact⟨_,rfl,by rw[HE.o];exact HO8.o,HB8.o⟩
  ·
   have HTL:=xN (HT1.o.2 zM);have q1:(1:Int)<(cs_:Int):=zM;have q2:1<cs_:=zM;have q3:(1:Int)≤(st.length:Int):=zM;have hdl:(st.drop 1).length≤1048576:=by rw[List.length_drop];omega
   go_enter Tryz.func175,Tryz.ntmps175
   go_wp2_with fail
   refine(vQz _ (st.drop 1) _ HTL.o hdl).mono ?_;rintro e w3 ⟨v3,rfl,ho,hb⟩;have HO3:=xN ho;have HB3:=xN hb;have hs3:=hb.size;clear ho hb;go_wp2_with (at_builtin;refine yGz rfl _ _ rfl rfl HO3.o rfl zM hs3 ?_;intro v8 w8 ho8 hg8 hv8;have HB8:=xN (zOz HB3.o HO3.o hg8 zJ hs3);have HO8:=xN ho8;clear ho8 hg8 hv8)
   go_ret
   exact⟨_,rfl,by rw[HE.o];exact HO8.o,HB8.o⟩
end
section
open Go.RowKit
end
end Go.Proofs.YtdcofkabaigjpaaGreat
