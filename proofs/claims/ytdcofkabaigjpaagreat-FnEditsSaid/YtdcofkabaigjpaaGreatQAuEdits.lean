/- slices.Insert, slices.Delete, slices.Clone at clips: the library's own text is followed. slices.Clone and slices.Insert at clips, whole; edited. The program's edited clips. -/
import Derived.Test.YtdcofkabaigjpaaGreatQAtEdits
import Derived.Laws.Externs
import Derived.Deep.RegionLaw
import Derived.Lib.SliceRun
set_option linter.unusedVariables false
set_option linter.unusedSimpArgs false
set_option maxHeartbeats 4000000
set_option maxRecDepth 100000
namespace Go.Proofs.YtdcofkabaigjpaaGreat
section
open Go.RowKit
theorem hz_Clip: ∀ w,(Go.sizeOf 39).run Tryz.prog w= .ok 5 w:=fun w=>by
 obtain⟨i0,hi0,hz0,hzs,hzb⟩:=info_parts vM;simp[sizeOf,typeInfo,hi0,hzs]
theorem zVy:(Tryz.prog.info? 39).map (·.size)=some 5:=by
 obtain⟨i0,hi0,hz0,hzs,hzb⟩:=info_parts vM;rw[hi0];simp[hzs]
theorem Bk.shape {w:World} {g:Nat} {t:TypeId} {cs:Array Value} (h:Bk w g t cs):w.shape? g=some (t,cs.size):=by
 unfold Bk at h;unfold World.shape?;rw[h]
theorem hov_Clip (w:World) (vb g o:Nat) (la ca lb cb:Nat) (cs cur:Array Value) (h1:Bk w vb 39 cs) (h2:Bk w g 39 cur) (hne:vb≠g) (h0:cur.size≠0):
  (callFunc 127 #[.slice (some ⟨vb,0,none⟩) la ca,.slice (some ⟨g,o,none⟩) lb cb]).run Tryz.prog w= .ok (.value (.bool false)) w:=by
 rw[run_callFunc_extern Tryz.func127 (by kernel_rfl) (by kernel_rfl) (by kernel_rfl) (e:=Extern.SlicesOverlaps.overlaps #[67,67 ] #[4 ]) (by kernel_rfl),
  Lib.run_overlaps_apart w 67 4 39 Tryz.underlying67 5 hz_Clip ⟨vb,0,none⟩ ⟨g,o,none⟩ la ca lb cb hne _ _ _ _ h1.shape h2.shape h0 (h1.free 0) (h1.free _)]
 rfl
theorem ins_lists {es vs rest cur:List Value} {i n:Nat} (hi:i≤n) (hv:vs.length=5) (he:es.length=n * 5) (hc:cur.take (n * 5)=es) (hcl:(n+1) * 5≤cur.length):
  (((cur.take ((i+1) * 5)++es.drop (i * 5)++cur.drop ((i+1) * 5+(es.drop (i * 5)).length)).take (i * 5)++vs++(cur.take ((i+1) * 5)++es.drop (i * 5)++cur.drop ((i+1) * 5+(es.drop (i * 5)).length)).drop (i * 5+vs.length))).take ((n+1) * 5)=es.take (i * 5)++(vs++es.drop (i * 5)):=by
 have h1:(cur.take ((i+1) * 5)++es.drop (i * 5)++cur.drop ((i+1) * 5+(es.drop (i * 5)).length)).take (i * 5)=es.take (i * 5):=by
  rw[List.append_assoc,List.take_append_of_le_length (by rw[List.length_take];omega),List.take_take,←hc,List.take_take]
  congr 1;omega
 have h2:(cur.take ((i+1) * 5)++es.drop (i * 5)++cur.drop ((i+1) * 5+(es.drop (i * 5)).length)).drop (i * 5+vs.length)=es.drop (i * 5)++cur.drop ((i+1) * 5+(es.drop (i * 5)).length):=by
  rw[List.append_assoc,List.drop_append_of_le_length (by rw[List.length_take];omega),List.drop_of_length_le (by rw[List.length_take];omega),List.nil_append]
 rw[h1,h2,List.append_assoc,←List.append_assoc vs,←List.append_assoc (es.take (i * 5)),List.take_left' (by simp only[List.length_append,List.length_take,List.length_drop];omega)]
theorem grown_setRow (w:World) (g:Nat) (cs:Array Value):w.grownBy (w.setRow g cs) (some g):=
 ⟨rfl,rfl,rfl,by simp,fun k _ hne=>setRow_other w g k cs (fun e=>hne (by rw[e]))⟩
theorem yMy {w:World} {B g n cap:Nat} {E:TypeId} {sz:Nat} {cur:Array Value} {es:List Value} (hl:es.length=n * sz) (hB:B≤g) (hg:w.heap[g]?=some (.cells cur E (0,0))) (hn:n≤cap) (hc:cap≤maxLen) (hs:cur.size=cap * sz) (ht:cur.toList.take (n * sz)=es):
  w.ownsRow B E sz (.slice (some ⟨g,0,none⟩) n cap) n es:=⟨hl,.inr ⟨g,cap,cur,rfl,hB,hg,hn,hc,hs,ht⟩⟩
theorem c_insShift (g n cap i vb:Nat) (cur:Array Value) (es vs:List Value) (w:World) (hi:i<n) (hn:n+1≤cap) (hcap:cap≤9223372036854775807) (hnn:n≤1048576) (hg:Bk w g 39 cur) (hcur:cur.size=cap * 5) (hes:cur.toList.take (n * 5)=es) (hb:Bk w vb 39 vs.toArray) (hne:vb≠g) (hvl:vs.length=5)
  (h1c: ∀ u ∈ es,u.oneCell'=true) (h1v: ∀ u ∈ vs,u.oneCell'=true):
  Calls Tryz.prog 99 #[.slice (some ⟨g,0,none⟩) n cap,.int .i64 (i:Int),.slice (some ⟨vb,0,none⟩) 1 1] w fun e w'=>
   e= .returned (.slice (some ⟨g,0,none⟩) (n+1) cap)∧(∃ cur',Bk w' g 39 cur'∧cur'.size=cap * 5∧cur'.toList.take ((n+1) * 5)=es.take (i * 5)++(vs++es.drop (i * 5)))∧w.grownBy w' (some g):=by
 have hel:es.length=n * 5:=by rw[←hes,List.length_take,Array.length_toList,hcur];omega
 have hdl:(es.drop (i * 5)).length=(n - i) * 5:=by rw[List.length_drop,hel];omega
 have hov: ∀ lb cb,(callFunc 127 #[.slice (some ⟨vb,0,none⟩) 1 1,.slice (some ⟨g,(i+1) * 5,none⟩) lb cb]).run Tryz.prog w= .ok (.value (.bool false)) w:=fun lb cb=>hov_Clip w vb g _ 1 1 lb cb _ _ hb hg hne (by rw[hcur];omega)
 have hz2: ¬ ((i:Int)=(n:Int)):=by omega
 have hw1:IntKind.i64.wrap ((i:Int)+1)=(i:Int)+1:=by rw[IntKind.wrap_i64];omega
 have hw2:IntKind.i64.wrap ((n:Int)+1)=(n:Int)+1:=by rw[IntKind.wrap_i64];omega
 have hb1:(0:Int)≤(i:Int)+1:=by omega
 have hin:i≤n:=by omega
 have htn:((i:Int)+1).toNat=i+1:=by omega
 have htm:((n:Int)+1).toNat=n+1:=by omega
 have hb2: ¬ (cap=i+1):=by omega
 have hb3:(i:Int)≤(n:Int)+1:=by omega
 have hb4: ¬ (cap=i):=by omega
 have hb5: ¬ ((cap:Int)<(n:Int)+1):=by omega
 have hb6:(n:Int)+1≤(cap:Int):=by omega
 have HG:=xN hg;have HB:=xN hb;have HES:=xN hes;have HCU:=xN hcur;have HEL:=xN hel;have H1C:=xN h1c;clear hg hb hes hcur hel h1c
 go_enter Tryz.func99,Tryz.ntmps99
 go_wp2_with (simp only[hov])
 have hsrc1: ∀ j v,(es.drop (i * 5))[j]?=some v→w.drew.cell? ((⟨g,i * 5,none⟩:Addr).add j)=some v:=fun j v hj=>by
  rw[show (⟨g,i * 5,none⟩:Addr).add j=⟨g,i * 5+j,none⟩ by unfold Addr.add;split<;>simp_all];refine(HG.o.cell (i * 5+j)).trans ?_;rw[List.getElem?_drop,←HES.o,List.getElem?_take] at hj
  split at hj
  ·simpa using hj
  ·cases hj
 obtain⟨cur1,hcur1⟩: ∃ c:Array Value,c=(cur.toList.take ((i+1) * 5)++es.drop (i * 5)++cur.toList.drop ((i+1) * 5+(es.drop (i * 5)).length)).toArray:=⟨_,rfl⟩;have hw1s:w.drew.setRow g (cur.toList.take ((i+1) * 5)++es.drop (i * 5)++cur.toList.drop ((i+1) * 5+(es.drop (i * 5)).length)).toArray=w.drew.setRow g cur1:=by rw[hcur1]
 have HSRC:=xN hsrc1;have HC1:=xN hcur1;have HDL:=xN hdl;have H1V:=xN h1v
 have hs1:cur1.size=cap * 5:=by
  rw[hcur1];simp only[List.size_toArray,List.length_append,List.length_take,List.length_drop,Array.length_toList,HCU.o,HEL.o];omega
 have HS1:=xN hs1;clear hsrc1 hcur1 hdl h1v hs1
 go_region_law (refine uWz rfl _ _ 67 67 rfl 39 5 Tryz.underlying67 zVy g ((i+1) * 5) (n+1 - (i+1)) (cap - (i+1)) ⟨g,i * 5,none⟩ (n+1 - i) (cap - i) (by simp[Act.eval,Act.put]) (by simp[Act.eval,Act.put]) cur 39 HG.o (es.drop (i * 5)) (by rw[HDL.o];simp only[Nat.min_def];split<;>(congr 1;omega)) HSRC.o (by rw[HDL.o,HCU.o];omega) (fun v hv=>H1C.o v (List.mem_of_mem_drop hv)) ?_;rw[hw1s])
 clear hw1s;have hg1:(w.drew.setRow g cur1).heap[g]?=some (.cells cur1 39 (0,0)):=setRow_heap w.drew g cur cur1 _ _ HG.o;have HG1:=xN hg1;clear hg1
 have HB1:Sec (∀ j v,vs[j]?=some v→(w.drew.setRow g cur1).cell? ((⟨vb,0,none⟩:Addr).add j)=some v):=xN fun j v hj=>by
  rw[show (⟨vb,0,none⟩:Addr).add j=⟨vb,j,none⟩ by unfold Addr.add;split<;>simp_all,cell_setRow_other _ _ _ _ hne];exact(HB.o.cell j).trans (by simpa using hj)
 have hm1:vs.length=Nat.min 1 (n+1 - i) * 5:=by rw[hvl];simp only[Nat.min_def];split<;>omega
 have hf1:i * 5+vs.length≤cur1.size:=by rw[HS1.o,hvl];omega
 have HM1:=xN hm1;have HF1:=xN hf1;clear hm1 hf1;go_wp2_with (refine vSz rfl _ _ 67 67 rfl 39 5 Tryz.underlying67 zVy g (i * 5) (n+1 - i) (cap - i) ⟨vb,0,none⟩ 1 1 rfl rfl cur1 39 HG1.o vs HM1.o HB1.o HF1.o H1V.o ?_)
 go_ret
 refine⟨rfl,⟨_,setRow_heap _ g cur1 _ _ _ HG1.o,?_,?_⟩,?_⟩
 ·simp only[List.size_toArray,List.length_append,List.length_take,List.length_drop,Array.length_toList,HS1.o,hvl];omega
 ·have:=ins_lists (rest:= []) (Nat.le_of_lt hi) hvl HEL.o HES.o (by rw[Array.length_toList,HCU.o];omega)
  rw[HC1.o];simp only[List.append_assoc,List.toList_toArray,List.length_drop,hvl] at this ⊢;exact this
 ·have h1:=grown_setRow w.drew g cur1
  exact⟨rfl,rfl,rfl,by simp,fun k hk hne=>by rw[setRow_other _ _ _ _ (fun e=>hne (by rw[e])),setRow_other _ _ _ _ (fun e=>hne (by rw[e]))];rfl⟩
theorem yQz (z:Value) (n:Nat) (h:z.cells.size=5):(Builtin.zeroCells z.cells n).size=n * 5:=by
 have: ∀ n,(Builtin.zeroCells z.cells n).size=n * z.cells.size:=fun n=>by simp[Builtin.zeroCells]
 rw[this,h]
theorem ins_lists2 {es vs Z G:List Value} {i n:Nat} (hi:i<n) (hv:vs.length=5) (he:es.length=n * 5) (hz:Z.length=(n+1 - i) * 5):
  let R:=es.take (i * 5)++Z++G
  let R1:=R.take (i * 5)++vs++R.drop (i * 5+vs.length)
  (R1.take ((i+1) * 5)++es.drop (i * 5)++R1.drop ((i+1) * 5+(es.drop (i * 5)).length)).take ((n+1) * 5)=es.take (i * 5)++(vs++es.drop (i * 5)):=by
 intro R R1;have hd:(es.drop (i * 5)).length=(n - i) * 5:=by rw[List.length_drop,he];omega
 have h1:R.take (i * 5)=es.take (i * 5):=by
  show (es.take (i * 5)++Z++G).take (i * 5)=_
  rw[List.append_assoc,List.take_left' (by rw[List.length_take];omega)]
 have hR1:R1.take ((i+1) * 5)=es.take (i * 5)++vs:=by
  show (R.take (i * 5)++vs++R.drop (i * 5+vs.length)).take ((i+1) * 5)=_
  rw[h1,List.take_left' (by simp only[List.length_append,List.length_take];omega)]
 rw[hR1,List.take_append_of_le_length (by simp only[List.length_append,List.length_take];omega),List.take_of_length_le (by simp only[List.length_append,List.length_take];omega),List.append_assoc]
theorem c_insGrow (g n i vb:Nat) (cur:Array Value) (es vs:List Value) (w:World) (hi:i<n) (hnn:n≤1048576) (hg:Bk w g 39 cur) (hcur:cur.size=n * 5) (hes:cur.toList.take (n * 5)=es) (hb:Bk w vb 39 vs.toArray) (hvl:vs.length=5)
  (h1c: ∀ u ∈ es,u.oneCell'=true) (h1v: ∀ u ∈ vs,u.oneCell'=true):
  Calls Tryz.prog 99 #[.slice (some ⟨g,0,none⟩) n n,.int .i64 (i:Int),.slice (some ⟨vb,0,none⟩) 1 1] w fun e w'=>
   ∃ G,e= .returned (.slice (some ⟨w.heap.size,0,none⟩) (n+1) G)∧n+1≤G∧G≤maxLen∧(∃ cur',Bk w' w.heap.size 39 cur'∧cur'.size=G * 5∧cur'.toList.take ((n+1) * 5)=es.take (i * 5)++(vs++es.drop (i * 5)))∧Below w.heap.size w w':=by
 have hel:es.length=n * 5:=by rw[←hes,List.length_take,Array.length_toList,hcur];omega
 have hdl:(es.drop (i * 5)).length=(n - i) * 5:=by rw[List.length_drop,hel];omega
 have hce:cur.toList=es:=by rw[←hes,List.take_of_length_le (by rw[Array.length_toList,hcur];omega)]
 obtain⟨i0,hi0,hz0,hzs,hzb⟩:=info_parts vM
 have hold: ∀ j v,(es.take (i * 5))[j]?=some v→w.cell? ((⟨g,0,none⟩:Addr).add j)=some v:=fun j v hj=>by
  rw[show (⟨g,0,none⟩:Addr).add j=⟨g,j,none⟩ by unfold Addr.add;split<;>simp_all,hg.cell j];rw[←hce,List.getElem?_take] at hj
  split at hj
  ·simpa using hj
  ·cases hj
 have hik:i+(n+1 - i)=n+1:=by omega
 obtain⟨G,hG⟩: ∃ G,G=grownCap w (n+1) n 39:=⟨_,rfl⟩;obtain⟨ROW,hROW⟩: ∃ ROW:Array Value,ROW=(es.take (i * 5)).toArray++Builtin.zeroCells (Value.agg #[.int .i64 0,.int .i64 0,.int .i64 0,.int .i64 0,.int .i64 0]).cells (n+1 - i)++Builtin.zeroCells (Value.agg #[.int .i64 0,.int .i64 0,.int .i64 0,.int .i64 0,.int .i64 0]).cells (G - (n+1)):=⟨_,rfl⟩;have hkk:(n:Int)+1 - (i:Int)=((n+1 - i:Nat):Int):=by omega
 have hrz: ∀ ty,(Builtin.append_ #[67,3 ] ty #[.slice (some ⟨g,0,none⟩) i n,.int .i64 ((n:Int)+1 - (i:Int))]).run Tryz.prog w=
   .ok (.slice (some ⟨w.heap.size,0,none⟩) (n+1) G) (w.drew.alloc (.cells ROW 39)):=fun ty=>by
  have h:=run_append_grow_zeros (P:=Tryz.prog) w 67 3 ty 39 i0 _ .i64 .i64 Tryz.underlying67 Tryz.underlying3 hi0 hz0 ⟨g,0,none⟩ i n (es.take (i * 5)) (by rw[List.length_take,hzs];omega) hold (n+1 - i) zM zM zM zM (by rw[hzb];omega) (by rw[hzb,hik];exact growslice_fits zM zM);rw[hik] at h;rw[hkk,hROW,hG];exact h
 have hGn:n+1≤G:=by rw[hG];exact grownCap_ge w _ _ _
 have hG63:G≤maxLen:=by
  have:=grownCap_le_maxLen w (n+1) n 39 (by unfold maxLen;omega);rw[←hG] at this;exact this
 have hRs:ROW.size=G * 5:=by
  rw[hROW];simp only[Array.size_append,List.size_toArray,List.length_take];rw[yQz _ _ rfl,yQz _ _ rfl,hel]
  omega
 have hRl:ROW.toList=es.take (i * 5)++(Builtin.zeroCells (Value.agg #[.int .i64 0,.int .i64 0,.int .i64 0,.int .i64 0,.int .i64 0]).cells (n+1 - i)).toList++(Builtin.zeroCells (Value.agg #[.int .i64 0,.int .i64 0,.int .i64 0,.int .i64 0,.int .i64 0]).cells (G - (n+1))).toList:=by
  rw[hROW];simp
 have hz2: ¬ ((i:Int)=(n:Int)):=by omega
 have hw1:IntKind.i64.wrap ((i:Int)+1)=(i:Int)+1:=by rw[IntKind.wrap_i64];omega
 have hw2:IntKind.i64.wrap ((n:Int)+1)=(n:Int)+1:=by rw[IntKind.wrap_i64];omega
 have hw3:IntKind.i64.wrap ((n:Int)+1 - (i:Int))=(n:Int)+1 - (i:Int):=by rw[IntKind.wrap_i64];omega
 have hb1:(0:Int)≤(i:Int)+1:=by omega
 have htn:((i:Int)+1).toNat=i+1:=by omega
 have hG63':G≤9223372036854775807:=by unfold maxLen at hG63;omega
 have hb2: ¬ (n=i):=by omega
 have hGi: ¬ (G=i):=by omega
 have hGim: ¬ (G=i+1):=by omega
 have hin:i≤n:=by omega
 have hb3:(i:Int)≤(n:Int):=by omega
 have hb4:(n:Int)<(n:Int)+1:=by omega
 have hb5:(i:Int)≤(n:Int)+1:=by omega
 have HG:=xN hg;have HB:=xN hb;have HES:=xN hes;have HCU:=xN hcur;have HEL:=xN hel;have H1C:=xN h1c;have HRS:=xN hRs;have HRL:=xN hRl;have HDL:=xN hdl;have HCE:=xN hce;have HVL:=xN hvl;have hgw:=hg.lt;have hbw:=hb.lt;clear hg hb hes hcur hel h1c hold hik hkk hROW hG hz0 hzs hzb hi0 hRs hRl hdl hce hvl
 go_enter Tryz.func99,Tryz.ntmps99
 have hsrcV: ∀ j v,vs[j]?=some v→(w.alloc (.cells ROW 39)).drew.cell? ((⟨vb,0,none⟩:Addr).add j)=some v:=fun j v hj=>by
  rw[show (⟨vb,0,none⟩:Addr).add j=⟨vb,j,none⟩ by unfold Addr.add;split<;>simp_all];exact((HB.o.alloc (.cells ROW 39)).drew.cell j).trans (by simpa using hj)
 obtain⟨R1,hR1⟩: ∃ c:Array Value,c=(ROW.toList.take (i * 5)++vs++ROW.toList.drop (i * 5+vs.length)).toArray:=⟨_,rfl⟩;have hm1:vs.length=Nat.min 1 (n+1 - i) * 5:=by rw[HVL.o];simp only[Nat.min_def];split<;>omega
 have hf1:i * 5+vs.length≤ROW.size:=by rw[HRS.o,HVL.o];omega
 have hrw1:(w.alloc (.cells ROW 39)).drew.setRow w.heap.size (ROW.toList.take (i * 5)++vs++ROW.toList.drop (i * 5+vs.length)).toArray=(w.alloc (.cells ROW 39)).drew.setRow w.heap.size R1:=by rw[hR1]
 have hs1:R1.size=G * 5:=by
  rw[hR1];simp only[List.size_toArray,List.length_append,List.length_take,List.length_drop,Array.length_toList,HRS.o,HVL.o];omega
 have HM1:=xN hm1;have HF1:=xN hf1;have HRW1:=xN hrw1;have HSV:=xN hsrcV;have HS1:=xN hs1;have HR1:=xN hR1;have H1V:=xN h1v;clear hm1 hf1 hrw1 hsrcV hs1 hR1 h1v;go_wp2_with (first|(at_builtin;refine Lib.wpList_append_run _ rfl _ _ _ _ rfl _ _ rfl rfl _ _ (hrz _) ?_)|(refine vSz rfl _ _ 67 67 rfl 39 5 Tryz.underlying67 zVy w.heap.size (i * 5) (n+1 - i) (G - i) ⟨vb,0,none⟩ 1 1 rfl rfl ROW 39 (Bk.drew (Bk.born w 39 ROW)) vs HM1.o HSV.o HF1.o H1V.o ?_;rw[HRW1.o]))
 have hg1:((w.alloc (.cells ROW 39)).drew.setRow w.heap.size R1).heap[w.heap.size]?=some (.cells R1 39 (0,0)):=setRow_heap _ w.heap.size ROW R1 _ _ (Bk.drew (Bk.born w 39 ROW));have hne:g≠w.heap.size:=by omega
 have hsrc2: ∀ j v,(es.drop (i * 5))[j]?=some v→((w.alloc (.cells ROW 39)).drew.setRow w.heap.size R1).drew.cell? ((⟨g,i * 5,none⟩:Addr).add j)=some v:=fun j v hj=>by
  rw[show (⟨g,i * 5,none⟩:Addr).add j=⟨g,i * 5+j,none⟩ by unfold Addr.add;split<;>simp_all];refine(show _=((w.alloc (.cells ROW 39)).drew.setRow w.heap.size R1).cell? ⟨g,i * 5+j,none⟩ from rfl).trans ?_;rw[cell_setRow_other _ _ _ _ hne];refine((HG.o.alloc (.cells ROW 39)).drew.cell (i * 5+j)).trans ?_;rw[List.getElem?_drop,←HCE.o] at hj
  simpa using hj
 have hm2:(es.drop (i * 5)).length=Nat.min (n - i) (n+1 - (i+1)) * 5:=by rw[HDL.o];simp only[Nat.min_def];split<;>omega
 have hf2:(i+1) * 5+(es.drop (i * 5)).length≤R1.size:=by rw[HDL.o,HS1.o];omega
 have HG1:=xN hg1;have HSR2:=xN hsrc2;have HM2:=xN hm2;have HF2:=xN hf2;clear hg1 hsrc2 hm2 hf2
 go_region_law (refine uWz rfl _ _ 67 67 rfl 39 5 Tryz.underlying67 zVy w.heap.size ((i+1) * 5) (n+1 - (i+1)) (G - (i+1)) ⟨g,i * 5,none⟩ (n - i) (n - i) (by simp[Act.eval,Act.put]) (by simp[Act.eval,Act.put]) R1 39 HG1.o (es.drop (i * 5)) HM2.o HSR2.o HF2.o (fun v hv=>H1C.o v (List.mem_of_mem_drop hv)) ?_)
 go_wp2;go_ret
 refine⟨G,rfl,hGn,hG63,⟨_,setRow_heap _ w.heap.size R1 _ _ _ HG1.o,?_,?_⟩,?_⟩
 ·simp only[List.size_toArray,List.length_append,List.length_take,List.length_drop,Array.length_toList,HS1.o]
  have:=HDL.o;rw[List.length_drop] at this
  omega
 ·have:=ins_lists2 (es:=es) (vs:=vs) (Z:=(Builtin.zeroCells (Value.agg #[.int .i64 0,.int .i64 0,.int .i64 0,.int .i64 0,.int .i64 0]).cells (n+1 - i)).toList) (G:=(Builtin.zeroCells (Value.agg #[.int .i64 0,.int .i64 0,.int .i64 0,.int .i64 0,.int .i64 0]).cells (G - (n+1))).toList) hi HVL.o HEL.o (by rw[Array.length_toList,yQz _ _ rfl])
  simp only[←HRL.o] at this;rw[HR1.o];simp only[List.append_assoc,List.toList_toArray,List.length_drop,HVL.o] at this ⊢;exact this
 ·exact⟨rfl,rfl,rfl,by simp,fun k hk=>by
   rw[setRow_other _ _ _ _ zM]
   show ((w.alloc (.cells ROW 39)).drew.setRow w.heap.size R1).heap[k]?=_
   rw[setRow_other _ _ _ _ zM];exact Below.heap_alloc w _ k hk⟩
section
variable {P:Program}
theorem zYy (w:World) (t ty e:TypeId) (i:TypeInfo) (ht:P.underlying t=some (.slice e)) (hi:P.info? e=some i) (size:Nat) (hsz:i.size=size)
  (g sLen sCap:Nat) (a:Addr) (m c:Nat) (news:List Value) (hl:news.length=m * size) (hnews: ∀ j u,news[j]?=some u→w.cell? (a.add j)=some u) (h1: ∀ u ∈ news,u.oneCell'=true)
  (hroom:sLen+m≤sCap) (cur:Array Value) (tt:TypeId) (hg:w.heap[g]?=some (.cells cur tt (0,0))) (hfit:sLen * size+news.length≤cur.size):
  (Builtin.append_ #[t,t] ty #[.slice (some ⟨g,0,none⟩) sLen sCap,.slice (some a) m c]).run P w= .ok (.slice (some ⟨g,0,none⟩) (sLen+m) sCap) (w.setRow g (cur.toList.take (sLen * size)++news++cur.toList.drop (sLen * size+news.length)).toArray):=by
 subst hsz;have hfc:=run_firstCells_some (P:=P) w i.size m a m c news hl hnews;have hst:=run_storeCells_at P g (sLen * i.size) tt news 0 cur w hg (by simpa using hfit) h1;simp only[Nat.add_zero] at hst;simp[Builtin.append_,run_underlying ht,sizeOf,typeInfo,hi,Builtin.lenOf,hroom,hfc,Addr.add_lit,hst]
theorem wQz {w:World} {ops:Array Oper} {o:Oper} {a:Act} {K:Act→World→Prop} {Q:Exit→Act→World→Prop} {E:Prop} (hgd:o.guard=none) (s x:Operand) (t:TypeId)
  (ho:o.op= .call { callee:= .builtin .append,args:= #[s,x],argTypes:= #[t,t] }) (e:TypeId) (size:Nat) (ht:P.underlying t=some (.slice e)) (hsz:(P.info? e).map (·.size)=some size)
  (g sLen sCap:Nat) (ad:Addr) (m c:Nat) (hs:a.eval s= .slice (some ⟨g,0,none⟩) sLen sCap) (hx:a.eval x= .slice (some ad) m c) (news:List Value) (hl:news.length=m * size) (hnews: ∀ j u,news[j]?=some u→w.cell? (ad.add j)=some u) (h1: ∀ u ∈ news,u.oneCell'=true)
  (hroom:sLen+m≤sCap) (cur:Array Value) (tt:TypeId) (hg:w.heap[g]?=some (.cells cur tt (0,0))) (hfit:sLen * size+news.length≤cur.size)
  (h:K (a.put o.dst (.slice (some ⟨g,0,none⟩) (sLen+m) sCap)) (w.setRow g (cur.toList.take (sLen * size)++news++cur.toList.drop (sLen * size+news.length)).toArray)):
  if Region.wanted o (yielded ops a.tmps)=true then Oper.wp P o a w K Q else E:=by
 have hw:Region.wanted o (yielded ops a.tmps)=true:=by simp[Region.wanted,hgd]
 rw[if_pos hw]
 cases hq:P.info? e with
 |none=>simp[hq] at hsz
 |some i0=>
  have hi:i0.size=size:=by simpa[hq] using hsz
  have hrun:=zYy (P:=P) w t o.type e i0 ht hq size hi g sLen sCap ad m c news hl hnews h1 hroom cur tt hg hfit;unfold Oper.wp;simp[execOp,ho,resolve,invoke,builtin,hs,hx,hrun,Result.andThen];have h':=h;simp only[List.append_assoc] at h';exact h'
end
theorem zc_one: ∀ v ∈ (Builtin.zeroCells (Value.agg #[.int .i64 0,.int .i64 0,.int .i64 0,.int .i64 0,.int .i64 0]).cells 1).toList,v.oneCell'=true:=by
 intro v hv;simp only[Builtin.zeroCells,Array.toList_map,List.mem_map] at hv;obtain⟨i,_,rfl⟩:=hv;have h:(Value.agg #[.int .i64 0,.int .i64 0,.int .i64 0,.int .i64 0,.int .i64 0]).cells.size=5:=rfl;rw[h];have hk:i % 5<5:=Nat.mod_lt _ zM;generalize i % 5=k at *;have:k=0∨k=1∨k=2∨k=3∨k=4:=by omega
 rcases this with rfl|rfl|rfl|rfl|rfl<;>rfl
theorem run_clear_clip (w:World) (ty:TypeId) (g o c:Nat) (cur:Array Value) (tt:TypeId) (hg:w.heap[g]?=some (.cells cur tt (0,0))) (hfit:o+5≤cur.size):
  (Builtin.clear_ #[67 ] ty #[.slice (some ⟨g,o,none⟩) 1 c]).run Tryz.prog w= .ok (.tuple #[]) (w.setRow g (cur.toList.take o++(Builtin.zeroCells (Value.agg #[.int .i64 0,.int .i64 0,.int .i64 0,.int .i64 0,.int .i64 0]).cells 1).toList++cur.toList.drop (o+5)).toArray):=by
 obtain⟨i0,hi0,hz0,hzs,hzb⟩:=info_parts vM;have hl:(Builtin.zeroCells (Value.agg #[.int .i64 0,.int .i64 0,.int .i64 0,.int .i64 0,.int .i64 0]).cells 1).toList.length=5:=by rw[Array.length_toList,yQz _ _ rfl]
 have hst:=run_storeCells_at Tryz.prog g o tt (Builtin.zeroCells (Value.agg #[.int .i64 0,.int .i64 0,.int .i64 0,.int .i64 0,.int .i64 0]).cells 1).toList 0 cur w hg (by rw[hl];simpa using hfit) zc_one;rw[hl] at hst;simp only[Nat.add_zero] at hst;simp[Builtin.clear_,run_underlying Tryz.underlying67,zeroValue,typeInfo,hi0,hz0,hst]
theorem del_lists {es cur Z:List Value} {i m:Nat} (he:es.length=(i+1+m) * 5) (hc:cur.take ((i+1+m) * 5)=es) (hcl:(i+1+m) * 5≤cur.length):
  let R:=cur.take (i * 5)++es.drop ((i+1) * 5)++cur.drop (i * 5+(es.drop ((i+1) * 5)).length)
  (R.take ((i+m) * 5)++Z++R.drop ((i+m) * 5+5)).take ((i+m) * 5)=es.take (i * 5)++es.drop ((i+1) * 5):=by
 intro R;have hd:(es.drop ((i+1) * 5)).length=m * 5:=by rw[List.length_drop,he];omega
 have hR:R.take ((i+m) * 5)=cur.take (i * 5)++es.drop ((i+1) * 5):=List.take_left' (by simp only[List.length_append,List.length_take,hd];omega);rw[List.append_assoc,List.take_append_of_le_length (by rw[hR];simp only[List.length_append,List.length_take,hd];omega),List.take_of_length_le (by rw[hR];simp only[List.length_append,List.length_take,hd];omega),hR,←hc,List.take_take]
 congr 2;omega
theorem c_delClip (g cap i m:Nat) (cur:Array Value) (es:List Value) (w:World) (hn:i+1+m≤cap) (hcap:cap≤9223372036854775807) (hnn:i+1+m≤1048576) (hg:Bk w g 39 cur) (hcur:cur.size=cap * 5) (hes:cur.toList.take ((i+1+m) * 5)=es)
  (h1c: ∀ u ∈ es,u.oneCell'=true):
  Calls Tryz.prog 100 #[.slice (some ⟨g,0,none⟩) (i+1+m) cap,.int .i64 (i:Int),.int .i64 ((i:Int)+1)] w fun e w'=>
   e= .returned (.slice (some ⟨g,0,none⟩) (i+m) cap)∧(∃ cur',Bk w' g 39 cur'∧cur'.size=cap * 5∧cur'.toList.take ((i+m) * 5)=es.take (i * 5)++es.drop ((i+1) * 5))∧w.grownBy w' (some g):=by
 have hel:es.length=(i+1+m) * 5:=by rw[←hes,List.length_take,Array.length_toList,hcur];omega
 have hdl:(es.drop ((i+1) * 5)).length=m * 5:=by rw[List.length_drop,hel];omega
 have hb1:(0:Int)≤(i:Int)+1:=by omega
 have htn:((i:Int)+1).toNat=i+1:=by omega
 have hz1: ¬ ((i:Int)=(i:Int)+1):=by omega
 have hi1:(i:Int)+1≤(i:Int)+1+(m:Int):=by omega
 have hi2:(i:Int)+1≤(cap:Int):=by omega
 have hi3:(i:Int)+1+(m:Int)≤(cap:Int):=by omega
 have hi4:(i:Int)≤(i:Int)+1:=by omega
 have hi5:(i:Int)≤(cap:Int):=by omega
 have hi6:(i:Int)+(m:Int)≤(i:Int)+1+(m:Int):=by omega
 have e2:i+1+m - (i+m)=1:=by omega
 have e3:i+1+m - (i+1)=m:=by omega
 have hb2: ¬ (cap=i):=by omega
 have hb3: ¬ (i+1+m=i):=by omega
 have hb4: ¬ (cap=i+m):=by omega
 have HG:=xN hg;have HES:=xN hes;have HCU:=xN hcur;have HEL:=xN hel;have H1C:=xN h1c;have HDL:=xN hdl;clear hg hes hcur hel h1c hdl
 go_enter Tryz.func100,Tryz.ntmps100
 obtain⟨R,hR⟩: ∃ c:Array Value,c=(cur.toList.take (i * 5)++es.drop ((i+1) * 5)++cur.toList.drop (i * 5+(es.drop ((i+1) * 5)).length)).toArray:=⟨_,rfl⟩;have hrw:w.drew.setRow g (cur.toList.take (i * 5)++es.drop ((i+1) * 5)++cur.toList.drop (i * 5+(es.drop ((i+1) * 5)).length)).toArray=w.drew.setRow g R:=by rw[hR]
 have hRs:R.size=cap * 5:=by
  rw[hR];simp only[List.size_toArray,List.length_append,List.length_take,HDL.o,List.length_drop,Array.length_toList,HCU.o];have:=HDL.o;rw[List.length_drop] at this
  omega
 have hf:i * 5+(es.drop ((i+1) * 5)).length≤cur.size:=by rw[HDL.o,HCU.o];omega
 have hsrc: ∀ j v,(es.drop ((i+1) * 5))[j]?=some v→w.drew.cell? ((⟨g,(i+1) * 5,none⟩:Addr).add j)=some v:=fun j v hj=>by
  rw[show (⟨g,(i+1) * 5,none⟩:Addr).add j=⟨g,(i+1) * 5+j,none⟩ by unfold Addr.add;split<;>simp_all];refine(HG.o.drew.cell ((i+1) * 5+j)).trans ?_;rw[List.getElem?_drop,←HES.o,List.getElem?_take] at hj
  split at hj
  ·simpa using hj
  ·cases hj
 have hroom:i+m≤cap:=by omega
 have HR:=xN hR;have HRW:=xN hrw;have HRS:=xN hRs;have HF:=xN hf;have HSRC:=xN hsrc;clear hR hrw hRs hf hsrc;have hg1:Bk (w.drew.setRow g R) g 39 R:=setRow_heap w.drew g cur R _ _ HG.o;have HG1:=xN hg1;clear hg1
 have hcl: ∀ ty c,(Builtin.clear_ #[67 ] ty #[.slice (some ⟨g,(i+m) * 5,none⟩) 1 c]).run Tryz.prog (w.drew.setRow g R)= .ok (.tuple #[]) ((w.drew.setRow g R).setRow g (R.toList.take ((i+m) * 5)++(Builtin.zeroCells (Value.agg #[.int .i64 0,.int .i64 0,.int .i64 0,.int .i64 0,.int .i64 0]).cells 1).toList++R.toList.drop ((i+m) * 5+5)).toArray):=fun ty c=>
  run_clear_clip _ ty g _ c R _ HG1.o (by rw[HRS.o];omega)
 obtain⟨R2,hR2⟩: ∃ c:Array Value,c=(R.toList.take ((i+m) * 5)++(Builtin.zeroCells (Value.agg #[.int .i64 0,.int .i64 0,.int .i64 0,.int .i64 0,.int .i64 0]).cells 1).toList++R.toList.drop ((i+m) * 5+5)).toArray:=⟨_,rfl⟩;rw[←hR2] at hcl
 have hs2:R2.size=cap * 5:=by
  have hz:=yQz (Value.agg #[.int .i64 0,.int .i64 0,.int .i64 0,.int .i64 0,.int .i64 0]) 1 rfl;rw[hR2];simp only[List.size_toArray,List.length_append,List.length_take,List.length_drop,Array.length_toList,HRS.o,hz];omega
 have HR2:=xN hR2;have HS2:=xN hs2;clear hR2 hs2
 have fin:(∃ cur',Bk ((w.drew.setRow g R).setRow g R2) g 39 cur'∧cur'.size=cap * 5∧cur'.toList.take ((i+m) * 5)=es.take (i * 5)++es.drop ((i+1) * 5))∧w.grownBy ((w.drew.setRow g R).setRow g R2) (some g):=by
  refine⟨⟨R2,setRow_heap _ g R _ _ _ HG1.o,HS2.o,?_⟩,⟨rfl,rfl,rfl,by simp,fun k hk hne=>by rw[setRow_other _ _ _ _ (fun e=>hne (by rw[e])),setRow_other _ _ _ _ (fun e=>hne (by rw[e]))];rfl⟩⟩;have:=del_lists (Z:=(Builtin.zeroCells (Value.agg #[.int .i64 0,.int .i64 0,.int .i64 0,.int .i64 0,.int .i64 0]).cells 1).toList) HEL.o HES.o (by rw[Array.length_toList,HCU.o];omega);rw[HR2.o,HR.o];simp only[List.append_assoc,List.toList_toArray,List.length_drop] at this ⊢;exact this
 have FIN:=xN fin;clear fin;go_wp2_with fail
 by_cases hq:cap=i+1
 ·obtain rfl:m=0:=by omega
  subst hq;simp only[Nat.add_zero] at hcl
  go_region_law (refine wQz rfl _ _ 67 rfl 39 5 Tryz.underlying67 zVy g i (i+1) _ 0 _ (by simp[Act.eval,Act.put]) rfl (es.drop ((i+1) * 5)) (by rw[HDL.o]) (by have:=List.eq_nil_of_length_eq_zero (show (es.drop ((i+1) * 5)).length=0 by simpa using HDL.o);rw[this];simp) (fun v hv=>H1C.o v (List.mem_of_mem_drop hv)) hroom cur 39 HG.o HF.o ?_;rw[HRW.o])
  go_wp2;go_ret
  exact⟨rfl,FIN.o⟩
 ·go_region_law (refine wQz rfl _ _ 67 rfl 39 5 Tryz.underlying67 zVy g i cap ⟨g,(i+1) * 5,none⟩ m (cap - (i+1)) (by simp[Act.eval,Act.put]) (by simp[Act.eval,Act.put]) (es.drop ((i+1) * 5)) HDL.o HSRC.o (fun v hv=>H1C.o v (List.mem_of_mem_drop hv)) hroom cur 39 HG.o HF.o ?_;rw[HRW.o])
  go_wp2;go_ret
  exact⟨rfl,FIN.o⟩
end
section
open Go.RowKit
theorem c_cloneClip (v:Value) (n:Nat) (es:List Value) (w:World) (hr:Rd w v 5 n es) (h1: ∀ u ∈ es,u.oneCell'=true) (hn:n≤1048576):
  Calls Tryz.prog 98 #[v] w fun e w'=> ∃ v',e= .returned v'∧w'.ownsRow w.heap.size 39 5 v' n es∧Below w.heap.size w w':=by
 have heq: ∀ (a:Option Addr) (n c:Nat) (w:World),(binOp .eql 67 (.slice a n c) (.slice none 0 0)).run Tryz.prog w= .ok (.bool a.isNone) w:=fun a n c w=>Lib.run_eql_slice_nil w _ _ a n c 0 0 Tryz.underlying67
 have HR:=xN hr;obtain⟨hl,A,cap,rfl,hc1,hc2,hcell⟩:=hr
 cases A with
 |none=>
  have h0:n=0:=by
   rcases Nat.eq_zero_or_pos n with h|h
   ·exact h
   ·obtain⟨b,off,h2,_⟩:=hcell h;cases h2
  subst h0;have:es= []:=List.eq_nil_of_length_eq_zero (by simpa using hl);subst this;clear hcell hl HR
  go_enter Tryz.func98,Tryz.ntmps98
  go_wp2;go_ret
  exact⟨_,rfl,World.ownsRow_nil _ _ _ _,zR⟩
 |some a=>
  clear hcell hl;have hm:=zGz (World.ownsRow_made w #[] 0 zJ (by decide) rfl:(w.alloc (.cells #[] 39)).ownsRow w.heap.size 39 5 (.slice (some ⟨w.heap.size,0,none⟩) 0 0) 0 []) zJ;have HM:=xN hm;have H1:=xN h1;clear hm h1
  go_enter Tryz.func98,Tryz.ntmps98
  go_wp2_with (at_builtin;refine yFz rfl _ _ _ rfl w.heap.size _ _ 5 40 Tryz.underlying67 vM rfl zM (.slice (some ⟨w.heap.size,0,none⟩) 0 0) 0 [] rfl HM.o _ n es rfl (HR.o.below (zR.alloc zJ _)) H1.o zM zM (by simp) ?_;intro v7 w7 hr7 hg7 hv7;have HC:=xN (show w7.ownsRow w.heap.size 39 5 v7 n es by simpa using hr7);have HB:=xN (show Below w.heap.size w w7 from(zR.alloc zJ _).grown hg7 (by simp) (fun j hj=>Nat.le_of_eq (show w.heap.size=j by simpa[Value.ownBlock] using hj)));clear hr7 hg7 hv7)
  go_ret
  exact⟨_,rfl,HC.o,HB.o⟩
theorem c_insClip {B:Nat} (v:Value) (n i vb:Nat) (es vs:List Value) (w:World) (h:w.ownsRow B 39 5 v n es) (hB:B≤w.heap.size) (hi:i≤n) (hnn:n≤1048576) (hb:Bk w vb 39 vs.toArray) (hvl:vs.length=5)
  (hne: ∀ k,v.ownBlock=some k→vb≠k) (h1c: ∀ u ∈ es,u.oneCell'=true) (h1v: ∀ u ∈ vs,u.oneCell'=true):
  Calls Tryz.prog 99 #[v,.int .i64 (i:Int),.slice (some ⟨vb,0,none⟩) 1 1] w fun e w'=>
   ∃ v',e= .returned v'∧w'.ownsRow B 39 5 v' (n+1) (es.take (i * 5)++(vs++es.drop (i * 5)))∧w.grownBy w' v.ownBlock:=by
 have hel:=h.1;by_cases hlt:i<n
 ·rcases h.2 with ⟨_,h0⟩|⟨g,cap,cur,rfl,hbg,hg,hnc,hcm,hcs,htk⟩
  ·omega
  ·have hcap:cap≤9223372036854775807:=by unfold maxLen at hcm;omega
   by_cases hroom:n+1≤cap
   ·refine(c_insShift g n cap i vb cur es vs w hlt hroom hcap hnn hg hcs htk hb (hne g rfl) hvl h1c h1v).mono ?_
    rintro e w' ⟨rfl,⟨cur',k1,k2,k3⟩,k4⟩;exact⟨_,rfl,yMy (by simp only[List.length_append,List.length_take,List.length_drop,hel,hvl];omega) hbg k1 hroom hcm k2 k3,k4⟩
   ·have hq:n=cap:=by omega
    subst hq;refine(c_insGrow g n i vb cur es vs w hlt hnn hg hcs htk hb hvl h1c h1v).mono ?_;rintro e w' ⟨G,rfl,k0,k5,⟨cur',k1,k2,k3⟩,k4⟩;exact⟨_,rfl,yMy (by simp only[List.length_append,List.length_take,List.length_drop,hel,hvl];omega) hB k1 k0 k5 k2 k3,⟨k4.os,k4.tape,k4.output,k4.size,fun k hk _=>k4.block k hk⟩⟩
 ·obtain rfl:i=n:=by omega
  have hft:es.take (i * 5)=es:=List.take_of_length_le (by rw[hel];exact zJ);have hfd:es.drop (i * 5)= []:=List.drop_of_length_le (by rw[hel];exact zJ);rw[hft,hfd,List.append_nil];have hrd:Rd w (.slice (some ⟨vb,0,none⟩) 1 1) 5 1 vs:=by have:=hb.rd1;rwa [hvl] at this
  have HH:=xN h;have HRD:=xN hrd;have H1V:=xN h1v
  have ALL: ∀ {ops:Array Oper} {rest:List Oper} {o:Oper} {a:Act} {Q:Exit→Act→World→Prop} (hgd:o.guard=none) (s x:Operand) (t:TypeId) (ho:o.op= .call { callee:= .builtin .append,args:= #[s,x],argTypes:= #[t,t] }) (ht:Tryz.prog.underlying t=some (.slice 39)) (hs:a.eval s=v) (hx:a.eval x= .slice (some ⟨vb,0,none⟩) 1 1)
    (hk: ∀ v' w',w'.ownsRow B 39 5 v' (i+1) (es++vs)→w.grownBy w' v.ownBlock→wpList Tryz.prog ops Q rest (a.put o.dst v') w'),wpList Tryz.prog ops Q (o :: rest) a w:=by
   intro ops rest o a Q hgd s x t ho ht hs hx hk;exact yFz hgd s x t ho B _ _ 5 40 ht vM rfl zM v i es hs HH.o _ 1 vs hx HRD.o H1V.o zM zM hB (fun v' w' r1 r2 _=>hk v' w' r1 r2)
  have hz:(i:Int)≤(i:Int):=Int.le_refl _
  rcases h.2 with ⟨rfl,h0⟩|⟨g,cap,cur,rfl,hbg,hg,hnc,hcm,hcs,htk⟩
  ·subst h0
   clear h hel hft hfd hrd h1v
   go_enter Tryz.func99,Tryz.ntmps99
   go_wp2_with (at_builtin;refine ALL rfl _ _ _ rfl Tryz.underlying67 rfl rfl ?_;intro v7 w7 r7 g7;have HR:=xN r7;have HG:=xN g7;clear r7 g7)
   go_ret
   exact⟨_,rfl,HR.o,HG.o⟩
  ·have hcap:cap≤9223372036854775807:=by unfold maxLen at hcm;omega
   have hci:(i:Int)≤(cap:Int):=by omega
   clear h hel hft hfd hrd h1v hg htk;by_cases hq:cap=i
   ·subst hq
    go_enter Tryz.func99,Tryz.ntmps99
    go_wp2_with (at_builtin;refine ALL rfl _ _ _ rfl Tryz.underlying67 rfl rfl ?_;intro v7 w7 r7 g7;have HR:=xN r7;have HG:=xN g7;clear r7 g7)
    go_ret
    exact⟨_,rfl,HR.o,HG.o⟩
   ·go_enter Tryz.func99,Tryz.ntmps99
    go_wp2_with (at_builtin;refine ALL rfl _ _ _ rfl Tryz.underlying67 rfl rfl ?_;intro v7 w7 r7 g7;have HR:=xN r7;have HG:=xN g7;clear r7 g7)
    go_ret
    exact⟨_,rfl,HR.o,HG.o⟩
end
section
open Go.RowKit
theorem rds_cut {w:World} {l:List xU} {es:List Value} {k:Nat} (h:T.rds w (l.map xU.t) es) (hk:k≤l.length):T.rds w ((l.take k).map xU.t) (es.take (k * 5))∧T.rds w ((l.drop k).map xU.t) (es.drop (k * 5)):=by
 have e:l.map xU.t=(l.take k).map xU.t++(l.drop k).map xU.t:=by rw[←List.map_append,List.take_append_drop]
 rw[e] at h;obtain⟨c1,c2,rfl,h1,h2⟩:=(T.rds_app _ _ _).1 h
 have hl:c1.length=k * 5:=by
  rw[T.rds_len _ _ h1,T.wides_mul (sz:=5) _ (fun x hx=>by obtain⟨y,_,rfl⟩:=List.mem_map.1 hx;exact xU.wide_t y),List.length_map,List.length_take]
  congr 1;omega
 rw[List.take_left' hl,List.drop_left' hl];exact⟨h1,h2⟩
theorem zWy {w:World} {l:List xU} {es vs:List Value} {k j:Nat} {c:xU} (h:T.rds w (l.map xU.t) es) (hk:k≤l.length) (hj:j≤l.length) (hc:T.rds w c.fs vs):T.rds w ((l.take k++c :: l.drop j).map xU.t) (es.take (k * 5)++(vs++es.drop (j * 5))):=by
 rw[List.map_append,List.map_cons];refine(T.rds_app _ _ _).2 ⟨_,_,rfl,(rds_cut h hk).1,?_⟩;simp only[T.rds];exact⟨vs,_,rfl,by simpa only[xU.t,T.rd] using hc,(rds_cut h hj).2⟩
theorem rds_del {w:World} {l:List xU} {es:List Value} {k j:Nat} (h:T.rds w (l.map xU.t) es) (hk:k≤l.length) (hj:j≤l.length):T.rds w ((l.take k++l.drop j).map xU.t) (es.take (k * 5)++es.drop (j * 5)):=by
 rw[List.map_append];exact(T.rds_app _ _ _).2 ⟨_,_,rfl,(rds_cut h hk).1,(rds_cut h hj).2⟩
theorem uQ {w w1 w':World} {r:Option Nat} (hb:Below w.heap.size w w1) (hg:w1.grownBy w' r) (hr: ∀ k,r=some k→w.heap.size≤k):Below w.heap.size w w':=hb.grown hg hb.size hr
theorem c_edited (l:List xU) (ek et ev ns nf nl na ng:Int) (k:Nat) (v:Value) (w:World) (hr:T.rd w (T.sl 39 5 (l.map xU.t)) [v]) (hl:l.length≤1048576) (h1:ek=1→k≤l.length) (h2:ek≠1→k<l.length):
  Calls Tryz.prog 61 #[v,.agg #[.int .i64 ek,.int .i64 et,.int .i64 (k:Int),.int .i64 ev,.int .i64 ns,.int .i64 nf,.int .i64 nl,.int .i64 na,.int .i64 ng]] w fun r w'=>
   ∃ v' F,r= .returned v'∧Own w.heap.size w' (T.sl 39 5 ((vJ l ⟨ek,et,(k:Int),ev,⟨ns,nf,nl,na,ng⟩⟩).map xU.t)) F v'∧Below w.heap.size w w':=by
 obtain⟨es,hrd,hrs⟩:=T.rd_row hr;rw[List.length_map] at hrd;have hel:=hrd.1;have h1c:=T.rds_cell _ _ hrs;have hvs:T.rds w (xU.fs ⟨ns,nf,nl,na,ng⟩) [.int .i64 ns,.int .i64 nf,.int .i64 nl,.int .i64 na,.int .i64 ng]:=xU.rd_mk (x:=⟨ns,nf,nl,na,ng⟩);have HRD:=xN hrd;have HRS:=xN hrs;have HEL:=xN hel;have H1C:=xN h1c;have HVS:=xN hvs;obtain⟨HBa,HEa⟩:=aK w 41 #[.int .i64 ek,.int .i64 et,.int .i64 (k:Int),.int .i64 ev,.int .i64 ns,.int .i64 nf,.int .i64 nl,.int .i64 na,.int .i64 ng];obtain⟨hl0,A,cap,rfl,hc1,hc2,hcell⟩:=hrd;clear hr hrs hel h1c hvs hl0 hcell
 have hw:IntKind.i64.wrap (k:Int)=(k:Int):=by
  have:k≤l.length:=by by_cases h:ek=1;exact h1 h;exact Nat.le_of_lt (h2 h)
  rw[IntKind.wrap_i64];omega
 go_enter Tryz.func61,Tryz.ntmps61
 go_wp2_with fail
 go_region_held3 (fun w'=> ∀ i,w'.cell? ⟨w.heap.size,i,none⟩= #[.int .i64 ek,.int .i64 et,.int .i64 (k:Int),.int .i64 ev,.int .i64 ns,.int .i64 nf,.int .i64 nl,.int .i64 na,.int .i64 ng][i]?) (first|with_reducible exact HEb.o.cell|exact HEa.o.cell) ((go_at_call 98;refine(c_cloneClip _ l.length es _ (HRD.o.below (by first|exact HBa.o|exact HBa.o.drew)) H1C.o hl).mono ?_;rintro e wC ⟨vC,rfl,hoC,hbC⟩;have HOC:=xN (zGz hoC (show w.heap.size+1≤_ from(by simp)));have hb1:=undrew hbC;have HBc:=xN (yO HBa.o HBa.o.size hb1);have HEb:=xN (HEa.o.below hb1 HEa.o.lt);clear hoC hbC hb1))
 have ke:=HEb.o.cell;have hel:=HEL.o;by_cases k1:ek=1
 ·have q1:(ek == 1)=true:=xA k1
  have hk:=h1 k1;have HK:=xN hk;have HK1:=xN k1;have hba:Below wC.heap.size wC (wC.alloc (.cells #[.int .i64 ns,.int .i64 nf,.int .i64 nl,.int .i64 na,.int .i64 ng] 39)):=zR.alloc zJ _;have hob:=zGz (uM HOC.o hba) (Nat.le_succ w.heap.size);have HOA:=xN hob;have HBA:=xN hba;have HNE:=xN (show ∀ b,vC.ownBlock=some b→wC.heap.size≠b from fun b hb e=>by have:=(HOC.o.lt b hb).2;omega);clear h1 h2 hk k1 hba hob hel;go_wp2_with (go_at_call 99;refine(c_insClip (B:=w.heap.size) vC l.length k wC.heap.size es [.int .i64 ns,.int .i64 nf,.int .i64 nl,.int .i64 na,.int .i64 ng] _ HOA.o (Nat.le_trans HBc.o.size HBA.o.size) HK.o hl (Bk.born _ _ _) rfl HNE.o H1C.o (T.rds_cell _ _ HVS.o)).mono ?_;rintro e wD ⟨vD,rfl,hoD,hgD⟩;have HOD:=xN hoD;have HGD:=xN hgD;clear hoD hgD)
  go_ret
  refine⟨vD,_,rfl,Own.of_flat (w':=w) (xU.flat _) xU.wide_t HOD.o ?_ ?_,uQ (HBc.o.alloc HBc.o.size _) HGD.o (fun b hb=>by have:=(HOC.o.lt b hb).1;omega)⟩
  ·have:=zWy (k:=k) (j:=k) HRS.o HK.o HK.o HVS.o
   unfold vJ;rw[if_pos HK1.o];exact this
  ·unfold vJ
   rw[if_pos HK1.o];have:=HK.o;simp;omega
 ·have q1:(ek == 1)=false:=yZ k1
  have hk:=h2 k1;have HK:=xN hk;have HK1:=xN k1;clear h1 h2 hk k1
  rcases HOC.o.2 with ⟨_,h0⟩|⟨g,cp,cur,rfl,hbg,hg,hnc,hcm,hcs,htk⟩
  ·have:=HK.o;omega
  have hkl:=HK.o;have hg2:Bk wC g 39 cur:=hg;have HGB:=xN hg2;clear hg hg2;by_cases k2:ek=2
  ·have q2:(ek == 2)=true:=xA k2
   have HK2:=xN k2;clear k2;obtain⟨m,hm⟩: ∃ m,l.length=k+1+m:=⟨l.length - (k+1),by omega⟩;have hcap:cp≤9223372036854775807:=by unfold maxLen at hcm;omega
   have hw1:IntKind.i64.wrap ((k:Int)+1)=(k:Int)+1:=by rw[IntKind.wrap_i64];omega
   have HM:=xN hm;have HCS:=xN hcs;have HTK:=xN htk;rw[hm] at htk hnc;have HTK2:=xN htk;have hnn:k+1+m≤1048576:=by omega
   clear hm hcs htk hel;go_wp2_with (go_at_call 100;rw[HM.o];refine(c_delClip g cp k m cur es wC hnc hcap hnn HGB.o HCS.o HTK2.o H1C.o).mono ?_;rintro e wD ⟨rfl,⟨cur',hk1,hk2,hk3⟩,hgD⟩;have HD1:=xN hk1;have HD2:=xN hk2;have HD3:=xN hk3;have HGD:=xN hgD;clear hk1 hk2 hk3 hgD)
   go_ret
   have hel:=HEL.o;rw[HM.o] at hel;refine⟨_,_,rfl,Own.of_flat (w':=w) (xU.flat _) xU.wide_t (yMy (es:=es.take (k * 5)++es.drop ((k+1) * 5)) (by simp only[List.length_append,List.length_take,List.length_drop,hel];omega) (show w.heap.size≤g by omega) HD1.o zM hcm HD2.o HD3.o) ?_ ?_,uQ HBc.o HGD.o (fun b hb=>by injection hb with hb;omega)⟩
   ·have:=rds_del (k:=k) (j:=k+1) HRS.o (by have:=HM.o;omega) (by have:=HM.o;omega)
    unfold vJ;rw[if_neg HK1.o,if_pos HK2.o];exact this
   ·unfold vJ
    rw[if_neg HK1.o,if_pos HK2.o];have:=HM.o;simp;omega
  ·have q2:(ek == 2)=false:=yZ k2
   have HK2:=xN k2;clear k2;have hi0:(0:Int)≤(k:Int):=by omega
   have hi1:(k:Int)<(l.length:Int):=by omega
   have hgc: ∀ j,wC.frozen? ⟨g,j,none⟩=false:=HGB.o.free;have hgs: ∀ j,j<cp * 5→(wC.cell? ⟨g,j,none⟩).isSome=true:=fun j hj=>by rw[HGB.o.cell j,Array.getElem?_eq_getElem zM];rfl
   have hge: ¬ w.heap.size=g:=by omega
   have hge2: ¬ g=w.heap.size:=by omega
   have hc: ∀ j,j<5→(wC.cell? ⟨g,k * 5+j,none⟩).isSome=true:=fun j hj=>hgs _ zM
   have hlt:g<wC.heap.size:=HGB.o.lt;have hcut:es=es.take (k * 5)++((es.drop (k * 5)).take 5++(es.drop (k * 5)).drop 5):=by rw[List.take_append_drop,List.take_append_drop]
   have hcx:((es.drop (k * 5)).take 5).length=5:=by rw[List.length_take,List.length_drop,hel];omega
   have hc1:(es.take (k * 5)).length=k * 5:=by rw[List.length_take,hel];omega
   have hdd:(es.drop (k * 5)).drop 5=es.drop ((k+1) * 5):=by rw[List.drop_drop];congr 1;omega
   have ho:=HOC.o;rw[hcut] at ho;generalize (es.drop (k * 5)).take 5=cx at *;obtain⟨x1,x2,x3,x4,x5,rfl⟩:=len5 hcx;have s1:=uTz 0 (u:= .int .i64 ns) ho hc1 (by simp);have s2:=uTz 1 (u:= .int .i64 nf) s1 hc1 (by simp);have s3:=uTz 2 (u:= .int .i64 nl) s2 hc1 (by simp);have s4:=uTz 3 (u:= .int .i64 na) s3 hc1 (by simp);have s5:=uTz 4 (u:= .int .i64 ng) s4 hc1 (by simp);rw[hdd] at s5;have S5:=xN s5;have a0:wC.cell? ⟨g,k * 5,none⟩=some x1:=uUz 0 ho hc1 rfl;have a1:=uUz 1 ho hc1 (show [x1,x2,x3,x4,x5][1]?=some x2 from rfl);have a2:=uUz 2 ho hc1 (show [x1,x2,x3,x4,x5][2]?=some x3 from rfl);have a3:=uUz 3 ho hc1 (show [x1,x2,x3,x4,x5][3]?=some x4 from rfl);have a4:=uUz 4 ho hc1 (show [x1,x2,x3,x4,x5][4]?=some x5 from rfl);clear s1 s2 s3 s4 s5 ho hcut hcx hc1 hdd hc hgs hel hcs htk;go_wp2;go_ret
   refine⟨_,_,rfl,Own.of_flat (w':=w) (xU.flat _) xU.wide_t (zGz S5.o (Nat.le_succ _)) ?_ ?_,?_⟩
   ·have:=zWy (k:=k) (j:=k+1) HRS.o zM zM HVS.o
    unfold vJ;rw[if_neg HK1.o,if_neg HK2.o];exact this
   ·unfold vJ
    rw[if_neg HK1.o,if_neg HK2.o];simp;omega
   ·have hb:=HBc.o
    have hl2:w.heap.size≤g:=by omega
    exact((((hb.setCell hl2 _).setCell hl2 _).setCell hl2 _).setCell hl2 _).setCell hl2 _
end
end Go.Proofs.YtdcofkabaigjpaaGreat
