/- Contracts: delays of signals; what a node gets in a frame, both sides. Contract: what a node gets in a frame, by the program's player. Regions that draw their order and end in one store over a cell that they have loaded. No program is named here. -/
import Derived.Test.YtoibekfhepnedaaGreatQBbExactSoundCache
import Derived.Test.YtoibekfhepnedaaGreatQAzExactSoundCache
import Derived.Test.YtoibekfhepnedaaGreatQAyExactSoundCache
import Derived.Deep.RegionHeldLaw
import Derived.StillTail
set_option linter.unusedVariables false
set_option linter.unusedSimpArgs false
set_option maxHeartbeats 2000000
set_option maxRecDepth 20000
section
namespace Go.Proofs.YtoibekfhepnedaaGreat
open Go.RowKit
theorem own_cut {E:TypeId} {w:World} {B g n cap m:Nat} {xs:List Int} (h:OwI E w B (.slice (some ⟨g,0,none⟩) n cap) xs) (hm:m≤xs.length):OwI E w B (.slice (some ⟨g,0,none⟩) m cap) (xs.take m):=by
 unfold OwI at *
 have hl:(xs.take m).length=m:=by simp;omega
 refine⟨by simp,?_⟩
 rcases h.2 with ⟨h',_⟩|⟨g',cap',cur,h',hb,hg,hn,hmx,hsz,ht⟩
 ·cases h'
 ·injection h' with h1 h2 h3
  injection h1 with h1
  injection h1 with h1
  subst h1 h3
  rw[hl]
  refine .inr ⟨g,cap,cur,rfl,hb,hg,by omega,hmx,hsz,?_⟩
  rw[List.map_take,←ht,List.take_take]
  congr 1
  omega
theorem own_front {E:TypeId} {w:World} {B l c m:Nat} {t:Option Addr} {xs:List Int} (h:OwI E w B (.slice t l c) xs) (hm:m≤xs.length):OwI E w B (.slice t m c) (xs.take m):=by
 have h2:=h
 unfold OwI at h2
 rcases h2.2 with ⟨h',h0⟩|⟨g',cap',cur,h',_⟩
 ·injection h' with h1 h3 h4
  subst h1 h4
  obtain rfl:m=0:=by omega
  have:xs= []:=List.eq_nil_of_length_eq_zero h0
  subst this
  exact World.ownsRow_nil w B E 1
 ·injection h' with h1 h3 h4
  subst h1
  exact own_cut h hm
theorem c_l27Late (v:Value) (a:List Int) (b n:Nat) (w:World) (ha:RdI w v a) (na:a.length≤1048576) (hb:b≤1048576) (hn:n≤1048576):Calls Tryz.prog 187 #[v,.int .i64 (b:Int),.int .i64 (n:Int)] w fun e w'=> ∃ v',e= .returned v'∧OwI 2 w' w.heap.size v' (lateF a b n)∧Below w.heap.size w w':=by
 have HA:=hide ha;clear ha
 go_enter Tryz.func187,Tryz.ntmps187
 go_wp2_with fail
 refine(c_l03Zeros0 b _ hb).mono ?_;rintro e w1 ⟨v1,rfl,ho,hb1⟩
 have HO1:=hide ho;have HB1:=hide hb1;have hs1:=hb1.size;clear ho hb1
 go_wp2_with (at_builtin;refine appm_i64 rfl _ _ rfl rfl HO1.out rfl (Rd.below HA.out HB1.out) (by rw[List.length_replicate];omega) hs1 ?_;intro v2 w2 ho2 hg2 hv2;have HB2:=hide (HB1.out.grown hg2 hs1 (fun j hj=>(HO1.out.lt j hj).1));have HO2:=hide ho2;clear ho2 hg2 hv2)
 refine(c_l03Slice _ (List.replicate b 0++a) 0 n _ (by decide) (by decide) hn HO2.out.rd).mono ?_;rintro e w3 ⟨v3,rfl,ho,hb⟩
 have HO3:=hide (own_more ho HB2.out.size);have HB3:=hide (yI HB2.out HB2.out.size hb);clear ho hb
 go_wp2
 go_ret
 exact⟨_,rfl,HO3.out,HB3.out⟩
theorem c_delayed (v:Value) (a:List Int) (b:Nat) (w:World) (ha:RdI w v a) (na:a.length≤1048576) (hb:b≤1048576):Calls Tryz.prog 196 #[v,.int .i64 (b:Int)] w fun e w'=> ∃ v',e= .returned v'∧OwI 2 w' w.heap.size v' (lateF a b a.length)∧Below w.heap.size w w':=by
 have HA:=hide ha
 obtain⟨A,cap,rfl,hl,hc,_⟩:=ha.open_
 clear ha
 have HT:=hide (lateF_take (a:=a) (b:=b))
 go_enter Tryz.func196,Tryz.ntmps196
 go_wp2_with fail
 refine(c_zerosE b _ hb).mono ?_;rintro e w1 ⟨rfl,ho,hb1⟩
 have HO1:=hide ho;have HB1:=hide hb1;have hs1:=hb1.size;clear ho hb1
 go_wp2_with (at_builtin;refine appm_i64 rfl _ _ rfl rfl HO1.out rfl (Rd.below HA.out HB1.out) (by rw[List.length_replicate];omega) hs1 ?_;intro v2 w2 ho2 hg2 hv2;have HB2:=hide (HB1.out.grown hg2 hs1 (fun j hj=>(HO1.out.lt j hj).1));obtain⟨t2,l2,c2,rfl,hlc⟩: ∃ t l c,v2= .slice t l c∧(a.length:Int)≤(c:Int):=(by obtain⟨_,A2,cp,h,hle,_⟩:=OwI.rd ho2;refine⟨_,_,_,h,?_⟩;rw[List.length_append] at hle;omega);have HO2:=hide ho2;clear ho2 hg2 hv2)
 go_ret
 exact⟨_,rfl,by rw[←HT.out];exact own_front HO2.out (by rw[List.length_append];omega),HB2.out⟩
theorem c_l08In (x:GNode) (b o:Nat) (frame vals:List Int) (fv vv:Value) (w:World) (h1:x.zD=1→0≤x.fA∧x.fA<(frame.length:Int)) (h2:Idx x.zH (vals.length:Int)) (hn:x.zH.length≤1048576) (hf:RdI w fv frame) (hv:RdI w vv vals) (h:T.at w x.fs b o):Calls Tryz.prog 284 #[.pointer (some ⟨b,o,none⟩),fv,vv] w fun e w'=> ∃ v,e= .returned v∧OwI 2 w' w.heap.size v (inF x frame vals)∧Below w.heap.size w w':=by
 have HAT:=hide h
 obtain⟨hlt0,cs,hr,hc⟩:=h
 obtain⟨v3,rfl,h3⟩:=GNode.yN hr
 clear hr
 have h3i:=T.yR.1 h3;obtain⟨va3,vc3,rfl,vl3,vm3,vx3⟩:=h3i.open_
 have R3:=hide h3i;have HX3:=hide vx3;clear vx3 h3 h3i
 have HL:=hide hlt0;have HCC:=hide hc;have HB0:=hide (Below.refl w.heap.size w);clear hlt0 hc
 have HF:=hide hf;have HV:=hide hv
 have p0:w.cell? ⟨b,o,none⟩=some (.int .i64 x.zD):=(HB0.out.cell HL.out).trans (HCC.out 0 _ rfl)
 have p1:w.cell? ⟨b,o+1,none⟩=some (.int .i64 x.fA):=(HB0.out.cell HL.out).trans (HCC.out 1 _ rfl)
 have p2:w.cell? ⟨b,o+2,none⟩=some (.int .i64 x.fB):=(HB0.out.cell HL.out).trans (HCC.out 2 _ rfl)
 have p3:w.cell? ⟨b,o+3,none⟩=some (.slice va3 x.zH.length vc3):=(HB0.out.cell HL.out).trans (HCC.out 3 _ rfl)
 have lb:b<w.heap.size:=Nat.lt_of_lt_of_le HL.out HB0.out.size
 by_cases hk:x.zD=1
 ·
  obtain⟨n0,n1⟩:=h1 hk
  have hj:x.fA.toNat<frame.length:=by omega
  obtain⟨bf,of,cf,rfl,lf,mf,lbf,hcf⟩:=rdI_cells hf (by omega)
  have hg:=List.getElem?_eq_getElem hj
  have c0:=hcf _ _ hg
  have HE:=hide (show inF x frame vals= [frame[x.fA.toNat]] by unfold inF;rw[if_pos hk,List.getD_eq_getElem?_getD,hg];rfl)
  generalize frame[x.fA.toNat]=y at *
  generalize inF x frame vals=IN at *
  have q0:(x.zD == 1)=true:=yQ hk
  have HK_:=hide hk;clear hk hcf hg hf hv h1 h2
  go_enter Tryz.func284,Tryz.ntmps284
  go_wp2
  go_ret
  exact⟨_,rfl,by rw[HE.out];exact lit1 w _,(Below.refl _ _).alloc (Nat.le_refl _) _⟩
 ·
  have HE:=hide (show inF x frame vals=x.zH.map (fun i=>vals.getD i.toNat 0) by unfold inF;rw[if_neg hk])
  generalize inF x frame vals=IN at *
  have q0:(x.zD == 1)=false:=yP hk
  have H2:=hide h2;clear hk h1 h2 hf hv
  go_enter Tryz.func284,Tryz.ntmps284
  go_wp2_with (go_at_call 291;refine(c_l07Map _ _ x.zH vals _ R3.out HV.out H2.out hn).mono ?_;rintro e w1 ⟨v1,rfl,ho,hb⟩;have HO:=hide ho;have HB1:=hide hb;clear ho hb)
  go_ret
  exact⟨_,rfl,by rw[HE.out];exact HO.out,HB1.out⟩
end Go.Proofs.YtoibekfhepnedaaGreat
end
section
namespace Go.Proofs.YtoibekfhepnedaaGreat
open Go.RowKit
theorem c_inputs (x:GNode) (cs:List Value) (b:Nat) (frame vals:List Int) (fv vv:Value) (w:World) (h1:x.zD=1→0≤x.fA∧x.fA<(frame.length:Int)) (h2:Idx x.zH (vals.length:Int)) (hn:x.zH.length≤1048576) (hc:w.cell? ⟨b,5,none⟩=some vv) (hf:RdI w fv frame) (hv:RdI w vv vals) (h:T.rds w x.fs cs):Calls Tryz.prog 287 #[.pointer (some ⟨b,0,none⟩),.agg cs.toArray,fv] w fun e w'=> ∃ v,e= .returned v∧OwI 2 w' w.heap.size v (inF x frame vals)∧Below w.heap.size w w':=by
 obtain⟨v3,rfl,h3⟩:=GNode.yN h
 clear h
 have h3i:=T.yR.1 h3;obtain⟨va3,vc3,rfl,vl3,vm3,vx3⟩:=h3i.open_
 have R3:=hide h3i;have HX3:=hide vx3;clear vx3 h3 h3i
 have HB0:=hide (show Below w.heap.size w (w.alloc (.cells #[.int .i64 x.zD,.int .i64 x.fA,.int .i64 x.fB,(.slice va3 x.zH.length vc3)] 167)) from(Below.refl _ _).alloc (Nat.le_refl _) _)
 have HK0:=hide (Bk.born w 167 #[.int .i64 x.zD,.int .i64 x.fA,.int .i64 x.fB,(.slice va3 x.zH.length vc3)])
 have hlb:b<w.heap.size:=World.block_lt_of_cell? _ _ hc
 have HF:=hide hf;have HV:=hide hv;have HC:=hide hc
 obtain⟨AV,cV,rfl,hlV,hmV,_⟩:=hv.open_
 by_cases hk:x.zD=1
 ·
  obtain⟨n0,n1⟩:=h1 hk
  have hj:x.fA.toNat<frame.length:=by omega
  obtain⟨bf,of,cf,rfl,lf,mf,lbf,hcf⟩:=rdI_cells hf (by omega)
  have hg:=List.getElem?_eq_getElem hj
  have c0:=(HB0.out.cell lbf).trans (hcf _ _ hg)
  have HE:=hide (show inF x frame vals= [frame[x.fA.toNat]] by unfold inF;rw[if_pos hk,List.getD_eq_getElem?_getD,hg];rfl)
  generalize frame[x.fA.toNat]=y at *
  generalize inF x frame vals=IN at *
  have q0:(x.zD == 1)=true:=yQ hk
  have lbf2:bf<(w.alloc (.cells #[.int .i64 x.zD,.int .i64 x.fA,.int .i64 x.fB,(.slice va3 x.zH.length vc3)] 167)).heap.size:=Nat.lt_of_lt_of_le lbf HB0.out.size
  have HK_:=hide hk;clear hk hcf hg hf hv h1 h2 hc
  go_enter Tryz.func287,Tryz.ntmps287
  go_wp2
  go_ret
  exact⟨_,rfl,by rw[HE.out];have h:=own_more (lit1 (w.alloc (.cells #[.int .i64 x.zD,.int .i64 x.fA,.int .i64 x.fB,(.slice va3 x.zH.length vc3)] 167)) y) HB0.out.size;unfold OwI;simpa using h,HB0.out.alloc HB0.out.size _⟩
 ·
  have HE:=hide (show inF x frame vals=x.zH.map (fun i=>vals.getD i.toNat 0) by unfold inF;rw[if_neg hk])
  generalize inF x frame vals=IN at *
  have q0:(x.zD == 1)=false:=yP hk
  have H2:=hide h2;clear hk h1 h2 hf hv hc
  go_enter Tryz.func287,Tryz.ntmps287
  go_wp2
  generalize (w.alloc (.cells #[.int .i64 x.zD,.int .i64 x.fA,.int .i64 x.fB,(.slice va3 x.zH.length vc3)] 167))=W at *
  have HWd:=hide (show (∀ i,W.drew.cell? ⟨w.heap.size,i,none⟩= #[.int .i64 x.zD,.int .i64 x.fA,.int .i64 x.fB,(.slice va3 x.zH.length vc3)][i]?)∧W.drew.cell? ⟨b,5,none⟩=some (.slice AV vals.length cV) from⟨HK0.out.cell,(HB0.out.cell hlb).trans HC.out⟩)
  have HBd:=hide HB0.out.drew;have hsd:=HBd.out.size;have HKd:=hide (Bk.drew HK0.out);have HVd:=hide (RdI.below HV.out HBd.out);have HRd:=hide (Rd.below R3.out HBd.out)
  refine wp_region_N (fun w'=>(∀ i,w'.cell? ⟨w.heap.size,i,none⟩= #[.int .i64 x.zD,.int .i64 x.fA,.int .i64 x.fB,(.slice va3 x.zH.length vc3)][i]?)∧w'.cell? ⟨b,5,none⟩=some (.slice AV vals.length cV)) [] (by kernel_rfl) ?_ (fun hS0=>?_)
  ·exact HWd.out
  generalize W.drew=wd at *
  refine tN 0 hS0 ?_
  refine tN 1 hS0 ?_
  refine tN 2 hS0 ?_
  refine tN 3 hS0 ?_
  refine tN 4 hS0 ?_
  refine tN 5 hS0 ?_
  refine wpAnyN_one (i:=6) (o:=_) (by kernel_rfl) rfl (fun K hK=>?_)
  go_simp
  go_wp2_with (go_at_call 288;refine(c_mapped _ _ x.zH vals _ HRd.out HVd.out H2.out hn).mono ?_;rintro e w3 ⟨v3,rfl,ho,hb⟩)
  have HO3:=hide (own_more ho hsd);have HB3:=hide (yI HBd.out hsd hb);have HW3:=hide (show (∀ i,w3.cell? ⟨w.heap.size,i,none⟩= #[.int .i64 x.zD,.int .i64 x.fA,.int .i64 x.fB,(.slice va3 x.zH.length vc3)][i]?)∧w3.cell? ⟨b,5,none⟩=some (.slice AV vals.length cV) from⟨(HKd.out.below hb HKd.out.lt).cell,(hb.cell (World.block_lt_of_cell? _ _ HWd.out.2)).trans HWd.out.2⟩);clear ho hb
  refine hK.out _ _ ?_ (fun hS1=>?_)
  ·exact HW3.out
  clear hK K hS0
  try simp only[Act.put,List.setIfInBounds_toArray,List.set_cons_zero,List.set_cons_succ]
  refine wpAnyN_one (i:=7) (o:=_) (by kernel_rfl) rfl (fun K hK=>?_)
  go_simp
  refine hK.out _ _ ?_ (fun hS2=>?_)
  ·exact HW3.out
  clear hK K hS1
  try simp only[Act.put,List.setIfInBounds_toArray,List.set_cons_zero,List.set_cons_succ]
  refine wpAnyN_end (by kernel_rfl) ?_
  clear hS2
  go_wp2
  go_ret
  exact⟨_,rfl,by rw[HE.out];exact HO3.out,HB3.out⟩
theorem c_outputs (b:Nat) (outs vals:List Int) (ov vv:Value) (w:World) (hi:Idx outs (vals.length:Int)) (hn:outs.length≤1048576) (hco:w.cell? ⟨b,3,none⟩=some ov) (hcv:w.cell? ⟨b,5,none⟩=some vv) (ho:RdI w ov outs) (hv:RdI w vv vals):Calls Tryz.prog 274 #[.pointer (some ⟨b,0,none⟩)] w fun e w'=> ∃ v,e= .returned v∧OwI 2 w' w.heap.size v (outs.map fun i=>vals.getD i.toNat 0)∧Below w.heap.size w w':=by
 have hlb:b<w.heap.size:=World.block_lt_of_cell? _ _ hco
 have HV:=hide hv;have HO:=hide ho;have HI:=hide hi
 obtain⟨AV,cV,rfl,hlV,hmV,_⟩:=hv.open_
 obtain⟨AO,cO,rfl,hlO,hmO,_⟩:=ho.open_
 clear hv ho hi
 go_enter Tryz.func274,Tryz.ntmps274
 go_wp2
 have HWd:=hide (show w.drew.cell? ⟨b,3,none⟩=some (.slice AO outs.length cO)∧w.drew.cell? ⟨b,5,none⟩=some (.slice AV vals.length cV) from⟨hco,hcv⟩)
 have HBd:=hide (Below.refl w.heap.size w).drew;have hsd:=HBd.out.size;have HVd:=hide (RdI.below HV.out HBd.out);have HOd:=hide (RdI.below HO.out HBd.out)
 refine wp_region_N (fun w'=>w'.cell? ⟨b,3,none⟩=some (.slice AO outs.length cO)∧w'.cell? ⟨b,5,none⟩=some (.slice AV vals.length cV)) [] (by kernel_rfl) ?_ (fun hS0=>?_)
 ·exact HWd.out
 clear hco hcv
 generalize w.drew=wd at *
 refine tN 0 hS0 ?_
 refine tN 1 hS0 ?_
 refine tN 2 hS0 ?_
 refine tN 3 hS0 ?_
 refine tN 4 hS0 ?_
 refine tN 5 hS0 ?_
 refine tN 6 hS0 ?_
 refine tN 7 hS0 ?_
 refine tN 8 hS0 ?_
 refine wpAnyN_one (i:=9) (o:=_) (by kernel_rfl) rfl (fun K hK=>?_)
 go_simp
 go_wp2_with (go_at_call 288;refine(c_mapped _ _ outs vals _ HOd.out HVd.out HI.out hn).mono ?_;rintro e w3 ⟨v3,rfl,ho,hb⟩)
 have HO3:=hide (own_more ho hsd);have HB3:=hide (yI HBd.out hsd hb);have HW3:=hide (show w3.cell? ⟨b,3,none⟩=some (.slice AO outs.length cO)∧w3.cell? ⟨b,5,none⟩=some (.slice AV vals.length cV) from⟨(hb.cell (World.block_lt_of_cell? _ _ HWd.out.1)).trans HWd.out.1,(hb.cell (World.block_lt_of_cell? _ _ HWd.out.2)).trans HWd.out.2⟩);clear ho hb
 refine hK.out _ _ ?_ (fun hS1=>?_)
 ·exact HW3.out
 clear hK K hS0
 try simp only[Act.put,List.setIfInBounds_toArray,List.set_cons_zero,List.set_cons_succ]
 refine wpAnyN_one (i:=10) (o:=_) (by kernel_rfl) rfl (fun K hK=>?_)
 go_simp
 refine hK.out _ _ ?_ (fun hS2=>?_)
 ·exact HW3.out
 clear hK K hS1
 try simp only[Act.put,List.setIfInBounds_toArray,List.set_cons_zero,List.set_cons_succ]
 refine wpAnyN_end (by kernel_rfl) ?_
 clear hS2
 go_wp2
 go_ret
 exact⟨_,rfl,HO3.out,HB3.out⟩
end Go.Proofs.YtoibekfhepnedaaGreat
end
section
namespace Go.Proofs.YtoibekfhepnedaaGreat
open Go.RowKit
section
variable {P:Program} {ops:Array Oper} {Q:Exit→Act→World→Prop} {md:Region.Mode} {S:World→Prop} {n:Nat}
/-- Whatever order is picked from here on; behind every operation but number n, which waits for all others, S holds. -/
def wpAnyE (P:Program) (md:Region.Mode) (ops:Array Oper) (Q:Exit→Act→World→Prop) (S:World→Prop) (n:Nat):Nat→Array Bool→Act→World→Prop
 |0,listed,a,w=>Region.ready md ops listed= []∧Q .normal a w
 |fuel+1,listed,a,w=>
  (Region.ready md ops listed= []→Q .normal a w)∧
  ∀ i ∈ Region.ready md ops listed,wpOp P ops Q i (fun a' w'=>(i=n∨S w')∧wpAnyE P md ops Q S n fuel (listed.setIfInBounds i true) a' w') a w
theorem wpAny_of_E: ∀ (fuel:Nat) (listed:Array Bool) (a:Act) (w:World),wpAnyE P md ops Q S n fuel listed a w→wpAny P md ops Q fuel listed a w
 |0,_,_,_,h=>h
 |fuel+1,_,_,_,h=>⟨h.1,fun i hi=>wpOp_mono (fun a' w' h'=>wpAny_of_E fuel _ a' w' h'.2) (h.2 i hi)⟩
theorem wpAnyE_first {i:Nat} {oi:Oper} {v:Value} (hn:Region.waitsFor md ops n i=true) (hi:ops[i]?=some oi) (hsel: ∀ (j:Nat) (o:Oper) cs b,ops[j]?=some o→o.op≠ .select cs b)
  (hQ: ∀ c a w,Q (.panic c) (a.put oi.dst v) w→Q (.panic c) a w):
  ∀ (fuel:Nat) (listed:Array Bool) (a:Act) (w:World),
   (∀ j oj,ops[j]?=some oj→j≠i→listed.getD j true=false→(∀ e ∈ oj.after,Region.binds md e=true→e.on≠i)→oi.apart ops oj=true)→
   i ∈ Region.ready md ops listed→YieldsIf P ops S oi v a→S w→
   wpAnyE P md ops Q S n fuel (listed.setIfInBounds i true) (a.put oi.dst v) w→wpAnyE P md ops Q S n (fuel+1) listed a w:=by
 have late: ∀ {listed:Array Bool} {j:Nat},i ∈ Region.ready md ops listed→j ∈ Region.ready md ops listed→j≠n:=by
  intro listed j hr hj e
  subst e
  obtain⟨oj,hoj,e,he,hb,heq⟩:=Region.waitsFor_spec hn
  obtain⟨_,oj',hoj',hall⟩:=mem_ready.1 hj
  obtain rfl:oj=oj':=Option.some.inj (hoj.symm.trans hoj')
  have h1:=hall e he hb
  have h0:=(mem_ready.1 hr).1
  rw[heq,getD_both h0] at h1
  cases h1
 intro fuel
 induction fuel with
 |zero=>
  intro listed a w _ hr hy hS H
  refine⟨fun h=>(by rw[h] at hr;cases hr),fun j hj=>?_⟩
  by_cases hji:j=i
  ·subst hji;exact hy.wpOp hi hS ⟨.inr hS,H⟩
  ·have:=ready_mono hj hji
   rw[H.1] at this
   cases this
 |succ fuel ih=>
  intro listed a w hfree hr hy hS H
  refine⟨fun h=>(by rw[h] at hr;cases hr),fun j hj=>?_⟩
  by_cases hji:j=i
  ·subst hji;exact hy.wpOp hi hS ⟨.inr hS,H⟩
  ·have h1:=H.2 j (ready_mono hj hji)
   obtain⟨hjun,oj,hoj,hall⟩:=mem_ready.1 hj
   have hun:=(mem_ready.1 hr).1
   have hnot: ∀ e ∈ oj.after,Region.binds md e=true→e.on≠i:=fun e he hb heq=>by
    have h1:=hall e he hb
    rw[heq,getD_both hun] at h1
    cases h1
   have h2:=wpOp_putIf hoj (hfree j oj hoj hji hjun hnot) (fun cs b=>hsel i oi cs b hi) (fun cs b=>hsel j oj cs b hoj) hQ hy h1
   have hfree': ∀ k ok,ops[k]?=some ok→k≠i→(listed.setIfInBounds j true).getD k true=false→
     (∀ e ∈ ok.after,Region.binds md e=true→e.on≠i)→oi.apart ops ok=true:=fun k ok hk hki hun hno=>by
    refine hfree k ok hk hki ?_ hno
    by_cases hjk:j=k
    ·subst hjk;exact hjun
    ·rw[getD_set_ne true hjk] at hun;exact hun
   have hjn:=late hr hj
   refine wpOp_mono (fun a' w' h3=>?_) h2
   have hS':S w':=h3.2.1.resolve_left hjn
   refine⟨.inr hS',ih (listed.setIfInBounds j true) a' w' hfree' (ready_mono hr (Ne.symm hji)) h3.1 hS' ?_⟩
   rw[Array.setIfInBounds_comm _ _ hji]
   exact h3.2.2
/-- Take number i first. -/
theorem yV {i:Nat} {oi:Oper} {v:Value} {fuel:Nat} {listed:Array Bool} {a:Act} {w:World} (hn:Region.waitsFor md ops n i=true) (hi:ops[i]?=some oi)
  (hs:Region.noSelect ops=true) (hf:Region.free md ops listed i=true) (hr:(Region.ready md ops listed).contains i=true)
  (hQ: ∀ c a w,Q (.panic c) (a.put oi.dst v) w→Q (.panic c) a w) (hS:S w) (hw:Region.wanted oi (yielded ops a.tmps)=true) (hy: ∀ w,S w→(execOp a.eval oi).run P w= .ok (.value v) w)
  (h:wpAnyE P md ops Q S n fuel (listed.setIfInBounds i true) (a.put oi.dst v) w):wpAnyE P md ops Q S n (fuel+1) listed a w:=
 wpAnyE_first hn hi (Region.noSelect_spec hs) hQ fuel listed a w (Region.free_spec hi hf) (by simpa using hr) (.inl ⟨hw,hy⟩) hS h
/-- Number i alone may come up. -/
theorem wpAnyE_one {i:Nat} {o:Oper} {fuel:Nat} {listed:Array Bool} {a:Act} {w:World} (hr:Region.ready md ops listed= [i]) (ho:ops[i]?=some o)
  (h: ∀ K':Act→World→Prop,Shut (∀ a w,S w→(S w→wpAnyE P md ops Q S n fuel (listed.setIfInBounds i true) a w)→K' a w)→if Region.wanted o (yielded ops a.tmps)=true then Oper.wp P o a w K' Q else K' (a.put o.dst undef) w):
  wpAnyE P md ops Q S n (fuel+1) listed a w:=
 ⟨fun h0=>(by rw[hr] at h0;cases h0),fun j hj=>by
  rw[hr,List.mem_singleton] at hj
  subst hj
  exact wpOp_step ho (fun K' hK=>h K' (fun a w hS hW=>hK a w ⟨.inr hS,hW hS⟩))⟩
/-- Number n comes up last. -/
theorem wpAnyE_tail {o:Oper} {fuel:Nat} {listed:Array Bool} {a:Act} {w:World} (hr:Region.ready md ops listed= [n]) (ho:ops[n]?=some o) (hr2:Region.ready md ops (listed.setIfInBounds n true)= [])
  (h:wpList P ops Q [o] a w):wpAnyE P md ops Q S n (fuel+1) listed a w:=
 ⟨fun h0=>(by rw[hr] at h0;cases h0),fun j hj=>by
  rw[hr,List.mem_singleton] at hj
  subst hj
  have hw:wpOp P ops Q j (wpList P ops Q []) a w:=by unfold wpOp;simp only[ho];exact h
  refine wpOp_mono (fun a' w' h'=>⟨.inl rfl,?_⟩) hw
  have h':Q .normal a' w':=h'
  cases fuel with
  |zero=>exact⟨hr2,h'⟩
  |succ f=>exact⟨fun _=>h',by rw[hr2];simp⟩⟩
/-- The beginning: S is shown of the world behind the draw. -/
theorem wp_region_E {id:Nat} {a:Act} {w:World} (S:World→Prop) (n:Nat) (hm:P.follows .mixedOrders=true) (hS:S w.drew)
  (h:S w.drew→wpAnyE P .any ops Q S n ops.size (Array.replicate ops.size false) a w.drew):(Code.region id ops true).wp P Q a w:=
 wp_region_any hm (wpAny_of_E _ _ _ _ (h hS))
end
/-- Take number i first (few words). -/
theorem tE {P:Program} {md:Region.Mode} {ops:Array Oper} {Q:Exit→Act→World→Prop} {S:World→Prop} {n:Nat} (i:Nat) {oi:Oper} {v:Value} {fuel:Nat} {listed:Array Bool} {a b:Act} {w:World} (hS:S w)
  (h:wpAnyE P md ops Q S n fuel (listed.setIfInBounds i true) b w)
  (hi:ops[i]?=some oi:=by rfl)
  (hc:(Region.waitsFor md ops n i && Region.noSelect ops && Region.free md ops listed i && (Region.ready md ops listed).contains i)=true:=by kernel_rfl)
  (hQ: ∀ c a w,Q (.panic c) (a.put oi.dst v) w→Q (.panic c) a w:=by exact fun _ _ _ h=>h)
  (hw:Region.wanted oi (yielded ops a.tmps)=true:=by rfl)
  (hy: ∀ w,S w→(execOp a.eval oi).run P w= .ok (.value v) w:=by(intro w hSw;(try dsimp only at hSw);first|(go_simp;done)|(go_simp;with_reducible rfl)))
  (hb:a.put oi.dst v=b:=by(simp only[Act.put,List.setIfInBounds_toArray,List.set_cons_zero,List.set_cons_succ];try with_reducible rfl)):wpAnyE P md ops Q S n (fuel+1) listed a w:=by
 subst hb
 simp only[Bool.and_eq_true] at hc
 obtain⟨⟨⟨h1,h2⟩,h3⟩,h4⟩:=hc
 exact yV h1 hi h2 h3 h4 hQ hS hw hy h
end Go.Proofs.YtoibekfhepnedaaGreat
end
