/- Contracts: an effect is rendered, by the program: blocks. Contract: the signal of a track, by the program. -/
import Derived.Test.YtoibekfhepnedaaGreatQBfExactSoundCache
import Derived.Test.YtoibekfhepnedaaGreatQAgExactSoundCache
import Derived.Test.YtoibekfhepnedaaGreatQBbExactSoundCache
import Derived.Test.YtoibekfhepnedaaGreatQAzExactSoundCache
import Derived.Test.YtoibekfhepnedaaGreatQBcExactSoundCache
import Derived.Test.YtoibekfhepnedaaGreatQAjExactSoundCache
set_option linter.unusedVariables false
set_option linter.unusedSimpArgs false
set_option maxHeartbeats 8000000
set_option maxRecDepth 100000
section
namespace Go.Proofs.YtoibekfhepnedaaGreat
open Go.RowKit
theorem c_block (x:GPatch) (w0:World) (b bv bc cv cc:Nat) (pv:List Value) (ordV vin:Value) (cs:Array Value) (a:List Int) (n:Nat) (w:World) (hP:PatchOk x) (h1:x.zK=1) (h2:x.zL.length=1) (hA: ∀ y ∈ a,Smp y) (hn:n≤1048576) (hr:T.rds w0 x.fs pv) (ho:RdI w0 ordV (orderF x.zB)) (hcv:x.zB.length≤cv) (hcc:x.zB.length≤cc) (hin:T.rd w0 (T.sl 26 1 ([a].map (T.ints 2))) [vin]) (h:Plr w0 w x.zB.length b bv bc [bv,bc] cv cc pv ordV (List.replicate x.zB.length 0) (x.zB.map startSt) cs):
  Calls Tryz.prog 245 #[.pointer (some ⟨b,0,none⟩),vin,.int .i64 0,.int .i64 (n:Int)] w fun e w'=> ∃ v,e= .returned v∧T.rd w' (T.sl 26 1 ([rowF x a n].map (T.ints 2))) [v]∧Below w0.heap.size w0 w':=by
 have HPO:=hide hP;have HPL0:=hide h;have HRX:=hide hr;have HOR:=hide ho
 have HAS:=hide (show ∀ l ∈ [a],∀ y ∈ l,Smp y from fun l hl=>by simp at hl;subst hl;exact hA)
 have HCA:=hide (fun t=>cellsAt_ok hP HAS.out t);have HFS:=hide (fun t=>frameF_smp HAS.out t);have HVS:=hide (fun t=>valsAt_smp hP HAS.out t)
 obtain⟨o1,ho1⟩:=len1 h2
 have hO:=hP.formed.outputs;rw[ho1] at hO;have hO1:=hO 0 o1 rfl
 have hlr:=h.bk;have hlb:=h.bk.lt;have hlv:=(h.vals.lt bv rfl).2;have hlc:=h.cel.bk.lt;have hne:=h.ne
 have HROW:=hide (fun t=>rowF_snoc x a t);have HRW0:=hide (show rowF x a 0= [] from rfl)
 have HD0:=hide (show x.zL.getD 0 0=o1 by rw[ho1];rfl)
 have HOUT:=hide (show Idx x.zL (x.zB.length:Int) from hP.formed.outputs)
 obtain⟨v1,v2,v3,rfl,h1,h2,h3⟩:=GPatch.yN hr
 clear hr hA h ho hP hO hlr
 have R1:=hide h1;obtain⟨va1,vc1,rfl,vl1,vm1,vx1⟩:=T.yM h1
 have HX1:=hide vx1;clear vx1 h1
 have R2:=hide h2;obtain⟨va2,vc2,rfl,vl2,vm2,vx2⟩:=T.yM h2
 have HX2:=hide vx2;clear vx2 h2
 have h3i:=T.yR.1 h3;obtain⟨va3,vc3,rfl,vl3,vm3,vx3⟩:=h3i.open_
 have R3:=hide h3i;have HX3:=hide vx3;clear vx3 h3 h3i
 rw[h2] at *
 obtain⟨IA,ic,rfl,il,im,ix⟩:=T.yM hin
 obtain⟨bi,oi,c9,hAi,hbi,hcsi,hcelli⟩:=ix 0 a rfl
 subst hAi
 obtain⟨va,rfl⟩:=T.rd_one hcsi
 have e0:=hcelli 0 va rfl
 have RA:=hide (T.yR.1 hcsi);have HE0:=hide (show w0.cell? ⟨bi,oi,none⟩=some va by simpa using e0);clear hcsi hcelli e0 ix hin
 generalize hpv:([.int .i64 x.zK,.slice va1 x.zM.length vc1,.slice va2 x.zB.length vc2,.slice va3 1 vc3]:List Value)=pv at *
 have HBK:=hide (fun(W:World) (A:List Nat) (V:List Int) (C:List (List Int)) (cs:Array Value) (h:Plr w0 W x.zB.length b bv bc A cv cc pv ordV V C cs)=>(by have:=h.bk;rw[←hpv] at this;exact this:Bk W b 299 #[.int .i64 x.zK,.slice va1 x.zM.length vc1,.slice va2 x.zB.length vc2,.slice va3 1 vc3,ordV,.slice (some ⟨bv,0,none⟩) x.zB.length cv,.slice (some ⟨bc,0,none⟩) x.zB.length cc]));clear hpv
 have kb:=(HBK.out _ _ _ _ _ HPL0.out).cell;have lb:=HPL0.out.bk.lt
 obtain⟨i1,hi1,hz10,hz11,hz12⟩:=info_parts info_Int64SS
 go_enter Tryz.func245,Tryz.ntmps245
 go_wp2_with (at_make;refine wpList_make_full _ rfl _ _ _ rfl w.heap.size 26 i1 _ 1 Tryz.underlying24 hi1 hz10 hz11 .i64 .i64 _ _ 1 rfl rfl (by first|rfl|omega) (by first|rfl|omega) (by rw[hz12];omega) (by unfold maxLen;omega) (Nat.le_refl _) ?_;intro w1 hown1 hg1;have HBo:=hide (own_bkN hown1);have HG1:=hide ((Below.refl w.heap.size w).grown hg1 (Nat.le_refl _) (by simp));clear hown1 hg1;have HPL1:=hide (HPL0.out.add HG1.out (Nat.le_refl _) HBo.out.lt);clear kb lb;have kb:=(HBK.out _ _ _ _ _ HPL1.out).cell;have lb:=HPL1.out.bk.lt)
 clear hi1 hz10 hz11 hz12
 have HZI:=hide (show Calls Tryz.prog 193 #[.int .i64 1] w1 fun e w'=>e= .returned (.slice (some ⟨w1.heap.size,0,none⟩) 1 1)∧OwI 2 w' w1.heap.size (.slice (some ⟨w1.heap.size,0,none⟩) 1 1) (List.replicate 1 0)∧Below w1.heap.size w1 w' from c_zeros0 1 w1 (by omega))
 go_wp2_with fail
 refine HZI.out.mono ?_;rintro e w2 ⟨rfl,hf,hd⟩
 have HBo1:=hide (HBo.out.below hd HBo.out.lt);have HPL2:=hide (HPL1.out.add hd (Nat.le_refl _) (hf.lt w1.heap.size rfl).2);have hs1:=HBo.out.lt;have hs2:=(hf.lt w1.heap.size rfl).2;have HF2:=hide hf;clear hf hd HBo HPL1 HZI kb lb
 have HBf:=hide (show Bk w2 w1.heap.size 2 #[.int .i64 0] from own_bkN HF2.out)
 have kb:=(HBK.out _ _ _ _ _ HPL2.out).cell;have lb:=HPL2.out.bk.lt
 have hB1:w1.heap.size≤w2.heap.size:=by omega
 have hwn:IntKind.i64.wrap (0+(n:Int))=(n:Int):=by rw[Int.zero_add];exact IntWalk.i64_in _ (by omega)
 go_wp2
 have HBo2:=hide (show Bk w2 w.heap.size 26 #[.slice none 0 0] from by have h:Bk w2 w.heap.size 26 (madeCells (#[.slice none 0 0]:Array Value) (1 * 1)).toList.toArray:=HBo1.out;rw[madeOne] at h;exact h)
 go_loopw [11] (fun i wr=> ∃ (k:Nat) (A:List Nat) (V:List Int) (cs:Array Value) (y:Int) (r:Value),k≤n∧i= .int .i64 (k:Int)∧(∀ z ∈ V,Smp z)∧V.length=x.zB.length∧Plr w0 wr x.zB.length b bv bc A cv cc pv ordV V (cellsAt x [a] k) cs∧Bk wr w.heap.size 26 #[r]∧Bk wr w1.heap.size 2 #[.int .i64 y]∧OwI 2 wr w2.heap.size r (rowF x a k)∧w2.heap.size≤wr.heap.size∧(w1.heap.size ∈ A∧w.heap.size ∈ A∧ ∀ g,r.ownBlock=some g→g ∈ A)) (fun i _=>n - (intOf i).toNat)
 case atStart=>exact⟨0,_,_,cs,0,_,Nat.zero_le _,rfl,smp_zeros,List.length_replicate,HPL2.out,HBo2.out,HBf.out,by rw[HRW0.out];exact OwI.nil_ _ _ _,Nat.le_refl _,by simp,by simp,fun g hg=>by simp[Value.ownBlock] at hg⟩
 case round=>
  obtain⟨k,A,V,cs',y,r,hk,rfl,hVs,hVl,hpl,hbo,hbf,hro,hsz,hA1,hA2,hA3⟩:=hrel
  have HV:=hide hVs;have HPL:=hide hpl;have HBO:=hide hbo;have HBF:=hide hbf;have HRO:=hide hro;have HA3:=hide hA3;clear hVs hpl hbo hbf hro hA3 kb lb
  have kb:=(HBK.out _ _ _ _ _ HPL.out).cell;have lb:=HPL.out.bk.lt
  have hwk:IntKind.i64.wrap ((k:Int)+1)=(k:Int)+1:=IntWalk.i64_in _ (by omega)
  obtain⟨rA,rl,rc,rfl⟩: ∃ A l c,r= .slice A l c:=by obtain⟨A,c,e,_⟩:=(OwI.rd HRO.out).open_;exact⟨A,_,c,e⟩
  by_cases hlt:k<n
  rotate_left
  ·
   obtain rfl:k=n:=by omega
   go_wp2
   go_ret
   exact⟨_,rfl,rd_row1 HBO.out (OwI.rd HRO.out),HPL.out.bel⟩
  have ei:=(HPL.out.bel.cell hbi).trans HE0.out;have li:bi<wr.heap.size:=Nat.lt_of_lt_of_le hbi HPL.out.bel.size;have RAi:=hide (RdI.below RA.out HPL.out.bel)
  have kf:=HBF.out.cell;have ff:=HBF.out.free;have lf:=HBF.out.lt;have ko:=HBO.out.cell;have lo:=HBO.out.lt
  go_wp2
  refine wp_loop_rounds 2 ?_
  rw[rounds_succ]
  go_wp2_with (go_at_call 198;refine(c_at _ a (k:Int) _ (by omega) RAi.out).mono ?_;rintro e _ ⟨rfl,rfl⟩)
  rw[rounds_succ]
  go_wp2_with fail
  have hw0:w0.heap.size≤w.heap.size:=HPL0.out.bel.size
  have HPL3:=hide (HPL.out.setG hA1 (show w0.heap.size≤w1.heap.size by omega) (by omega) (by omega) (by omega) 0 (.int .i64 (smpAt a (k:Int))));have HBF3:=hide (show Bk (wr.setCell ⟨w1.heap.size,0,none⟩ (.int .i64 (smpAt a (k:Int)))) w1.heap.size 2 #[(.int .i64 (smpAt a (k:Int)))] from by have h:=HBF.out.set_ 0 (.int .i64 (smpAt a (k:Int)));simpa using h);have HBO3:=hide (HBO.out.far (p:=⟨w1.heap.size,0,none⟩) (show w.heap.size≠w1.heap.size by omega) (.int .i64 (smpAt a (k:Int))));have HRO3:=hide (HRO.out.far (p:=⟨w1.heap.size,0,none⟩) (fun q hq=>by have h:=(HRO.out.lt q hq).1;show q≠w1.heap.size;omega) (.int .i64 (smpAt a (k:Int))))
  have hs3:wr.heap.size=(wr.setCell ⟨w1.heap.size,0,none⟩ (.int .i64 (smpAt a (k:Int)))).heap.size:=by simp[World.setCell]
  rw[hs3] at hsz
  clear kb lb ei li RAi kf ff lf ko lo HPL HBF HBO HRO hs3
  generalize (wr.setCell ⟨w1.heap.size,0,none⟩ (.int .i64 (smpAt a (k:Int))))=w3 at *
  have HFR:=hide (show RdI w3 (.slice (some ⟨w1.heap.size,0,none⟩) 1 1) (frameF [a] k) from rdI_bk HBF3.out rfl (by simp[frameF]))
  refine(c_frame x w0 b bv bc A cv cc pv ordV _ V (frameF [a] k) (cellsAt x [a] k) cs' _ HPO.out (HCA.out k) (HFS.out k) (by rw[h1];rfl) HV.out hVl HRX.out HOR.out hcv hcc HPL3.out HFR.out (by simp[Value.ownBlock];omega) (by simp[Value.ownBlock];omega)).mono ?_;rintro e w4 ⟨rfl,cs4,hpl,htr⟩
  have HPL4:=hide hpl;have hs4:=htr.size;have HBF4:=hide (HBF3.out.trn htr (by simp;omega));have HBO4:=hide (HBO3.out.trn htr (by simp;omega));have HRO4:=hide (own_trnF HRO3.out htr (fun q hq=>by simp at hq;rcases hq with rfl|rfl<;>omega));clear hpl htr HPL3 HBF3 HBO3 HRO3 HFR
  have kb:=(HBK.out _ _ _ _ _ HPL4.out).cell;have lb:=HPL4.out.bk.lt
  go_wp2_with fail
  refine(c_outputs b x.zL (valsAt x [a] k) _ _ _ (by rw[length_valsAt];exact HOUT.out) (by rw[ho1];simp) (kb 3) (kb 5) (RdI.below R3.out HPL4.out.bel) (OwI.rd HPL4.out.vals)).mono ?_;rintro e w5 ⟨vr,rfl,ho5,hb⟩
  obtain⟨z,hz⟩: ∃ z,(valsAt x [a] k).getD o1.toNat 0=z:=⟨_,rfl⟩
  have HML:=hide (show (x.zL.map fun i=>(valsAt x [a] k).getD i.toNat 0)= [z] by rw[ho1,←hz];rfl)
  rw[HML.out] at ho5
  have HRK:=hide (show rowF x a (k+1)=rowF x a k++ [z] by rw[HROW.out k,HD0.out,hz]);clear hz
  obtain⟨b9,o9,c9,rfl,hc9,hm9,hb9,hx9⟩:=rdI_cells (OwI.rd ho5) (by simp)
  have e9:=hx9 0 z rfl;rw[Nat.add_zero] at e9
  have HPL5:=hide (HPL4.out.below hb);have HBF5:=hide (HBF4.out.below hb HBF4.out.lt);have HBO5:=hide (HBO4.out.below hb HBO4.out.lt);have HRO5:=hide (own_all HRO4.out hb);have hs5:=hb.size;clear hb ho5 hx9 kb lb HPL4 HBF4 HBO4 HRO4
  have kb:=(HBK.out _ _ _ _ _ HPL5.out).cell;have lb:=HPL5.out.bk.lt;have ko:=HBO5.out.cell;have lo:=HBO5.out.lt
  have hlen:(rowF x a k).length+1≤17592186044416:=by rw[length_rowF];omega
  have hsz5:w2.heap.size≤w5.heap.size:=by omega
  go_wp2
  refine wp_loop_rounds 2 ?_
  rw[rounds_succ]
  go_wp2_with (at_builtin;refine app1_i64 (n:=z) rfl _ _ rfl rfl HRO5.out rfl hlen hsz5 ?_;intro v8 w8 ho8 hg8 hv8;obtain⟨A8,l8,c8,rfl⟩: ∃ A l c,v8= .slice A l c:=(by obtain⟨A,c,e,_⟩:=(OwI.rd ho8).open_;exact⟨A,_,c,e⟩);have HO8:=hide ho8;have HG8:=hide hg8;have HV8:=hide hv8;have HBO8:=hide (HBO5.out.grown hg8 (fun e=>by have h:=(HRO5.out.lt _ e.symm).1;omega));have ko8:=HBO8.out.cell;have fo8:=HBO8.out.free;have lo8:=HBO8.out.lt;clear ho8 hg8 hv8)
  rw[rounds_succ]
  go_wp2
  have HPL8:=hide (HPL5.out.grow HG8.out (v':= .slice A8 l8 c8) (fun g hg=>⟨HA3.out g hg,by have h:=(HRO5.out.lt g hg).1;omega,by have h:=(HRO5.out.lt g hg).1;omega,by have h:=(HRO5.out.lt g hg).1;omega,by have h:=(HRO5.out.lt g hg).1;omega⟩) (fun g hg=>⟨HV8.out g hg,(HO8.out.lt g hg).2⟩))
  have HBF8:=hide (HBF5.out.grown HG8.out (fun e=>by have h:=(HRO5.out.lt _ e.symm).1;omega))
  have HPL9:=hide (HPL8.out.setG (g:=w.heap.size) (List.mem_append_right _ hA2) hw0 (by omega) (by omega) (by omega) 0 (.slice A8 l8 c8))
  have hs8:=HG8.out.size
  go_roundw
  case rel=>exact⟨k+1,_,_,cs4,smpAt a (k:Int),.slice A8 l8 c8,by omega,by go_num,HVS.out k,length_valsAt _ _ _,HPL9.out,by have h:=HBO8.out.set_ 0 (.slice A8 l8 c8);simpa using h,HBF8.out.far (p:=⟨w.heap.size,0,none⟩) (show w1.heap.size≠w.heap.size by omega) _,by rw[HRK.out];exact HO8.out.far (fun q hq=>by have h:=(HO8.out.lt q hq).1;show q≠w.heap.size;omega) _,by simp[World.setCell];omega,List.mem_append_right _ hA1,List.mem_append_right _ hA2,fun g hg=>List.mem_append_left _ (by rw[hg];simp)⟩
  case measure=>simp[intOf];omega
theorem startSt_len {x:GNode} {n:Int} (h:NodeOk x n):(startSt x).length≤16:=by
 unfold startSt
 split
 ·next e=>have:=node_h6 h e;rw[List.length_replicate];omega
 split
 ·next e=>have:=node_h17 h e;rw[List.length_replicate];omega
 split
 ·simp
 split
 ·simp
 ·simp
theorem start_sm {x:GPatch} (h:FormedOk x):smL (fun l:List Int=>l.length≤1048576) (x.zB.map startSt):=
 ⟨by rw[List.length_map];have:=h.few;omega,fun l hl=>by
  obtain⟨y,hy,rfl⟩:=List.mem_map.1 hl
  obtain⟨i,hi⟩:=List.mem_iff_getElem?.1 hy
  have:=startSt_len (h.nodes i y hi).1
  omega⟩
theorem c_render (x:GPatch) (cs:List Value) (a:List Int) (vin:Value) (n:Nat) (w:World) (hP:PatchOk x) (h1:x.zK=1) (h2:x.zL.length=1) (hA: ∀ y ∈ a,Smp y) (hn:n≤1048576) (hr:T.rds w x.fs cs) (hin:T.rd w (T.sl 26 1 ([a].map (T.ints 2))) [vin]):
  Calls Tryz.prog 197 #[.agg cs.toArray,vin,.int .i64 (n:Int)] w fun e w'=> ∃ v,e= .returned v∧T.rd w' (T.sl 26 1 ([rowF x a n].map (T.ints 2))) [v]∧Below w.heap.size w w':=by
 have HPO:=hide hP;have HRX:=hide hr;have HIN:=hide hin;have HAA:=hide hA;have hnn:=hn;have HI1:=hide h1;have HI2:=hide h2;clear hin hA h1 h2 hn
 have hO:=hP.formed.outputs;obtain⟨o1,ho1⟩:=len1 HI2.out;rw[ho1] at hO;have hO1:=hO 0 o1 rfl;clear hO
 have hN0:0<x.zB.length:=by omega
 have HFW:=hide (show Each x.zB fun _ y=>Idx y.zH (x.zB.length:Int) from fun i y hy=>(hP.formed.nodes i y hy).2.1);have hn24:=hP.formed.few;have HFO:=hide hP.formed;clear hP ho1 hO1
 obtain⟨v1,v2,v3,rfl,h1,h2,h3⟩:=GPatch.yN hr
 clear hr
 have R1:=hide h1;obtain⟨va1,vc1,rfl,vl1,vm1,vx1⟩:=T.yM h1
 have HX1:=hide vx1;clear vx1 h1
 have R2:=hide h2;obtain⟨va2,vc2,rfl,vl2,vm2,vx2⟩:=T.yM h2
 have HX2:=hide vx2;clear vx2 h2
 have h3i:=T.yR.1 h3;obtain⟨va3,vc3,rfl,vl3,vm3,vx3⟩:=h3i.open_
 have R3:=hide h3i;have HX3:=hide vx3;clear vx3 h3 h3i
 obtain⟨IA,il,ic,rfl⟩:=T.yT HIN.out
 have HK0:=hide (Bk.born w 108 #[.int .i64 x.zK,.slice va1 x.zM.length vc1,.slice va2 x.zB.length vc2,.slice va3 x.zL.length vc3]);have HBa:=hide (show Below w.heap.size w (w.alloc (.cells #[.int .i64 x.zK,.slice va1 x.zM.length vc1,.slice va2 x.zB.length vc2,.slice va3 x.zL.length vc3] 108)) from(Below.refl w.heap.size w).alloc (Nat.le_refl _) _)
 go_enter Tryz.func197,Tryz.ntmps197
 go_wp2
 generalize hW2:(w.alloc (.cells #[.int .i64 x.zK,.slice va1 x.zM.length vc1,.slice va2 x.zB.length vc2,.slice va3 x.zL.length vc3] 108))=W2 at *;clear hW2
 have HDr:=hide ((Below.refl W2.heap.size W2).drew)
 have HKP:=hide (fun(w':World) (hw:Below W2.heap.size W2 w')=>((HK0.out.below hw HK0.out.lt).cell:(∀ i,w'.cell? ⟨w.heap.size,i,none⟩= #[.int .i64 x.zK,.slice va1 x.zM.length vc1,.slice va2 x.zB.length vc2,.slice va3 x.zL.length vc3][i]?)))
 refine wp_region_N (fun w'=>(∀ i,w'.cell? ⟨w.heap.size,i,none⟩= #[.int .i64 x.zK,.slice va1 x.zM.length vc1,.slice va2 x.zB.length vc2,.slice va3 x.zL.length vc3][i]?)) [] (by kernel_rfl) ?_ (fun hS0=>?_)
 ·exact HKP.out _ HDr.out
 generalize hwd:W2.drew=wd at *;clear hwd
 have HBd:=hide (yI HBa.out HBa.out.size HDr.out)
 refine tN 0 hS0 ?_
 refine tN 1 hS0 ?_
 refine tN 4 hS0 ?_
 refine tN 5 hS0 ?_
 refine wpAnyN_one (i:=2) (o:=_) (by kernel_rfl) rfl (fun K hK=>?_)
 go_simp
 go_wp2_with (go_at_call 244;refine(c_startState x _ _ HFO.out (T.rds_below HRX.out HBd.out)).mono ?_;rintro e w3 ⟨vs,F3,rfl,ho,hb⟩)
 have HO3:=hide (T.ow_rd _ _ _ ho.ow);have HD3:=hide (yI HDr.out HDr.out.size hb);have HB3:=hide (yI HBd.out HBd.out.size hb);clear ho hb
 refine hK.out _ _ ?_ (fun hS1=>?_)
 ·exact HKP.out _ HD3.out
 clear hK K hS0
 try simp only[Act.put,List.setIfInBounds_toArray,List.set_cons_zero,List.set_cons_succ]
 try simp only[Act.put,List.setIfInBounds_toArray,List.set_cons_zero,List.set_cons_succ]
 refine wpAnyN_one (i:=3) (o:=_) (by kernel_rfl) rfl (fun K hK=>?_)
 go_simp
 go_wp2_with (go_at_call 243;refine(c_playerOf x _ (x.zB.map startSt) _ _ hN0 hn24 HFW.out (by rw[List.length_map]) (start_sm HFO.out) (T.rds_below HRX.out HB3.out) HO3.out).mono ?_;rintro e w4 ⟨b,rfl,w0,bv,bc,cv,cc,pv,ordV,ca,hr,ho,hcv,hcc,hpl,hb⟩)
 have HR4:=hide hr;have HO4:=hide ho;have HP4:=hide hpl;have HB0:=hide hb;have HD4:=hide (yI HD3.out HD3.out.size (yI hb hb.size hpl.bel));have HW0:=hide (yI HB3.out HB3.out.size hb);clear hr ho hpl hb
 refine hK.out _ _ ?_ (fun hS2=>?_)
 ·exact HKP.out _ HD4.out
 clear hK K hS1
 try simp only[Act.put,List.setIfInBounds_toArray,List.set_cons_zero,List.set_cons_succ]
 try simp only[Act.put,List.setIfInBounds_toArray,List.set_cons_zero,List.set_cons_succ]
 refine wpAnyN_one (i:=6) (o:=_) (by kernel_rfl) rfl (fun K hK=>?_)
 go_simp
 go_wp2_with (go_at_call 245;refine(c_block x w0 b bv bc cv cc pv ordV _ ca a n _ HPO.out HI1.out HI2.out HAA.out hnn HR4.out HO4.out hcv hcc (T.yE HIN.out HW0.out) HP4.out).mono ?_;rintro e w5 ⟨vr,rfl,hr,hb⟩)
 have HR5:=hide hr;have HD5:=hide (yI HD3.out HD3.out.size (yI HB0.out HB0.out.size hb));have HW5:=hide (yI HW0.out HW0.out.size hb);clear hr hb
 refine hK.out _ _ ?_ (fun hS3=>?_)
 ·exact HKP.out _ HD5.out
 clear hK K hS2
 try simp only[Act.put,List.setIfInBounds_toArray,List.set_cons_zero,List.set_cons_succ]
 try simp only[Act.put,List.setIfInBounds_toArray,List.set_cons_zero,List.set_cons_succ]
 refine wpAnyN_one (i:=7) (o:=_) (by kernel_rfl) rfl (fun K hK=>?_)
 go_simp
 refine hK.out _ _ ?_ (fun hS4=>?_)
 ·exact HKP.out _ HD5.out
 clear hK K hS3
 try simp only[Act.put,List.setIfInBounds_toArray,List.set_cons_zero,List.set_cons_succ]
 refine wpAnyN_end (by kernel_rfl) ?_
 clear hS4
 go_wp2
 go_ret
 exact⟨_,rfl,HR5.out,HW5.out⟩
end Go.Proofs.YtoibekfhepnedaaGreat
end
section
namespace Go.Proofs.YtoibekfhepnedaaGreat
open Go.RowKit
theorem src_smp {ss:List (List Int)} (h:SourcesOk ss) {i:Nat} {l:List Int} (hl:ss[i]?=some l): ∀ x ∈ l,Smp x:=by
 have e:=h.each i l hl
 unfold sigB at e
 simp only[Bool.and_eq_true,smpB,decide_eq_true_eq] at e
 exact e.2
theorem c_renderTrack (x:GTrack) (cs:List Value) (sources:List (List Int)) (sv:Value) (n:Nat) (w:World) (hT:TrackOk x) (hS:SourcesOk sources) (hc:Each x.zQ fun _ c=>c.zT<(sources.length:Int)) (hn:n≤4000) (hr:T.rd w (T.sl 26 1 (sources.map (T.ints 2))) [sv]) (h:T.rds w x.fs cs):Calls Tryz.prog 194 #[sv,.agg cs.toArray,.int .i64 (n:Int)] w fun e w'=> ∃ v,e= .returned v∧OwI 2 w' w.heap.size v (trackF sources x n)∧Below w.heap.size w w':=by
 obtain⟨v0,rfl,h0⟩:=GTrack.yN h
 clear h
 have R0:=hide h0;obtain⟨va0,vc0,rfl,vl0,vm0,vx0⟩:=T.yM h0
 have HX0:=hide vx0;clear vx0 h0
 have HB0:=hide (show Below w.heap.size w (w.alloc (.cells #[(.slice va0 x.zQ.length vc0)] 96)) from(Below.refl _ _).alloc (Nat.le_refl _) _)
 have HK0:=hide (Bk.born w 96 #[(.slice va0 x.zQ.length vc0)])
 have HTO:=hide hT;have HSO:=hide hS;have HCS:=hide hc;clear hT hS hc
 obtain⟨SA,sc,rfl,sl_,sm,sx⟩:=T.yM hr
 have HSX:=hide sx;clear sx hr
 have HALL:=hide (show trackUp sources x.zQ n x.zQ.length=trackF sources x n from rfl)
 go_enter Tryz.func194,Tryz.ntmps194
 go_wp2_with fail
 refine(c_zerosE n _ (by omega)).mono ?_;rintro e w1 ⟨rfl,ho,hd⟩
 have HOz:=hide ho;clear ho
 have hb:Below (w.alloc (.cells #[(.slice va0 x.zQ.length vc0)] 96)).heap.size (w.alloc (.cells #[(.slice va0 x.zQ.length vc0)] 96)) w1:=by first|exact hd|exact hd.to_below _|exact hd ▸ Below.refl _ _
 have HK1:=hide (HK0.out.below hb HK0.out.lt);have HB1:=hide (yI HB0.out HB0.out.size hb);clear hb hd;have ka:=HK1.out.cell;have la:=HK1.out.lt
 have hgz:w.heap.size<(w.alloc (.cells #[(.slice va0 x.zQ.length vc0)] 96)).heap.size:=by simp
 generalize (w.alloc (.cells #[(.slice va0 x.zQ.length vc0)] 96)).heap.size=g at *
 have HO1:=hide (show OwI 2 w1 g (.slice (some ⟨g,0,none⟩) n n) (trackUp sources x.zQ n 0) from HOz.out)
 have hg1:g<w1.heap.size:=(HOz.out.lt g rfl).2
 clear HOz
 go_wp2
 go_loopw [16] (fun i wr=> ∃ k:Nat,k≤x.zQ.length∧i= .int .i64 (k:Int)∧OwI 2 wr g (.slice (some ⟨g,0,none⟩) n n) (trackUp sources x.zQ n k)∧Below w.heap.size w wr∧Bk wr w.heap.size 96 #[(.slice va0 x.zQ.length vc0)]∧g<wr.heap.size) (fun i _=>x.zQ.length - (intOf i).toNat)
 case atStart=>exact⟨0,Nat.zero_le _,rfl,HO1.out,HB1.out,HK1.out,hg1⟩
 case round=>
  obtain⟨k,hk,rfl,ho,hbw,hbk,hgw⟩:=hrel
  have HO:=hide ho;have HB:=hide hbw;have HK:=hide hbk;clear ho hbw hbk ka la
  have ka:=HK.out.cell;have la:=HK.out.lt
  by_cases hlt:k<x.zQ.length
  rotate_left
  ·
   obtain rfl:k=x.zQ.length:=by omega
   go_wp2
   go_ret
   exact⟨_,rfl,by rw[←HALL.out];exact own_more HO.out (by omega),HB.out⟩
  have hgk:=List.getElem?_eq_getElem hlt
  obtain⟨b1,off,cs1,hA,hb1,hcs,hcell⟩:=HX0.out k x.zQ[k] hgk
  subst hA
  generalize x.zQ[k]=y at *
  have HG:=hide hgk;clear hgk
  obtain rfl:=GClip.yN (show T.rds _ _ _ by simpa only[GClip.t,T.rd] using hcs)
  have d0:=(HB.out.cell hb1).trans (hcell 0 (.int .i64 y.zT) rfl)
  have d1:=(HB.out.cell hb1).trans (hcell 1 (.int .i64 y.zH) rfl)
  have d2:=(HB.out.cell hb1).trans (hcell 2 (.int .i64 y.zG) rfl)
  have d3:=(HB.out.cell hb1).trans (hcell 3 (.int .i64 y.zX) rfl)
  have d4:=(HB.out.cell hb1).trans (hcell 4 (.int .i64 y.zR) rfl)
  rw[show off+(k * 5+0)=off+k * 5 by omega] at d0
  rw[show off+(k * 5+1)=off+k * 5+1 by omega] at d1
  rw[show off+(k * 5+2)=off+k * 5+2 by omega] at d2
  rw[show off+(k * 5+3)=off+k * 5+3 by omega] at d3
  rw[show off+(k * 5+4)=off+k * 5+4 by omega] at d4
  clear hcs hcell
  have hq1:b1<wr.heap.size:=Nat.lt_of_lt_of_le hb1 HB.out.size
  have hok:=(HTO.out.clips k y HG.out).1;have hso:=HCS.out k y HG.out
  have i1:=yZ.1 hok.source;have i2:=yZ.1 hok.length;have i3:=yZ.1 hok.from_;have i4:=yZ.1 hok.at_;have HGN:=hide hok.gain;clear hok
  have hsj:y.zT.toNat<sources.length:=by omega
  have hgs:=List.getElem?_eq_getElem hsj
  obtain⟨b5,o5,c5,rfl,hb5,hcs5,hcell5⟩:=HSX.out _ _ hgs
  have HSM:=hide (src_smp HSO.out hgs);have HSD:=hide (show sources.getD y.zT.toNat []=sources[y.zT.toNat] by rw[List.getD_eq_getElem?_getD,hgs];rfl)
  generalize sources[y.zT.toNat]=src at *
  obtain⟨v5,rfl⟩:=T.rd_one hcs5
  have e0:=hcell5 0 v5 rfl
  rw[Nat.mul_one,Nat.add_zero] at e0
  have RS:=hide (T.yR.1 hcs5);clear hcs5 hcell5 hgs
  obtain⟨A5,c5,rfl,l5,m5,x5⟩:=RS.out.open_;clear x5
  have HE0:=hide e0;clear e0
  have HUk:=hide (show trackUp sources x.zQ n (k+1)=clipUp y src (trackUp sources x.zQ n k) (clipN y n) by show (match x.zQ[k]? with|some c=>_|none=>_)=_;rw[HG.out,←HSD.out])
  have HRX:=hide (show Below wr.heap.size wr (wr.alloc (.cells #[.int .i64 y.zT,.int .i64 y.zH,.int .i64 y.zG,.int .i64 y.zX,.int .i64 y.zR] 39)) from(Below.refl _ _).alloc (Nat.le_refl _) _)
  have HOX:=hide (show OwI 2 (wr.alloc (.cells #[.int .i64 y.zT,.int .i64 y.zH,.int .i64 y.zG,.int .i64 y.zX,.int .i64 y.zR] 39)) g (.slice (some ⟨g,0,none⟩) n n) (clipUp y src (trackUp sources x.zQ n k) 0) from own_all HO.out HRX.out);have HBX:=hide (yI HB.out HB.out.size HRX.out);have HKX:=hide (HK.out.alloc (.cells #[.int .i64 y.zT,.int .i64 y.zH,.int .i64 y.zG,.int .i64 y.zX,.int .i64 y.zR] 39));have HNX:=hide (Bk.born wr 39 #[.int .i64 y.zT,.int .i64 y.zH,.int .i64 y.zG,.int .i64 y.zX,.int .i64 y.zR])
  have hgB:g<wr.heap.size:=hgw;have hBX:wr.heap.size<(wr.alloc (.cells #[.int .i64 y.zT,.int .i64 y.zH,.int .i64 y.zG,.int .i64 y.zX,.int .i64 y.zR] 39)).heap.size:=HNX.out.lt
  clear ka la;have ka:=HKX.out.cell;have la:=HKX.out.lt;have kn:=HNX.out.cell;have ln:=HNX.out.lt
  have hcn:clipN y n=min y.zG.toNat (n - y.zX.toNat):=rfl
  go_wp2
  generalize hWX:(wr.alloc (.cells #[.int .i64 y.zT,.int .i64 y.zH,.int .i64 y.zG,.int .i64 y.zX,.int .i64 y.zR] 39))=WX at *;clear hWX
  generalize hB1:wr.heap.size=B1 at *
  have HB1q:=hide hB1;clear hB1
  go_loopw [10] (fun i wr=> ∃ q:Nat,q≤clipN y n∧i= .int .i64 (q:Int)∧OwI 2 wr g (.slice (some ⟨g,0,none⟩) n n) (clipUp y src (trackUp sources x.zQ n k) q)∧Below w.heap.size w wr∧Bk wr w.heap.size 96 #[(.slice (some ⟨b1,off,none⟩) x.zQ.length vc0)]∧Bk wr B1 39 #[.int .i64 y.zT,.int .i64 y.zH,.int .i64 y.zG,.int .i64 y.zX,.int .i64 y.zR]) (fun i _=>clipN y n - (intOf i).toNat)
  case atStart=>exact⟨0,Nat.zero_le _,rfl,HOX.out,HBX.out,HKX.out,HNX.out⟩
  case round=>
   obtain⟨q,hq,rfl,ho,hbw,hbk,hbn⟩:=hrel
   have HOi:=hide ho;have HBi:=hide hbw;have HKi:=hide hbk;have HNi:=hide hbn;clear ho hbw hbk hbn ka la kn ln
   have ka:=HKi.out.cell;have la:=HKi.out.lt;have kn:=HNi.out.cell;have ln:=HNi.out.lt
   have hwA:IntKind.i64.wrap (y.zX+(q:Int))=y.zX+(q:Int):=IntWalk.i64_in _ (by omega)
   by_cases hlq:q<clipN y n
   rotate_left
   ·
    obtain rfl:q=clipN y n:=by omega
    have hg9:g<wr.heap.size:=(HOi.out.lt g rfl).2
    have HREL:=hide (show OwI 2 wr g (.slice (some ⟨g,0,none⟩) n n) (trackUp sources x.zQ n (k+1)) by rw[HUk.out];exact HOi.out)
    generalize hcq:clipN y n=cq at *
    by_cases hlen:(cq:Int)<y.zG
    ·
     have hno: ¬ (y.zX+(cq:Int)<(n:Int)):=by omega
     go_wp2
     go_roundw
     case rel=>exact⟨k+1,by omega,by go_num,HREL.out,HBi.out,HKi.out,hg9⟩
     case measure=>simp[intOf];omega
    ·
     go_wp2
     go_roundw
     case rel=>exact⟨k+1,by omega,by go_num,HREL.out,HBi.out,HKi.out,hg9⟩
     case measure=>simp[intOf];omega
   have hl1:(q:Int)<y.zG:=by omega
   have hl2:y.zX+(q:Int)<(n:Int):=by omega
   obtain⟨j,hj⟩: ∃ j:Nat,y.zX+(q:Int)=(j:Int):=⟨(y.zX+(q:Int)).toNat,by omega⟩
   have hjA:y.zX.toNat+q=j:=by omega
   have hjn:(j:Int)<(n:Int):=by omega
   have hwj:IntKind.i64.wrap (j:Int)=(j:Int):=IntWalk.i64_in _ (by omega)
   have HCU:=hide (show clipUp y src (trackUp sources x.zQ n k) (q+1)=(clipUp y src (trackUp sources x.zQ n k) q).set j (wrp ((clipUp y src (trackUp sources x.zQ n k) q).getD j 0+y.zR * smpAt src (y.zH+(q:Int)))) by rw[←hjA];rfl)
   have hRl:(clipUp y src (trackUp sources x.zQ n k) q).length=n:=by rw[length_clipUp,length_trackUp]
   have HRS:=hide (smp_clipUp (c:=y) (src:=src) (smp_trackUp (ss:=sources) (l:=x.zQ) (n:=n) k) q)
   generalize hR:clipUp y src (trackUp sources x.zQ n k) q=R at *
   have hjl:j<R.length:=by omega
   have HgA:=hide (List.getElem?_eq_getElem hjl)
   have ht0:=HRS.out R[j] (List.getElem_mem hjl)
   have HDA:=hide (show R.getD j 0=R[j] by rw[List.getD_eq_getElem?_getD,HgA.out];rfl)
   generalize R[j]=t0 at *
   have hwF:IntKind.i64.wrap (y.zH+(q:Int))=y.zH+(q:Int):=IntWalk.i64_in _ (by omega)
   have hs0:=smpAt_smp HSM.out (y.zH+(q:Int))
   obtain⟨s0,hse⟩: ∃ s0,smpAt src (y.zH+(q:Int))=s0:=⟨_,rfl⟩
   have HAT:=hide (fun(W:World) (hr:RdI W (.slice A5 src.length c5) src)=>(by have:=c_at _ src (y.zH+(q:Int)) W (by omega) hr;rw[hse] at this;exact this:Calls Tryz.prog 198 #[.slice A5 src.length c5,.int .i64 (y.zH+(q:Int))] W fun e w'=>e= .returned (.int .i64 s0)∧W=w'))
   rw[hse] at hs0 HCU;clear hse
   have hm:=smp_mul HGN.out hs0
   have hw1:IntKind.i64.wrap (y.zR * s0)=y.zR * s0:=IntWalk.i64_in _ (by omega)
   have hw2:IntKind.i64.wrap (t0+y.zR * s0)=t0+y.zR * s0:=IntWalk.i64_in _ (by unfold Smp at ht0;omega)
   have hsl2:y.zT<(sources.length:Int):=hso
   go_wp2
   have HCA:=hide (HOi.out.cellN HgA.out);have HE5:=hide ((HBi.out.cell hb5).trans HE0.out)
   have HWd:=hide (show (∀ i,wr.drew.cell? ⟨B1,i,none⟩= #[.int .i64 y.zT,.int .i64 y.zH,.int .i64 y.zG,.int .i64 y.zX,.int .i64 y.zR][i]?)∧wr.drew.cell? ⟨g,j,none⟩=some (.int .i64 t0)∧wr.drew.cell? ⟨b5,o5+y.zT.toNat,none⟩=some (.slice A5 src.length c5) from⟨HNi.out.cell,HCA.out,HE5.out⟩)
   have HOd:=hide (show OwI 2 wr.drew g (.slice (some ⟨g,0,none⟩) n n) R from own_all HOi.out (Below.refl wr.heap.size wr).drew);have HBd:=hide HBi.out.drew;have HKd:=hide (Bk.drew HKi.out);have HNd:=hide (Bk.drew HNi.out);have HSd:=hide (show RdI wr.drew (.slice A5 src.length c5) src from RdI.below (RdI.below RS.out HBi.out) (Below.refl wr.heap.size wr).drew)
   clear ka la kn ln
   refine wp_region_E (fun w'=>(∀ i,w'.cell? ⟨B1,i,none⟩= #[.int .i64 y.zT,.int .i64 y.zH,.int .i64 y.zG,.int .i64 y.zX,.int .i64 y.zR][i]?)∧w'.cell? ⟨g,j,none⟩=some (.int .i64 t0)∧w'.cell? ⟨b5,o5+y.zT.toNat,none⟩=some (.slice A5 src.length c5)) 28 (by kernel_rfl) ?_ (fun hS0=>?_)
   ·exact HWd.out
   generalize hwd:wr.drew=wd at *;clear hwd
   refine tE 0 hS0 ?_
   refine tE 1 hS0 ?_
   refine tE 2 hS0 ?_
   refine tE 3 hS0 ?_
   refine tE 4 hS0 ?_
   refine tE 5 hS0 ?_
   refine tE 6 hS0 ?_
   refine tE 7 hS0 ?_
   refine tE 8 hS0 ?_
   refine tE 9 hS0 ?_
   refine tE 10 hS0 ?_
   refine tE 11 hS0 ?_
   refine tE 12 hS0 ?_
   refine tE 13 hS0 ?_
   refine tE 14 hS0 ?_
   refine tE 15 hS0 ?_
   refine tE 16 hS0 ?_
   refine tE 17 hS0 ?_
   refine tE 18 hS0 ?_
   refine tE 19 hS0 ?_
   refine tE 20 hS0 ?_
   refine tE 21 hS0 ?_
   refine tE 22 hS0 ?_
   refine wpAnyE_one (i:=23) (o:=_) (by kernel_rfl) rfl (fun K hK=>?_)
   go_simp
   go_wp2_with (go_at_call 198;refine(HAT.out _ HSd.out).mono ?_;rintro e w' ⟨rfl,rfl⟩)
   refine hK.out _ _ ?_ (fun hS1=>?_)
   ·exact HWd.out
   clear hK K hS0
   try simp only[Act.put,List.setIfInBounds_toArray,List.set_cons_zero,List.set_cons_succ]
   refine tE 24 hS1 ?_
   refine tE 25 hS1 ?_
   refine wpAnyE_one (i:=26) (o:=_) (by kernel_rfl) rfl (fun K hK=>?_)
   go_simp
   go_wp2_with (go_at_call 242;refine(c_Wrap _ _).mono ?_;rintro e w' ⟨rfl,rfl⟩)
   refine hK.out _ _ ?_ (fun hS2=>?_)
   ·exact HWd.out
   clear hK K hS1
   try simp only[Act.put,List.setIfInBounds_toArray,List.set_cons_zero,List.set_cons_succ]
   refine tE 27 hS2 ?_
   refine wpAnyE_tail (o:=_) (by kernel_rfl) rfl (by kernel_rfl) ?_
   have ck:=HWd.out.2.1;have fr:=HOd.out.freeN j
   go_wp2
   have HO2:=hide (HOd.out.setN j (wrp (t0+y.zR * s0)));have HG2:=hide (HOd.out.grownN j (.int .i64 (wrp (t0+y.zR * s0))))
   have HK2:=hide (HKd.out.far (p:=⟨g,j,none⟩) (show w.heap.size≠g by omega) (.int .i64 (wrp (t0+y.zR * s0))));have HN2:=hide (HNd.out.far (p:=⟨g,j,none⟩) (show B1≠g by omega) (.int .i64 (wrp (t0+y.zR * s0))))
   go_roundw
   case rel=>exact⟨q+1,by omega,by go_num,by rw[HCU.out,HDA.out];exact HO2.out,HBd.out.grown HG2.out HBd.out.size (fun j hj=>by injection hj with hj;omega),HK2.out,HN2.out⟩
   case measure=>simp[intOf];omega
end Go.Proofs.YtoibekfhepnedaaGreat
end
