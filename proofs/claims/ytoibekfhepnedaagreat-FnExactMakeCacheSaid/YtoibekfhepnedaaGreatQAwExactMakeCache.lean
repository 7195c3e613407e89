/- Contracts: nested data laid anew. -/
import Derived.Test.YtoibekfhepnedaaGreatQAbExactMakeCache
import Derived.Test.YtoibekfhepnedaaGreatQAdExactMakeCache
set_option linter.unusedVariables false
set_option linter.unusedSimpArgs false
set_option maxHeartbeats 1000000
set_option maxRecDepth 20000
namespace Go.Proofs.YtoibekfhepnedaaGreat
open Go.RowKit
theorem c_toI (v:Value) (xs:List Int) (w:World) (hs:xs.length≤1048576) (hr:T.rd w (T.ints 2 xs) [v]):
  Calls Tryz.prog 59 #[v] w fun e w'=> ∃ u F,e= .returned u∧Nv w w' (T.ints 2 xs) F u:=
 (c_toInt64S v xs w (T.yT.1 hr) hs).mono fun e w' ⟨u,h1,h2,h3⟩=>⟨u,_,h1,Nv.ints h2 h3⟩
theorem wU:(Tryz.prog.info? 26).map (fun i=>(i.zero,i.size,i.bytes))=some (some (.slice none 0 0),1,24):=by kernel_rfl
theorem wide_Int64SS (xs:List (List Int)): ∀ y ∈ xs.map (T.ints 2),T.wide y=1:=by
 intro y hy
 obtain⟨x,_,rfl⟩:=List.mem_map.1 hy
 rfl
theorem c_toInt64SS (v:Value) (xs:List (List Int)) (w:World) (hs:smL (fun l:List Int=>l.length≤1048576) xs) (hr:T.rd w (T.sl 26 1 (xs.map (T.ints 2))) [v]):
  Calls Tryz.prog 69 #[v] w fun e w'=> ∃ u F,e= .returned u∧Nv w w' (T.sl 26 1 (xs.map (T.ints 2))) F u:=by
 obtain⟨A,cap,rfl,hl,hc,hx⟩:=T.yO hr
 rw[List.length_map] at hl ⊢
 have HX:=hide hx;clear hx hr
 have HS:=hide hs.2;have hn:=hs.1;clear hs
 obtain⟨i0,hi,hz0,hz1,hz2⟩:=info_parts wU
 go_enter Tryz.func69,Tryz.ntmps69
 go_wp2_with (at_make;refine wpList_make_full _ rfl _ _ _ rfl w.heap.size 26 i0 _ 1 Tryz.underlying24 hi hz0 hz1 .i64 .i64 _ _ xs.length rfl rfl rfl rfl (by rw[hz2];omega) (by unfold maxLen;omega) (Nat.le_refl _) ?_;intro w1 hown1 hg1)
 have HF:=hide (Fil.born hown1 hg1);clear hown1 hg1
 go_loopw [4] (fun iv wr=> ∃ (k:Nat) (G:List Nat) (c1 c2:List Value),k≤xs.length∧iv= .int .i64 (k:Int)∧Fil w wr 26 1 xs.length ((xs.take k).map (T.ints 2)) G c1 c2) (fun iv _=>xs.length - (intOf iv).toNat)
 case atStart=>exact⟨0,[],[],_,Nat.zero_le _,rfl,HF.out⟩
 case round=>
  obtain⟨k,G,c1,c2,hk,rfl,hf⟩:=hrel
  have hwk:=wide_Int64SS (xs.take k)
  have hc1:=hf.len hwk
  have hre:=hf.rest hwk
  rw[List.length_map,List.length_take,Nat.min_eq_left hk] at hc1 hre
  have HB:=hide hf.below
  by_cases hlt:k<xs.length
  ·obtain⟨zs,c2,rfl,hz⟩:=cut_len (show 1≤c2.length by omega)
   obtain⟨z0,rfl⟩:=len1 hz
   have HF:=hide hf;clear hf hz
   have hgk:=gE hlt
   obtain⟨b,off,cs,rfl,hbw,hcs,hcell⟩:=HX.out k (T.ints 2 xs[k]) (by rw[List.getElem?_map,hgk];rfl)
   obtain⟨v3,rfl⟩:=T.rd_one hcs
   have d0:=(HB.out.cell hbw).trans (hcell 0 v3 rfl)
   rw[Nat.mul_one,Nat.add_zero] at d0
   have hsx:=HS.out _ (List.getElem_mem hlt)
   have R3:=hide (T.yF hcs HB.out)
   generalize xs[k]=x at *
   have HGK:=hide hgk;clear hgk hcs hcell
   go_wp2_with (go_at_call 59;refine(c_toI _ x _ hsx R3.out).mono ?_;rintro e w3 ⟨u0,F0,rfl,hnv⟩;obtain⟨ua0,ul0,uc0,rfl⟩:=T.yX hnv.ow;have HF3:=hide (HF.out.call hnv.below);have HN:=hide hnv;have q0:=vJ HF3.out.own (j:=0) rfl;rw[hc1,show k * 1+0=k by omega] at q0;have f0:=yU HF3.out.own (k);clear hnv)
   go_roundw
   case rel=>
    have h:=HF3.out.step (us:= [(.slice ua0 ul0 uc0)]) rfl HF.out.up HN.out.ow HN.out.nodup HN.out.lo HF.out.lt
    rw[hc1] at h
    rw[show ((xs.take k).map (T.ints 2)++ [(T.ints 2) x])=(xs.take (k+1)).map (T.ints 2) by rw[xQ HGK.out];simp] at h
    simp only[setsW,Nat.add_assoc,Nat.reduceAdd,Nat.mul_one] at h
    exact⟨k+1,_,_,_,by omega,by go_num,h⟩
   case measure=>simp[intOf];omega
  ·obtain rfl:k=xs.length:=by omega
   obtain rfl:c2= []:=List.eq_nil_of_length_eq_zero (by omega)
   have HF:=hide hf;clear hf
   go_wp2
   go_ret
   have h:=HF.out.done hwk (by simp)
   rw[List.take_length] at h
   exact⟨_,_,rfl,h⟩
theorem c_toClip (x:xL) (w:World):
  Calls Tryz.prog 248 #[.agg #[.int .i64 x.zU,.int .i64 x.zH,.int .i64 x.zF,.int .i64 x.zX,.int .i64 x.zS]] w fun e w'=>e= .returned (.agg #[.int .i64 x.zU,.int .i64 x.zH,.int .i64 x.zF,.int .i64 x.zX,.int .i64 x.zS])∧Below w.heap.size w w':=by
 go_enter Tryz.func248,Tryz.ntmps248
 go_wp2
 refine bodyPost_ret (v:= .agg #[.int .i64 x.zU,.int .i64 x.zH,.int .i64 x.zF,.int .i64 x.zX,.int .i64 x.zS]) (by simp[results,Tryz.results248,go_sem]) rfl ?_
 exact⟨rfl,ba⟩
theorem info_ClipS:(Tryz.prog.info? 39).map (fun i=>(i.zero,i.size,i.bytes))=some (some (.agg #[.int .i64 0,.int .i64 0,.int .i64 0,.int .i64 0,.int .i64 0]),5,40):=by kernel_rfl
theorem wide_ClipS (xs:List xL): ∀ y ∈ xs.map xL.t,T.wide y=5:=by
 intro y hy
 obtain⟨x,_,rfl⟩:=List.mem_map.1 hy
 exact xL.wide_t x
theorem c_toClipS (v:Value) (xs:List xL) (w:World) (hs:xs.length≤1048576) (hr:T.rd w (T.sl 39 5 (xs.map xL.t)) [v]):
  Calls Tryz.prog 202 #[v] w fun e w'=> ∃ u F,e= .returned u∧Nv w w' (T.sl 39 5 (xs.map xL.t)) F u:=by
 obtain⟨A,cap,rfl,hl,hc,hx⟩:=T.yO hr
 rw[List.length_map] at hl ⊢
 have HX:=hide hx;clear hx hr
 have hn:xs.length≤1048576:=hs
 clear hs
 obtain⟨i0,hi,hz0,hz1,hz2⟩:=info_parts info_ClipS
 go_enter Tryz.func202,Tryz.ntmps202
 go_wp2_with (at_make;refine wpList_make_full _ rfl _ _ _ rfl w.heap.size 39 i0 _ 5 Tryz.underlying94 hi hz0 hz1 .i64 .i64 _ _ xs.length rfl rfl rfl rfl (by rw[hz2];omega) (by unfold maxLen;omega) (Nat.le_refl _) ?_;intro w1 hown1 hg1)
 have HF:=hide (Fil.born hown1 hg1);clear hown1 hg1
 go_loopw [4] (fun iv wr=> ∃ (k:Nat) (G:List Nat) (c1 c2:List Value),k≤xs.length∧iv= .int .i64 (k:Int)∧Fil w wr 39 5 xs.length ((xs.take k).map xL.t) G c1 c2) (fun iv _=>xs.length - (intOf iv).toNat)
 case atStart=>exact⟨0,[],[],_,Nat.zero_le _,rfl,HF.out⟩
 case round=>
  obtain⟨k,G,c1,c2,hk,rfl,hf⟩:=hrel
  have hwk:=wide_ClipS (xs.take k)
  have hc1:=hf.len hwk
  have hre:=hf.rest hwk
  rw[List.length_map,List.length_take,Nat.min_eq_left hk] at hc1 hre
  have HB:=hide hf.below
  by_cases hlt:k<xs.length
  ·obtain⟨zs,c2,rfl,hz⟩:=cut_len (show 5≤c2.length by omega)
   obtain⟨z0,z1,z2,z3,z4,rfl⟩:=len5 hz
   have HF:=hide hf;clear hf hz
   have hgk:=gE hlt
   obtain⟨b,off,cs,rfl,hbw,hcs,hcell⟩:=HX.out k (xL.t xs[k]) (by rw[List.getElem?_map,hgk];rfl)
   generalize xs[k]=x at *
   have HGK:=hide hgk;clear hgk
   obtain rfl:=xL.yO (show T.rds _ _ _ by simpa only[xL.t,T.rd] using hcs)
   have d0:=(HB.out.cell hbw).trans (hcell 0 (.int .i64 x.zU) rfl)
   have d1:=(HB.out.cell hbw).trans (hcell 1 (.int .i64 x.zH) rfl)
   have d2:=(HB.out.cell hbw).trans (hcell 2 (.int .i64 x.zF) rfl)
   have d3:=(HB.out.cell hbw).trans (hcell 3 (.int .i64 x.zX) rfl)
   have d4:=(HB.out.cell hbw).trans (hcell 4 (.int .i64 x.zS) rfl)
   rw[show off+(k * 5+0)=off+k * 5 by omega] at d0
   rw[show off+(k * 5+1)=off+k * 5+1 by omega] at d1
   rw[show off+(k * 5+2)=off+k * 5+2 by omega] at d2
   rw[show off+(k * 5+3)=off+k * 5+3 by omega] at d3
   rw[show off+(k * 5+4)=off+k * 5+4 by omega] at d4
   clear hcs hcell
   go_wp2_with (go_at_call 248;refine(c_toClip x _).mono ?_;rintro e w3 ⟨rfl,hb3⟩;have HF3:=hide (HF.out.call hb3);have q0:=vJ HF3.out.own (j:=0) rfl;rw[hc1,show k * 5+0=k * 5 by omega] at q0;have f0:=yU HF3.out.own (k * 5);have q1:=vJ HF3.out.own (j:=1) rfl;rw[hc1,show k * 5+1=k * 5+1 by omega] at q1;have f1:=yU HF3.out.own (k * 5+1);have q2:=vJ HF3.out.own (j:=2) rfl;rw[hc1,show k * 5+2=k * 5+2 by omega] at q2;have f2:=yU HF3.out.own (k * 5+2);have q3:=vJ HF3.out.own (j:=3) rfl;rw[hc1,show k * 5+3=k * 5+3 by omega] at q3;have f3:=yU HF3.out.own (k * 5+3);have q4:=vJ HF3.out.own (j:=4) rfl;rw[hc1,show k * 5+4=k * 5+4 by omega] at q4;have f4:=yU HF3.out.own (k * 5+4);clear hb3)
   go_roundw
   case rel=>
    have h:=HF3.out.step (us:= [.int .i64 x.zU,.int .i64 x.zH,.int .i64 x.zF,.int .i64 x.zX,.int .i64 x.zS]) (F:= []) rfl HF.out.up (show T.ow w3 x.t _ _ by simp only[xL.t,T.ow];exact xL.ow_mk) (by simp) (by simp) HF.out.lt
    rw[hc1] at h
    rw[show ((xs.take k).map xL.t++ [xL.t x])=(xs.take (k+1)).map xL.t by rw[xQ HGK.out];simp] at h
    simp only[setsW,Nat.add_assoc,Nat.reduceAdd,Nat.mul_one] at h
    exact⟨k+1,_,_,_,by omega,by go_num,h⟩
   case measure=>simp[intOf];omega
  ·obtain rfl:k=xs.length:=by omega
   obtain rfl:c2= []:=List.eq_nil_of_length_eq_zero (by omega)
   have HF:=hide hf;clear hf
   go_wp2
   go_ret
   have h:=HF.out.done hwk (by simp)
   rw[List.take_length] at h
   exact⟨_,_,rfl,h⟩
theorem c_toTrack (x:xI) (v0:Value) (w:World) (hs:x.small) (r0:T.rd w (T.sl 39 5 (x.zR.map xL.t)) [v0]):
  Calls Tryz.prog 137 #[.agg #[v0]] w fun e w'=> ∃ u0 F0,e= .returned (.agg #[u0])∧T.ow w' (T.sl 39 5 (x.zR.map xL.t)) F0 [u0]∧Sg w.heap.size w'.heap.size [F0]∧Below w.heap.size w w':=by
 have R0:=hide r0
 clear r0
 have HS:=hide hs;clear hs
 go_enter Tryz.func137,Tryz.ntmps137
 go_wp2_with fail
 refine(c_toClipS _ x.zR _ (HS.out) (T.yF R0.out ((((Below.refl _ _).alloc (Nat.le_refl _) _).alloc so _).alloc so _))).mono ?_;rintro e w1 ⟨u0,F0,rfl,hnv⟩
 have hb:=hnv.below;have ho0:=hnv.ow;have hsg:=hnv.sg;clear hnv
 obtain⟨ua0,ul0,uc0,rfl⟩:=T.yX ho0
 have HK01:=hide ((((Bk.born w 185 #[v0]).alloc _).alloc _).below hb so)
 have HK11:=hide (((Bk.born1' w _ 96 #[.slice none 0 0]).alloc _).below hb so)
 have HK21:=hide ((Bk.born2 w _ _ 96 #[.slice none 0 0]).below hb so)
 have HB1:=hide (yJ ((((Below.refl _ _).alloc (Nat.le_refl _) _).alloc so _).alloc so _) so hb)
 have sg1:Sg (w.heap.size+3) w1.heap.size [F0]:=by simpa[World.setCell] using hsg
 have SG1:=hide (show Sg (w.heap.size+3) w1.heap.size [F0] from sg1)
 have L0:Sec (∀ b ∈ F0,w.heap.size+3≤b):=hide (fun b hb=>by have:=(sg1.all.2 b (by simp[hb])).1;omega)
 have O01:=hide ho0
 clear hb hsg sg1 ho0
 have k01:=HK01.out.cell;have k11:=HK11.out.cell;have f11:=HK11.out.free;have k21:=HK21.out.cell;have f21:=HK21.out.free
 go_wp2
 refine bodyPost_ret (v:= .agg #[(.slice ua0 ul0 uc0)]) (by simp[results,Tryz.results137,go_sem,k01,k11,f11,k21,f21]) rfl ?_
 have hB:=HB1.out
 have hSz:=hB.size
 have hSg:=SG1.out.more (a':=w.heap.size) (by omega)
 exact⟨_,F0,rfl,(by repeat(first|with_reducible exact O01.out|refine T.ow_far ?_ (nf L0.out so) _ _)),(by simpa[World.setCell] using hSg),ba⟩
theorem info_TrackS:(Tryz.prog.info? 96).map (fun i=>(i.zero,i.size,i.bytes))=some (some (.agg #[.slice none 0 0]),1,24):=by kernel_rfl
theorem wide_TrackS (xs:List xI): ∀ y ∈ xs.map xI.t,T.wide y=1:=by
 intro y hy
 obtain⟨x,_,rfl⟩:=List.mem_map.1 hy
 exact xI.wide_t x
theorem c_toTrackS (v:Value) (xs:List xI) (w:World) (hs:smL xI.small xs) (hr:T.rd w (T.sl 96 1 (xs.map xI.t)) [v]):
  Calls Tryz.prog 70 #[v] w fun e w'=> ∃ u F,e= .returned u∧Nv w w' (T.sl 96 1 (xs.map xI.t)) F u:=by
 obtain⟨A,cap,rfl,hl,hc,hx⟩:=T.yO hr
 rw[List.length_map] at hl ⊢
 have HX:=hide hx;clear hx hr
 have HS:=hide hs.2;have hn:=hs.1;clear hs
 obtain⟨i0,hi,hz0,hz1,hz2⟩:=info_parts info_TrackS
 go_enter Tryz.func70,Tryz.ntmps70
 go_wp2_with (at_make;refine wpList_make_full _ rfl _ _ _ rfl w.heap.size 96 i0 _ 1 Tryz.underlying25 hi hz0 hz1 .i64 .i64 _ _ xs.length rfl rfl rfl rfl (by rw[hz2];omega) (by unfold maxLen;omega) (Nat.le_refl _) ?_;intro w1 hown1 hg1)
 have HF:=hide (Fil.born hown1 hg1);clear hown1 hg1
 go_loopw [4] (fun iv wr=> ∃ (k:Nat) (G:List Nat) (c1 c2:List Value),k≤xs.length∧iv= .int .i64 (k:Int)∧Fil w wr 96 1 xs.length ((xs.take k).map xI.t) G c1 c2) (fun iv _=>xs.length - (intOf iv).toNat)
 case atStart=>exact⟨0,[],[],_,Nat.zero_le _,rfl,HF.out⟩
 case round=>
  obtain⟨k,G,c1,c2,hk,rfl,hf⟩:=hrel
  have hwk:=wide_TrackS (xs.take k)
  have hc1:=hf.len hwk
  have hre:=hf.rest hwk
  rw[List.length_map,List.length_take,Nat.min_eq_left hk] at hc1 hre
  have HB:=hide hf.below
  by_cases hlt:k<xs.length
  ·obtain⟨zs,c2,rfl,hz⟩:=cut_len (show 1≤c2.length by omega)
   obtain⟨z0,rfl⟩:=len1 hz
   have HF:=hide hf;clear hf hz
   have hgk:=gE hlt
   obtain⟨b,off,cs,rfl,hbw,hcs,hcell⟩:=HX.out k (xI.t xs[k]) (by rw[List.getElem?_map,hgk];rfl)
   have hsx:=HS.out _ (List.getElem_mem hlt)
   generalize xs[k]=x at *
   have HGK:=hide hgk;clear hgk
   obtain⟨v0,rfl,hR0⟩:=xI.yO (show T.rds _ _ _ by simpa only[xI.t,T.rd] using hcs)
   have d0:=(HB.out.cell hbw).trans (hcell 0 (v0) rfl)
   rw[show off+(k * 1+0)=off+k by omega] at d0
   have R0:=hide (T.yF hR0 HB.out);clear hR0
   clear hcs hcell
   go_wp2_with (go_at_call 137;refine(c_toTrack x v0 _ hsx R0.out).mono ?_;rintro e w3 ⟨u0,F0,rfl,o0,hsg,hb3⟩;obtain⟨ua0,ul0,uc0,rfl⟩:=T.yX o0;have HF3:=hide (HF.out.call hb3);have q0:=vJ HF3.out.own (j:=0) rfl;rw[hc1,show k * 1+0=k by omega] at q0;have f0:=yU HF3.out.own (k);have SG:=hide hsg;clear hsg hb3)
   go_roundw
   case rel=>
    have h:=HF3.out.step (us:= [(.slice ua0 ul0 uc0)]) rfl HF.out.up (show T.ow w3 x.t _ _ by simp only[xI.t,T.ow];exact xI.ow_mk o0) SG.out.all.1 (fun b hb=>(SG.out.all.2 b hb).1) HF.out.lt
    rw[hc1] at h
    rw[show ((xs.take k).map xI.t++ [xI.t x])=(xs.take (k+1)).map xI.t by rw[xQ HGK.out];simp] at h
    simp only[setsW,Nat.add_assoc,Nat.reduceAdd,Nat.mul_one] at h
    exact⟨k+1,_,_,_,by omega,by go_num,h⟩
   case measure=>simp[intOf];omega
  ·obtain rfl:k=xs.length:=by omega
   obtain rfl:c2= []:=List.eq_nil_of_length_eq_zero (by omega)
   have HF:=hide hf;clear hf
   go_wp2
   go_ret
   have h:=HF.out.done hwk (by simp)
   rw[List.take_length] at h
   exact⟨_,_,rfl,h⟩
theorem c_toNode (x:xJ) (v3:Value) (w:World) (hs:x.small) (r3:T.rd w (T.ints 2 x.zH) [v3]):
  Calls Tryz.prog 249 #[.agg #[.int .i64 x.zD,.int .i64 x.fA,.int .i64 x.fB,v3]] w fun e w'=> ∃ u3 F3,e= .returned (.agg #[.int .i64 x.zD,.int .i64 x.fA,.int .i64 x.fB,u3])∧T.ow w' (T.ints 2 x.zH) F3 [u3]∧Sg w.heap.size w'.heap.size [F3]∧Below w.heap.size w w':=by
 have R3:=hide r3
 clear r3
 have HS:=hide hs;clear hs
 go_enter Tryz.func249,Tryz.ntmps249
 go_wp2_with fail
 refine(c_toI _ x.zH _ (HS.out) (T.yF R3.out ((((Below.refl _ _).alloc (Nat.le_refl _) _).alloc so _).alloc so _))).mono ?_;rintro e w1 ⟨u3,F3,rfl,hnv⟩
 have hb:=hnv.below;have ho3:=hnv.ow;have hsg:=hnv.sg;clear hnv
 obtain⟨ua3,ul3,uc3,rfl⟩:=T.yX ho3
 have HK01:=hide ((((Bk.born w 279 #[.int .i64 x.zD,.int .i64 x.fA,.int .i64 x.fB,v3]).alloc _).alloc _).below hb so)
 have HK11:=hide (((Bk.born1' w _ 167 #[.int .i64 0,.int .i64 0,.int .i64 0,.slice none 0 0]).alloc _).below hb so)
 have HK21:=hide ((Bk.born2 w _ _ 167 #[.int .i64 x.zD,.int .i64 x.fA,.int .i64 x.fB,.slice none 0 0]).below hb so)
 have HB1:=hide (yJ ((((Below.refl _ _).alloc (Nat.le_refl _) _).alloc so _).alloc so _) so hb)
 have sg1:Sg (w.heap.size+3) w1.heap.size [F3]:=by simpa[World.setCell] using hsg
 have SG1:=hide (show Sg (w.heap.size+3) w1.heap.size [F3] from sg1)
 have L3:Sec (∀ b ∈ F3,w.heap.size+3≤b):=hide (fun b hb=>by have:=(sg1.all.2 b (by simp[hb])).1;omega)
 have O31:=hide ho3
 clear hb hsg sg1 ho3
 have k01:=HK01.out.cell;have k11:=HK11.out.cell;have f11:=HK11.out.free;have k21:=HK21.out.cell;have f21:=HK21.out.free
 go_wp2
 refine bodyPost_ret (v:= .agg #[.int .i64 x.zD,.int .i64 x.fA,.int .i64 x.fB,(.slice ua3 ul3 uc3)]) (by simp[results,Tryz.results249,go_sem,k01,k11,f11,k21,f21]) rfl ?_
 have hB:=HB1.out
 have hSz:=hB.size
 have hSg:=SG1.out.more (a':=w.heap.size) (by omega)
 exact⟨_,F3,rfl,(by repeat(first|with_reducible exact O31.out|refine T.ow_far ?_ (nf L3.out so) _ _)),(by simpa[World.setCell] using hSg),ba⟩
theorem info_NodeS:(Tryz.prog.info? 167).map (fun i=>(i.zero,i.size,i.bytes))=some (some (.agg #[.int .i64 0,.int .i64 0,.int .i64 0,.slice none 0 0]),4,48):=by kernel_rfl
theorem wide_NodeS (xs:List xJ): ∀ y ∈ xs.map xJ.t,T.wide y=4:=by
 intro y hy
 obtain⟨x,_,rfl⟩:=List.mem_map.1 hy
 exact xJ.wide_t x
theorem c_toNodeS (v:Value) (xs:List xJ) (w:World) (hs:smL xJ.small xs) (hr:T.rd w (T.sl 167 4 (xs.map xJ.t)) [v]):
  Calls Tryz.prog 203 #[v] w fun e w'=> ∃ u F,e= .returned u∧Nv w w' (T.sl 167 4 (xs.map xJ.t)) F u:=by
 obtain⟨A,cap,rfl,hl,hc,hx⟩:=T.yO hr
 rw[List.length_map] at hl ⊢
 have HX:=hide hx;clear hx hr
 have HS:=hide hs.2;have hn:=hs.1;clear hs
 obtain⟨i0,hi,hz0,hz1,hz2⟩:=info_parts info_NodeS
 go_enter Tryz.func203,Tryz.ntmps203
 go_wp2_with (at_make;refine wpList_make_full _ rfl _ _ _ rfl w.heap.size 167 i0 _ 4 Tryz.underlying106 hi hz0 hz1 .i64 .i64 _ _ xs.length rfl rfl rfl rfl (by rw[hz2];omega) (by unfold maxLen;omega) (Nat.le_refl _) ?_;intro w1 hown1 hg1)
 have HF:=hide (Fil.born hown1 hg1);clear hown1 hg1
 go_loopw [4] (fun iv wr=> ∃ (k:Nat) (G:List Nat) (c1 c2:List Value),k≤xs.length∧iv= .int .i64 (k:Int)∧Fil w wr 167 4 xs.length ((xs.take k).map xJ.t) G c1 c2) (fun iv _=>xs.length - (intOf iv).toNat)
 case atStart=>exact⟨0,[],[],_,Nat.zero_le _,rfl,HF.out⟩
 case round=>
  obtain⟨k,G,c1,c2,hk,rfl,hf⟩:=hrel
  have hwk:=wide_NodeS (xs.take k)
  have hc1:=hf.len hwk
  have hre:=hf.rest hwk
  rw[List.length_map,List.length_take,Nat.min_eq_left hk] at hc1 hre
  have HB:=hide hf.below
  by_cases hlt:k<xs.length
  ·obtain⟨zs,c2,rfl,hz⟩:=cut_len (show 4≤c2.length by omega)
   obtain⟨z0,z1,z2,z3,rfl⟩:=len4 hz
   have HF:=hide hf;clear hf hz
   have hgk:=gE hlt
   obtain⟨b,off,cs,rfl,hbw,hcs,hcell⟩:=HX.out k (xJ.t xs[k]) (by rw[List.getElem?_map,hgk];rfl)
   have hsx:=HS.out _ (List.getElem_mem hlt)
   generalize xs[k]=x at *
   have HGK:=hide hgk;clear hgk
   obtain⟨v3,rfl,hR3⟩:=xJ.yO (show T.rds _ _ _ by simpa only[xJ.t,T.rd] using hcs)
   have d0:=(HB.out.cell hbw).trans (hcell 0 (.int .i64 x.zD) rfl)
   have d1:=(HB.out.cell hbw).trans (hcell 1 (.int .i64 x.fA) rfl)
   have d2:=(HB.out.cell hbw).trans (hcell 2 (.int .i64 x.fB) rfl)
   have d3:=(HB.out.cell hbw).trans (hcell 3 (v3) rfl)
   rw[show off+(k * 4+0)=off+k * 4 by omega] at d0
   rw[show off+(k * 4+1)=off+k * 4+1 by omega] at d1
   rw[show off+(k * 4+2)=off+k * 4+2 by omega] at d2
   rw[show off+(k * 4+3)=off+k * 4+3 by omega] at d3
   have R3:=hide (T.yF hR3 HB.out);clear hR3
   clear hcs hcell
   go_wp2_with (go_at_call 249;refine(c_toNode x v3 _ hsx R3.out).mono ?_;rintro e w3 ⟨u3,F3,rfl,o3,hsg,hb3⟩;obtain⟨ua3,ul3,uc3,rfl⟩:=T.yX o3;have HF3:=hide (HF.out.call hb3);have q0:=vJ HF3.out.own (j:=0) rfl;rw[hc1,show k * 4+0=k * 4 by omega] at q0;have f0:=yU HF3.out.own (k * 4);have q1:=vJ HF3.out.own (j:=1) rfl;rw[hc1,show k * 4+1=k * 4+1 by omega] at q1;have f1:=yU HF3.out.own (k * 4+1);have q2:=vJ HF3.out.own (j:=2) rfl;rw[hc1,show k * 4+2=k * 4+2 by omega] at q2;have f2:=yU HF3.out.own (k * 4+2);have q3:=vJ HF3.out.own (j:=3) rfl;rw[hc1,show k * 4+3=k * 4+3 by omega] at q3;have f3:=yU HF3.out.own (k * 4+3);have SG:=hide hsg;clear hsg hb3)
   go_roundw
   case rel=>
    have h:=HF3.out.step (us:= [.int .i64 x.zD,.int .i64 x.fA,.int .i64 x.fB,(.slice ua3 ul3 uc3)]) rfl HF.out.up (show T.ow w3 x.t _ _ by simp only[xJ.t,T.ow];exact xJ.ow_mk o3) SG.out.all.1 (fun b hb=>(SG.out.all.2 b hb).1) HF.out.lt
    rw[hc1] at h
    rw[show ((xs.take k).map xJ.t++ [xJ.t x])=(xs.take (k+1)).map xJ.t by rw[xQ HGK.out];simp] at h
    simp only[setsW,Nat.add_assoc,Nat.reduceAdd,Nat.mul_one] at h
    exact⟨k+1,_,_,_,by omega,by go_num,h⟩
   case measure=>simp[intOf];omega
  ·obtain rfl:k=xs.length:=by omega
   obtain rfl:c2= []:=List.eq_nil_of_length_eq_zero (by omega)
   have HF:=hide hf;clear hf
   go_wp2
   go_ret
   have h:=HF.out.done hwk (by simp)
   rw[List.take_length] at h
   exact⟨_,_,rfl,h⟩
theorem c_toPatch (x:xG) (v1:Value) (v2:Value) (v3:Value) (w:World) (hs:x.small) (r1:T.rd w (T.sl 26 1 (x.zN.map (T.ints 2))) [v1]) (r2:T.rd w (T.sl 167 4 (x.zB.map xJ.t)) [v2]) (r3:T.rd w (T.ints 2 x.zK) [v3]):
  Calls Tryz.prog 138 #[.agg #[.int .i64 x.zJ,v1,v2,v3]] w fun e w'=> ∃ u1 F1,∃ u2 F2,∃ u3 F3,e= .returned (.agg #[.int .i64 x.zJ,u1,u2,u3])∧T.ow w' (T.sl 26 1 (x.zN.map (T.ints 2))) F1 [u1]∧T.ow w' (T.sl 167 4 (x.zB.map xJ.t)) F2 [u2]∧T.ow w' (T.ints 2 x.zK) F3 [u3]∧Sg w.heap.size w'.heap.size [F1,F2,F3]∧Below w.heap.size w w':=by
 have R1:=hide r1
 have R2:=hide r2
 have R3:=hide r3
 clear r1 r2 r3
 have HS:=hide hs;clear hs
 go_enter Tryz.func138,Tryz.ntmps138
 go_wp2_with fail
 refine(c_toInt64SS _ x.zN _ (HS.out.1) (T.yF R1.out ((((Below.refl _ _).alloc (Nat.le_refl _) _).alloc so _).alloc so _))).mono ?_;rintro e w1 ⟨u1,F1,rfl,hnv⟩
 have hb:=hnv.below;have ho1:=hnv.ow;have hsg:=hnv.sg;clear hnv
 obtain⟨ua1,ul1,uc1,rfl⟩:=T.yX ho1
 have HK01:=hide ((((Bk.born w 189 #[.int .i64 x.zJ,v1,v2,v3]).alloc _).alloc _).below hb so)
 have HK11:=hide (((Bk.born1' w _ 108 #[.int .i64 0,.slice none 0 0,.slice none 0 0,.slice none 0 0]).alloc _).below hb so)
 have HK21:=hide ((Bk.born2 w _ _ 108 #[.int .i64 x.zJ,.slice none 0 0,.slice none 0 0,.slice none 0 0]).below hb so)
 have HB1:=hide (yJ ((((Below.refl _ _).alloc (Nat.le_refl _) _).alloc so _).alloc so _) so hb)
 have sg1:Sg (w.heap.size+3) w1.heap.size [F1]:=by simpa[World.setCell] using hsg
 have SG1:=hide (show Sg (w.heap.size+3) w1.heap.size [F1] from sg1)
 have L1:Sec (∀ b ∈ F1,w.heap.size+3≤b):=hide (fun b hb=>by have:=(sg1.all.2 b (by simp[hb])).1;omega)
 have O11:=hide ho1
 clear hb hsg sg1 ho1
 have k01:=HK01.out.cell;have k11:=HK11.out.cell;have f11:=HK11.out.free;have k21:=HK21.out.cell;have f21:=HK21.out.free
 go_wp2_with fail
 refine(c_toNodeS _ x.zB _ (HS.out.2.1) (T.yF R2.out ((HB1.out).setCell so _))).mono ?_;rintro e w2 ⟨u2,F2,rfl,hnv⟩
 have hb:=hnv.below;have ho2:=hnv.ow;have hsg:=hnv.sg;clear hnv
 obtain⟨ua2,ul2,uc2,rfl⟩:=T.yX ho2
 have HK02:=hide (((HK01.out).far so _).below hb (by have:=HK21.out.lt;first|(simp[World.setCell];done)|(simp[World.setCell];omega)))
 have HK12:=hide (((HK11.out).far so _).below hb (by have:=HK21.out.lt;first|(simp[World.setCell];done)|(simp[World.setCell];omega)))
 have HK22:=hide ((show Bk _ (w.heap.size+2) 108 #[.int .i64 x.zJ,(.slice ua1 ul1 uc1),.slice none 0 0,.slice none 0 0] from(by simpa using(HK21.out).set_ 1 ((.slice ua1 ul1 uc1)))).below hb (by have:=HK21.out.lt;first|(simp[World.setCell];done)|(simp[World.setCell];omega)))
 have HB2:=hide (yJ ((HB1.out).setCell so _) (by have:=HB1.out.size;first|(simp[World.setCell];done)|(simp[World.setCell];omega)) hb)
 have ho1:=T.ow_all (show T.ow _ (T.sl 26 1 (x.zN.map (T.ints 2))) F1 [(.slice ua1 ul1 uc1)] from(by repeat(first|with_reducible exact O11.out|refine T.ow_far ?_ (nf L1.out so) _ _))) hb
 have sg2:Sg (w1.heap.size) w2.heap.size [F2]:=by simpa[World.setCell] using hsg
 have hle2:=SG1.out.le
 have SG2:=hide (show Sg (w.heap.size+3) w2.heap.size [F1,F2] from SG1.out.app sg2)
 have L2:Sec (∀ b ∈ F2,w.heap.size+3≤b):=hide (fun b hb=>by have:=(sg2.all.2 b (by simp[hb])).1;omega)
 have O12:=hide ho1
 have O22:=hide ho2
 clear hb hsg sg2 ho1 ho2
 have k02:=HK02.out.cell;have k12:=HK12.out.cell;have f12:=HK12.out.free;have k22:=HK22.out.cell;have f22:=HK22.out.free
 go_wp2_with fail
 refine(c_toI _ x.zK _ (HS.out.2.2) (T.yF R3.out ((HB2.out).setCell so _))).mono ?_;rintro e w3 ⟨u3,F3,rfl,hnv⟩
 have hb:=hnv.below;have ho3:=hnv.ow;have hsg:=hnv.sg;clear hnv
 obtain⟨ua3,ul3,uc3,rfl⟩:=T.yX ho3
 have HK03:=hide (((HK02.out).far so _).below hb (by have:=HK22.out.lt;first|(simp[World.setCell];done)|(simp[World.setCell];omega)))
 have HK13:=hide (((HK12.out).far so _).below hb (by have:=HK22.out.lt;first|(simp[World.setCell];done)|(simp[World.setCell];omega)))
 have HK23:=hide ((show Bk _ (w.heap.size+2) 108 #[.int .i64 x.zJ,(.slice ua1 ul1 uc1),(.slice ua2 ul2 uc2),.slice none 0 0] from(by simpa using(HK22.out).set_ 2 ((.slice ua2 ul2 uc2)))).below hb (by have:=HK22.out.lt;first|(simp[World.setCell];done)|(simp[World.setCell];omega)))
 have HB3:=hide (yJ ((HB2.out).setCell so _) (by have:=HB2.out.size;first|(simp[World.setCell];done)|(simp[World.setCell];omega)) hb)
 have ho1:=T.ow_all (show T.ow _ (T.sl 26 1 (x.zN.map (T.ints 2))) F1 [(.slice ua1 ul1 uc1)] from(by repeat(first|with_reducible exact O12.out|refine T.ow_far ?_ (nf L1.out so) _ _))) hb
 have ho2:=T.ow_all (show T.ow _ (T.sl 167 4 (x.zB.map xJ.t)) F2 [(.slice ua2 ul2 uc2)] from(by repeat(first|with_reducible exact O22.out|refine T.ow_far ?_ (nf L2.out so) _ _))) hb
 have sg3:Sg (w2.heap.size) w3.heap.size [F3]:=by simpa[World.setCell] using hsg
 have hle3:=SG2.out.le
 have SG3:=hide (show Sg (w.heap.size+3) w3.heap.size [F1,F2,F3] from SG2.out.app sg3)
 have L3:Sec (∀ b ∈ F3,w.heap.size+3≤b):=hide (fun b hb=>by have:=(sg3.all.2 b (by simp[hb])).1;omega)
 have O13:=hide ho1
 have O23:=hide ho2
 have O33:=hide ho3
 clear hb hsg sg3 ho1 ho2 ho3
 have k03:=HK03.out.cell;have k13:=HK13.out.cell;have f13:=HK13.out.free;have k23:=HK23.out.cell;have f23:=HK23.out.free
 go_wp2
 refine bodyPost_ret (v:= .agg #[.int .i64 x.zJ,(.slice ua1 ul1 uc1),(.slice ua2 ul2 uc2),(.slice ua3 ul3 uc3)]) (by simp[results,Tryz.results138,go_sem,k03,k13,f13,k23,f23]) rfl ?_
 have hB:=HB3.out
 have hSz:=hB.size
 have hSg:=SG3.out.more (a':=w.heap.size) (by omega)
 exact⟨_,F1,_,F2,_,F3,rfl,(by repeat(first|with_reducible exact O13.out|refine T.ow_far ?_ (nf L1.out so) _ _)),(by repeat(first|with_reducible exact O23.out|refine T.ow_far ?_ (nf L2.out so) _ _)),(by repeat(first|with_reducible exact O33.out|refine T.ow_far ?_ (nf L3.out so) _ _)),(by simpa[World.setCell] using hSg),ba⟩
theorem info_PatchS:(Tryz.prog.info? 108).map (fun i=>(i.zero,i.size,i.bytes))=some (some (.agg #[.int .i64 0,.slice none 0 0,.slice none 0 0,.slice none 0 0]),4,80):=by kernel_rfl
theorem wide_PatchS (xs:List xG): ∀ y ∈ xs.map xG.t,T.wide y=4:=by
 intro y hy
 obtain⟨x,_,rfl⟩:=List.mem_map.1 hy
 exact xG.wide_t x
theorem c_toPatchS (v:Value) (xs:List xG) (w:World) (hs:smL xG.small xs) (hr:T.rd w (T.sl 108 4 (xs.map xG.t)) [v]):
  Calls Tryz.prog 71 #[v] w fun e w'=> ∃ u F,e= .returned u∧Nv w w' (T.sl 108 4 (xs.map xG.t)) F u:=by
 obtain⟨A,cap,rfl,hl,hc,hx⟩:=T.yO hr
 rw[List.length_map] at hl ⊢
 have HX:=hide hx;clear hx hr
 have HS:=hide hs.2;have hn:=hs.1;clear hs
 obtain⟨i0,hi,hz0,hz1,hz2⟩:=info_parts info_PatchS
 go_enter Tryz.func71,Tryz.ntmps71
 go_wp2_with (at_make;refine wpList_make_full _ rfl _ _ _ rfl w.heap.size 108 i0 _ 4 Tryz.underlying27 hi hz0 hz1 .i64 .i64 _ _ xs.length rfl rfl rfl rfl (by rw[hz2];omega) (by unfold maxLen;omega) (Nat.le_refl _) ?_;intro w1 hown1 hg1)
 have HF:=hide (Fil.born hown1 hg1);clear hown1 hg1
 go_loopw [4] (fun iv wr=> ∃ (k:Nat) (G:List Nat) (c1 c2:List Value),k≤xs.length∧iv= .int .i64 (k:Int)∧Fil w wr 108 4 xs.length ((xs.take k).map xG.t) G c1 c2) (fun iv _=>xs.length - (intOf iv).toNat)
 case atStart=>exact⟨0,[],[],_,Nat.zero_le _,rfl,HF.out⟩
 case round=>
  obtain⟨k,G,c1,c2,hk,rfl,hf⟩:=hrel
  have hwk:=wide_PatchS (xs.take k)
  have hc1:=hf.len hwk
  have hre:=hf.rest hwk
  rw[List.length_map,List.length_take,Nat.min_eq_left hk] at hc1 hre
  have HB:=hide hf.below
  by_cases hlt:k<xs.length
  ·obtain⟨zs,c2,rfl,hz⟩:=cut_len (show 4≤c2.length by omega)
   obtain⟨z0,z1,z2,z3,rfl⟩:=len4 hz
   have HF:=hide hf;clear hf hz
   have hgk:=gE hlt
   obtain⟨b,off,cs,rfl,hbw,hcs,hcell⟩:=HX.out k (xG.t xs[k]) (by rw[List.getElem?_map,hgk];rfl)
   have hsx:=HS.out _ (List.getElem_mem hlt)
   generalize xs[k]=x at *
   have HGK:=hide hgk;clear hgk
   obtain⟨v1,v2,v3,rfl,hR1,hR2,hR3⟩:=xG.yO (show T.rds _ _ _ by simpa only[xG.t,T.rd] using hcs)
   have d0:=(HB.out.cell hbw).trans (hcell 0 (.int .i64 x.zJ) rfl)
   have d1:=(HB.out.cell hbw).trans (hcell 1 (v1) rfl)
   have d2:=(HB.out.cell hbw).trans (hcell 2 (v2) rfl)
   have d3:=(HB.out.cell hbw).trans (hcell 3 (v3) rfl)
   rw[show off+(k * 4+0)=off+k * 4 by omega] at d0
   rw[show off+(k * 4+1)=off+k * 4+1 by omega] at d1
   rw[show off+(k * 4+2)=off+k * 4+2 by omega] at d2
   rw[show off+(k * 4+3)=off+k * 4+3 by omega] at d3
   have R1:=hide (T.yF hR1 HB.out);clear hR1
   have R2:=hide (T.yF hR2 HB.out);clear hR2
   have R3:=hide (T.yF hR3 HB.out);clear hR3
   clear hcs hcell
   go_wp2_with (go_at_call 138;refine(c_toPatch x v1 v2 v3 _ hsx R1.out R2.out R3.out).mono ?_;rintro e w3 ⟨u1,F1,u2,F2,u3,F3,rfl,o1,o2,o3,hsg,hb3⟩;obtain⟨ua1,ul1,uc1,rfl⟩:=T.yX o1;obtain⟨ua2,ul2,uc2,rfl⟩:=T.yX o2;obtain⟨ua3,ul3,uc3,rfl⟩:=T.yX o3;have HF3:=hide (HF.out.call hb3);have q0:=vJ HF3.out.own (j:=0) rfl;rw[hc1,show k * 4+0=k * 4 by omega] at q0;have f0:=yU HF3.out.own (k * 4);have q1:=vJ HF3.out.own (j:=1) rfl;rw[hc1,show k * 4+1=k * 4+1 by omega] at q1;have f1:=yU HF3.out.own (k * 4+1);have q2:=vJ HF3.out.own (j:=2) rfl;rw[hc1,show k * 4+2=k * 4+2 by omega] at q2;have f2:=yU HF3.out.own (k * 4+2);have q3:=vJ HF3.out.own (j:=3) rfl;rw[hc1,show k * 4+3=k * 4+3 by omega] at q3;have f3:=yU HF3.out.own (k * 4+3);have SG:=hide hsg;clear hsg hb3)
   go_roundw
   case rel=>
    have h:=HF3.out.step (us:= [.int .i64 x.zJ,(.slice ua1 ul1 uc1),(.slice ua2 ul2 uc2),(.slice ua3 ul3 uc3)]) rfl HF.out.up (show T.ow w3 x.t _ _ by simp only[xG.t,T.ow];exact xG.ow_mk o1 o2 o3) SG.out.all.1 (fun b hb=>(SG.out.all.2 b hb).1) HF.out.lt
    rw[hc1] at h
    rw[show ((xs.take k).map xG.t++ [xG.t x])=(xs.take (k+1)).map xG.t by rw[xQ HGK.out];simp] at h
    simp only[setsW,Nat.add_assoc,Nat.reduceAdd,Nat.mul_one] at h
    exact⟨k+1,_,_,_,by omega,by go_num,h⟩
   case measure=>simp[intOf];omega
  ·obtain rfl:k=xs.length:=by omega
   obtain rfl:c2= []:=List.eq_nil_of_length_eq_zero (by omega)
   have HF:=hide hf;clear hf
   go_wp2
   go_ret
   have h:=HF.out.done hwk (by simp)
   rw[List.take_length] at h
   exact⟨_,_,rfl,h⟩
theorem c_toSend (x:xM) (w:World):
  Calls Tryz.prog 275 #[.agg #[.int .i64 x.zW,.int .i64 x.zS]] w fun e w'=>e= .returned (.agg #[.int .i64 x.zW,.int .i64 x.zS])∧Below w.heap.size w w':=by
 go_enter Tryz.func275,Tryz.ntmps275
 go_wp2
 refine bodyPost_ret (v:= .agg #[.int .i64 x.zW,.int .i64 x.zS]) (by simp[results,Tryz.results275,go_sem]) rfl ?_
 exact⟨rfl,ba⟩
theorem info_SendS:(Tryz.prog.info? 98).map (fun i=>(i.zero,i.size,i.bytes))=some (some (.agg #[.int .i64 0,.int .i64 0]),2,16):=by kernel_rfl
theorem wide_SendS (xs:List xM): ∀ y ∈ xs.map xM.t,T.wide y=2:=by
 intro y hy
 obtain⟨x,_,rfl⟩:=List.mem_map.1 hy
 exact xM.wide_t x
theorem c_toSendS (v:Value) (xs:List xM) (w:World) (hs:xs.length≤1048576) (hr:T.rd w (T.sl 98 2 (xs.map xM.t)) [v]):
  Calls Tryz.prog 250 #[v] w fun e w'=> ∃ u F,e= .returned u∧Nv w w' (T.sl 98 2 (xs.map xM.t)) F u:=by
 obtain⟨A,cap,rfl,hl,hc,hx⟩:=T.yO hr
 rw[List.length_map] at hl ⊢
 have HX:=hide hx;clear hx hr
 have hn:xs.length≤1048576:=hs
 clear hs
 obtain⟨i0,hi,hz0,hz1,hz2⟩:=info_parts info_SendS
 go_enter Tryz.func250,Tryz.ntmps250
 go_wp2_with (at_make;refine wpList_make_full _ rfl _ _ _ rfl w.heap.size 98 i0 _ 2 Tryz.underlying99 hi hz0 hz1 .i64 .i64 _ _ xs.length rfl rfl rfl rfl (by rw[hz2];omega) (by unfold maxLen;omega) (Nat.le_refl _) ?_;intro w1 hown1 hg1)
 have HF:=hide (Fil.born hown1 hg1);clear hown1 hg1
 go_loopw [4] (fun iv wr=> ∃ (k:Nat) (G:List Nat) (c1 c2:List Value),k≤xs.length∧iv= .int .i64 (k:Int)∧Fil w wr 98 2 xs.length ((xs.take k).map xM.t) G c1 c2) (fun iv _=>xs.length - (intOf iv).toNat)
 case atStart=>exact⟨0,[],[],_,Nat.zero_le _,rfl,HF.out⟩
 case round=>
  obtain⟨k,G,c1,c2,hk,rfl,hf⟩:=hrel
  have hwk:=wide_SendS (xs.take k)
  have hc1:=hf.len hwk
  have hre:=hf.rest hwk
  rw[List.length_map,List.length_take,Nat.min_eq_left hk] at hc1 hre
  have HB:=hide hf.below
  by_cases hlt:k<xs.length
  ·obtain⟨zs,c2,rfl,hz⟩:=cut_len (show 2≤c2.length by omega)
   obtain⟨z0,z1,rfl⟩:=len2 hz
   have HF:=hide hf;clear hf hz
   have hgk:=gE hlt
   obtain⟨b,off,cs,rfl,hbw,hcs,hcell⟩:=HX.out k (xM.t xs[k]) (by rw[List.getElem?_map,hgk];rfl)
   generalize xs[k]=x at *
   have HGK:=hide hgk;clear hgk
   obtain rfl:=xM.yO (show T.rds _ _ _ by simpa only[xM.t,T.rd] using hcs)
   have d0:=(HB.out.cell hbw).trans (hcell 0 (.int .i64 x.zW) rfl)
   have d1:=(HB.out.cell hbw).trans (hcell 1 (.int .i64 x.zS) rfl)
   rw[show off+(k * 2+0)=off+k * 2 by omega] at d0
   rw[show off+(k * 2+1)=off+k * 2+1 by omega] at d1
   clear hcs hcell
   go_wp2_with (go_at_call 275;refine(c_toSend x _).mono ?_;rintro e w3 ⟨rfl,hb3⟩;have HF3:=hide (HF.out.call hb3);have q0:=vJ HF3.out.own (j:=0) rfl;rw[hc1,show k * 2+0=k * 2 by omega] at q0;have f0:=yU HF3.out.own (k * 2);have q1:=vJ HF3.out.own (j:=1) rfl;rw[hc1,show k * 2+1=k * 2+1 by omega] at q1;have f1:=yU HF3.out.own (k * 2+1);clear hb3)
   go_roundw
   case rel=>
    have h:=HF3.out.step (us:= [.int .i64 x.zW,.int .i64 x.zS]) (F:= []) rfl HF.out.up (show T.ow w3 x.t _ _ by simp only[xM.t,T.ow];exact xM.ow_mk) (by simp) (by simp) HF.out.lt
    rw[hc1] at h
    rw[show ((xs.take k).map xM.t++ [xM.t x])=(xs.take (k+1)).map xM.t by rw[xQ HGK.out];simp] at h
    simp only[setsW,Nat.add_assoc,Nat.reduceAdd,Nat.mul_one] at h
    exact⟨k+1,_,_,_,by omega,by go_num,h⟩
   case measure=>simp[intOf];omega
  ·obtain rfl:k=xs.length:=by omega
   obtain rfl:c2= []:=List.eq_nil_of_length_eq_zero (by omega)
   have HF:=hide hf;clear hf
   go_wp2
   go_ret
   have h:=HF.out.done hwk (by simp)
   rw[List.take_length] at h
   exact⟨_,_,rfl,h⟩
theorem c_toStrip (x:xH) (v2:Value) (w:World) (hs:x.small) (r2:T.rd w (T.sl 98 2 (x.zM.map xM.t)) [v2]):
  Calls Tryz.prog 204 #[.agg #[.string x.zV,.int .i64 x.zI,v2]] w fun e w'=> ∃ u2 F2,e= .returned (.agg #[.string x.zV,.int .i64 x.zI,u2])∧T.ow w' (T.sl 98 2 (x.zM.map xM.t)) F2 [u2]∧Sg w.heap.size w'.heap.size [F2]∧Below w.heap.size w w':=by
 have R2:=hide r2
 clear r2
 have HS:=hide hs;clear hs
 go_enter Tryz.func204,Tryz.ntmps204
 go_wp2_with fail
 refine(c_toSendS _ x.zM _ (HS.out.2) (T.yF R2.out ((((Below.refl _ _).alloc (Nat.le_refl _) _).alloc so _).alloc so _))).mono ?_;rintro e w1 ⟨u2,F2,rfl,hnv⟩
 have hb:=hnv.below;have ho2:=hnv.ow;have hsg:=hnv.sg;clear hnv
 obtain⟨ua2,ul2,uc2,rfl⟩:=T.yX ho2
 have HK01:=hide ((((Bk.born w 243 #[.string x.zV,.int .i64 x.zI,v2]).alloc _).alloc _).below hb so)
 have HK11:=hide (((Bk.born1' w _ 101 #[.string ByteArray.empty,.int .i64 0,.slice none 0 0]).alloc _).below hb so)
 have HK21:=hide ((Bk.born2 w _ _ 101 #[.string x.zV,.int .i64 x.zI,.slice none 0 0]).below hb so)
 have HB1:=hide (yJ ((((Below.refl _ _).alloc (Nat.le_refl _) _).alloc so _).alloc so _) so hb)
 have sg1:Sg (w.heap.size+3) w1.heap.size [F2]:=by simpa[World.setCell] using hsg
 have SG1:=hide (show Sg (w.heap.size+3) w1.heap.size [F2] from sg1)
 have L2:Sec (∀ b ∈ F2,w.heap.size+3≤b):=hide (fun b hb=>by have:=(sg1.all.2 b (by simp[hb])).1;omega)
 have O21:=hide ho2
 clear hb hsg sg1 ho2
 have k01:=HK01.out.cell;have k11:=HK11.out.cell;have f11:=HK11.out.free;have k21:=HK21.out.cell;have f21:=HK21.out.free
 go_wp2
 refine bodyPost_ret (v:= .agg #[.string x.zV,.int .i64 x.zI,(.slice ua2 ul2 uc2)]) (by simp[results,Tryz.results204,go_sem,k01,k11,f11,k21,f21]) rfl ?_
 have hB:=HB1.out
 have hSz:=hB.size
 have hSg:=SG1.out.more (a':=w.heap.size) (by omega)
 exact⟨_,F2,rfl,(by repeat(first|with_reducible exact O21.out|refine T.ow_far ?_ (nf L2.out so) _ _)),(by simpa[World.setCell] using hSg),ba⟩
theorem info_StripS:(Tryz.prog.info? 101).map (fun i=>(i.zero,i.size,i.bytes))=some (some (.agg #[.string ByteArray.empty,.int .i64 0,.slice none 0 0]),3,48):=by kernel_rfl
theorem wide_StripS (xs:List xH): ∀ y ∈ xs.map xH.t,T.wide y=3:=by
 intro y hy
 obtain⟨x,_,rfl⟩:=List.mem_map.1 hy
 exact xH.wide_t x
theorem c_toStripS (v:Value) (xs:List xH) (w:World) (hs:smL xH.small xs) (hr:T.rd w (T.sl 101 3 (xs.map xH.t)) [v]):
  Calls Tryz.prog 139 #[v] w fun e w'=> ∃ u F,e= .returned u∧Nv w w' (T.sl 101 3 (xs.map xH.t)) F u:=by
 obtain⟨A,cap,rfl,hl,hc,hx⟩:=T.yO hr
 rw[List.length_map] at hl ⊢
 have HX:=hide hx;clear hx hr
 have HS:=hide hs.2;have hn:=hs.1;clear hs
 obtain⟨i0,hi,hz0,hz1,hz2⟩:=info_parts info_StripS
 go_enter Tryz.func139,Tryz.ntmps139
 go_wp2_with (at_make;refine wpList_make_full _ rfl _ _ _ rfl w.heap.size 101 i0 _ 3 Tryz.underlying28 hi hz0 hz1 .i64 .i64 _ _ xs.length rfl rfl rfl rfl (by rw[hz2];omega) (by unfold maxLen;omega) (Nat.le_refl _) ?_;intro w1 hown1 hg1)
 have HF:=hide (Fil.born hown1 hg1);clear hown1 hg1
 go_loopw [4] (fun iv wr=> ∃ (k:Nat) (G:List Nat) (c1 c2:List Value),k≤xs.length∧iv= .int .i64 (k:Int)∧Fil w wr 101 3 xs.length ((xs.take k).map xH.t) G c1 c2) (fun iv _=>xs.length - (intOf iv).toNat)
 case atStart=>exact⟨0,[],[],_,Nat.zero_le _,rfl,HF.out⟩
 case round=>
  obtain⟨k,G,c1,c2,hk,rfl,hf⟩:=hrel
  have hwk:=wide_StripS (xs.take k)
  have hc1:=hf.len hwk
  have hre:=hf.rest hwk
  rw[List.length_map,List.length_take,Nat.min_eq_left hk] at hc1 hre
  have HB:=hide hf.below
  by_cases hlt:k<xs.length
  ·obtain⟨zs,c2,rfl,hz⟩:=cut_len (show 3≤c2.length by omega)
   obtain⟨z0,z1,z2,rfl⟩:=len3 hz
   have HF:=hide hf;clear hf hz
   have hgk:=gE hlt
   obtain⟨b,off,cs,rfl,hbw,hcs,hcell⟩:=HX.out k (xH.t xs[k]) (by rw[List.getElem?_map,hgk];rfl)
   have hsx:=HS.out _ (List.getElem_mem hlt)
   generalize xs[k]=x at *
   have HGK:=hide hgk;clear hgk
   obtain⟨v2,rfl,hR2⟩:=xH.yO (show T.rds _ _ _ by simpa only[xH.t,T.rd] using hcs)
   have d0:=(HB.out.cell hbw).trans (hcell 0 (.string x.zV) rfl)
   have d1:=(HB.out.cell hbw).trans (hcell 1 (.int .i64 x.zI) rfl)
   have d2:=(HB.out.cell hbw).trans (hcell 2 (v2) rfl)
   rw[show off+(k * 3+0)=off+k * 3 by omega] at d0
   rw[show off+(k * 3+1)=off+k * 3+1 by omega] at d1
   rw[show off+(k * 3+2)=off+k * 3+2 by omega] at d2
   have R2:=hide (T.yF hR2 HB.out);clear hR2
   clear hcs hcell
   go_wp2_with (go_at_call 204;refine(c_toStrip x v2 _ hsx R2.out).mono ?_;rintro e w3 ⟨u2,F2,rfl,o2,hsg,hb3⟩;obtain⟨ua2,ul2,uc2,rfl⟩:=T.yX o2;have HF3:=hide (HF.out.call hb3);have q0:=vJ HF3.out.own (j:=0) rfl;rw[hc1,show k * 3+0=k * 3 by omega] at q0;have f0:=yU HF3.out.own (k * 3);have q1:=vJ HF3.out.own (j:=1) rfl;rw[hc1,show k * 3+1=k * 3+1 by omega] at q1;have f1:=yU HF3.out.own (k * 3+1);have q2:=vJ HF3.out.own (j:=2) rfl;rw[hc1,show k * 3+2=k * 3+2 by omega] at q2;have f2:=yU HF3.out.own (k * 3+2);have SG:=hide hsg;clear hsg hb3)
   go_roundw
   case rel=>
    have h:=HF3.out.step (us:= [.string x.zV,.int .i64 x.zI,(.slice ua2 ul2 uc2)]) rfl HF.out.up (show T.ow w3 x.t _ _ by simp only[xH.t,T.ow];exact xH.ow_mk o2) SG.out.all.1 (fun b hb=>(SG.out.all.2 b hb).1) HF.out.lt
    rw[hc1] at h
    rw[show ((xs.take k).map xH.t++ [xH.t x])=(xs.take (k+1)).map xH.t by rw[xQ HGK.out];simp] at h
    simp only[setsW,Nat.add_assoc,Nat.reduceAdd,Nat.mul_one] at h
    exact⟨k+1,_,_,_,by omega,by go_num,h⟩
   case measure=>simp[intOf];omega
  ·obtain rfl:k=xs.length:=by omega
   obtain rfl:c2= []:=List.eq_nil_of_length_eq_zero (by omega)
   have HF:=hide hf;clear hf
   go_wp2
   go_ret
   have h:=HF.out.done hwk (by simp)
   rw[List.take_length] at h
   exact⟨_,_,rfl,h⟩
theorem c_toMixer (x:xU) (v0:Value) (w:World) (hs:x.small) (r0:T.rd w (T.sl 101 3 (x.zC.map xH.t)) [v0]):
  Calls Tryz.prog 72 #[.agg #[v0]] w fun e w'=> ∃ u0 F0,e= .returned (.agg #[u0])∧T.ow w' (T.sl 101 3 (x.zC.map xH.t)) F0 [u0]∧Sg w.heap.size w'.heap.size [F0]∧Below w.heap.size w w':=by
 have R0:=hide r0
 clear r0
 have HS:=hide hs;clear hs
 go_enter Tryz.func72,Tryz.ntmps72
 go_wp2_with fail
 refine(c_toStripS _ x.zC _ (HS.out) (T.yF R0.out ((((Below.refl _ _).alloc (Nat.le_refl _) _).alloc so _).alloc so _))).mono ?_;rintro e w1 ⟨u0,F0,rfl,hnv⟩
 have hb:=hnv.below;have ho0:=hnv.ow;have hsg:=hnv.sg;clear hnv
 obtain⟨ua0,ul0,uc0,rfl⟩:=T.yX ho0
 have HK01:=hide ((((Bk.born w 57 #[v0]).alloc _).alloc _).below hb so)
 have HK11:=hide (((Bk.born1' w _ 30 #[.slice none 0 0]).alloc _).below hb so)
 have HK21:=hide ((Bk.born2 w _ _ 30 #[.slice none 0 0]).below hb so)
 have HB1:=hide (yJ ((((Below.refl _ _).alloc (Nat.le_refl _) _).alloc so _).alloc so _) so hb)
 have sg1:Sg (w.heap.size+3) w1.heap.size [F0]:=by simpa[World.setCell] using hsg
 have SG1:=hide (show Sg (w.heap.size+3) w1.heap.size [F0] from sg1)
 have L0:Sec (∀ b ∈ F0,w.heap.size+3≤b):=hide (fun b hb=>by have:=(sg1.all.2 b (by simp[hb])).1;omega)
 have O01:=hide ho0
 clear hb hsg sg1 ho0
 have k01:=HK01.out.cell;have k11:=HK11.out.cell;have f11:=HK11.out.free;have k21:=HK21.out.cell;have f21:=HK21.out.free
 go_wp2
 refine bodyPost_ret (v:= .agg #[(.slice ua0 ul0 uc0)]) (by simp[results,Tryz.results72,go_sem,k01,k11,f11,k21,f21]) rfl ?_
 have hB:=HB1.out
 have hSz:=hB.size
 have hSg:=SG1.out.more (a':=w.heap.size) (by omega)
 exact⟨_,F0,rfl,(by repeat(first|with_reducible exact O01.out|refine T.ow_far ?_ (nf L0.out so) _ _)),(by simpa[World.setCell] using hSg),ba⟩
theorem c_toSession (x:xK) (v1:Value) (v2:Value) (v3:Value) (v4:Value) (v5:Value) (w:World) (hs:x.small) (r1:T.rd w (T.sl 26 1 (x.zL.map (T.ints 2))) [v1]) (r2:T.rd w (T.sl 96 1 (x.zO.map xI.t)) [v2]) (r3:T.rd w (T.ints 2 x.zQ) [v3]) (r4:T.rd w (T.sl 108 4 (x.zP.map xG.t)) [v4]) (r5:T.rd w (T.sl 101 3 (x.zG.zC.map xH.t)) [v5]):
  Calls Tryz.prog 26 #[.agg #[.int .i64 x.zF,v1,v2,v3,v4,v5]] w fun e w'=> ∃ u1 F1,∃ u2 F2,∃ u3 F3,∃ u4 F4,∃ u5 F5,e= .returned (.agg #[.int .i64 x.zF,u1,u2,u3,u4,u5])∧T.ow w' (T.sl 26 1 (x.zL.map (T.ints 2))) F1 [u1]∧T.ow w' (T.sl 96 1 (x.zO.map xI.t)) F2 [u2]∧T.ow w' (T.ints 2 x.zQ) F3 [u3]∧T.ow w' (T.sl 108 4 (x.zP.map xG.t)) F4 [u4]∧T.ow w' (T.sl 101 3 (x.zG.zC.map xH.t)) F5 [u5]∧Sg w.heap.size w'.heap.size [F1,F2,F3,F4,F5]∧Below w.heap.size w w':=by
 have R1:=hide r1
 have R2:=hide r2
 have R3:=hide r3
 have R4:=hide r4
 have R5:=hide r5
 clear r1 r2 r3 r4 r5
 have HS:=hide hs;clear hs
 go_enter Tryz.func26,Tryz.ntmps26
 go_wp2_with fail
 refine(c_toInt64SS _ x.zL _ (HS.out.1) (T.yF R1.out ((((Below.refl _ _).alloc (Nat.le_refl _) _).alloc so _).alloc so _))).mono ?_;rintro e w1 ⟨u1,F1,rfl,hnv⟩
 have hb:=hnv.below;have ho1:=hnv.ow;have hsg:=hnv.sg;clear hnv
 obtain⟨ua1,ul1,uc1,rfl⟩:=T.yX ho1
 have HK01:=hide ((((Bk.born w 59 #[.int .i64 x.zF,v1,v2,v3,v4,v5]).alloc _).alloc _).below hb so)
 have HK11:=hide (((Bk.born1' w _ 32 #[.int .i64 0,.slice none 0 0,.slice none 0 0,.slice none 0 0,.slice none 0 0,.slice none 0 0]).alloc _).below hb so)
 have HK21:=hide ((Bk.born2 w _ _ 32 #[.int .i64 x.zF,.slice none 0 0,.slice none 0 0,.slice none 0 0,.slice none 0 0,.slice none 0 0]).below hb so)
 have HB1:=hide (yJ ((((Below.refl _ _).alloc (Nat.le_refl _) _).alloc so _).alloc so _) so hb)
 have sg1:Sg (w.heap.size+3) w1.heap.size [F1]:=by simpa[World.setCell] using hsg
 have SG1:=hide (show Sg (w.heap.size+3) w1.heap.size [F1] from sg1)
 have L1:Sec (∀ b ∈ F1,w.heap.size+3≤b):=hide (fun b hb=>by have:=(sg1.all.2 b (by simp[hb])).1;omega)
 have O11:=hide ho1
 clear hb hsg sg1 ho1
 have k01:=HK01.out.cell;have k11:=HK11.out.cell;have f11:=HK11.out.free;have k21:=HK21.out.cell;have f21:=HK21.out.free
 go_wp2_with fail
 refine(c_toTrackS _ x.zO _ (HS.out.2.1) (T.yF R2.out ((HB1.out).setCell so _))).mono ?_;rintro e w2 ⟨u2,F2,rfl,hnv⟩
 have hb:=hnv.below;have ho2:=hnv.ow;have hsg:=hnv.sg;clear hnv
 obtain⟨ua2,ul2,uc2,rfl⟩:=T.yX ho2
 have HK02:=hide (((HK01.out).far so _).below hb (by have:=HK21.out.lt;first|(simp[World.setCell];done)|(simp[World.setCell];omega)))
 have HK12:=hide (((HK11.out).far so _).below hb (by have:=HK21.out.lt;first|(simp[World.setCell];done)|(simp[World.setCell];omega)))
 have HK22:=hide ((show Bk _ (w.heap.size+2) 32 #[.int .i64 x.zF,(.slice ua1 ul1 uc1),.slice none 0 0,.slice none 0 0,.slice none 0 0,.slice none 0 0] from(by simpa using(HK21.out).set_ 1 ((.slice ua1 ul1 uc1)))).below hb (by have:=HK21.out.lt;first|(simp[World.setCell];done)|(simp[World.setCell];omega)))
 have HB2:=hide (yJ ((HB1.out).setCell so _) (by have:=HB1.out.size;first|(simp[World.setCell];done)|(simp[World.setCell];omega)) hb)
 have ho1:=T.ow_all (show T.ow _ (T.sl 26 1 (x.zL.map (T.ints 2))) F1 [(.slice ua1 ul1 uc1)] from(by repeat(first|with_reducible exact O11.out|refine T.ow_far ?_ (nf L1.out so) _ _))) hb
 have sg2:Sg (w1.heap.size) w2.heap.size [F2]:=by simpa[World.setCell] using hsg
 have hle2:=SG1.out.le
 have SG2:=hide (show Sg (w.heap.size+3) w2.heap.size [F1,F2] from SG1.out.app sg2)
 have L2:Sec (∀ b ∈ F2,w.heap.size+3≤b):=hide (fun b hb=>by have:=(sg2.all.2 b (by simp[hb])).1;omega)
 have O12:=hide ho1
 have O22:=hide ho2
 clear hb hsg sg2 ho1 ho2
 have k02:=HK02.out.cell;have k12:=HK12.out.cell;have f12:=HK12.out.free;have k22:=HK22.out.cell;have f22:=HK22.out.free
 go_wp2_with fail
 refine(c_toI _ x.zQ _ (HS.out.2.2.1) (T.yF R3.out ((HB2.out).setCell so _))).mono ?_;rintro e w3 ⟨u3,F3,rfl,hnv⟩
 have hb:=hnv.below;have ho3:=hnv.ow;have hsg:=hnv.sg;clear hnv
 obtain⟨ua3,ul3,uc3,rfl⟩:=T.yX ho3
 have HK03:=hide (((HK02.out).far so _).below hb (by have:=HK22.out.lt;first|(simp[World.setCell];done)|(simp[World.setCell];omega)))
 have HK13:=hide (((HK12.out).far so _).below hb (by have:=HK22.out.lt;first|(simp[World.setCell];done)|(simp[World.setCell];omega)))
 have HK23:=hide ((show Bk _ (w.heap.size+2) 32 #[.int .i64 x.zF,(.slice ua1 ul1 uc1),(.slice ua2 ul2 uc2),.slice none 0 0,.slice none 0 0,.slice none 0 0] from(by simpa using(HK22.out).set_ 2 ((.slice ua2 ul2 uc2)))).below hb (by have:=HK22.out.lt;first|(simp[World.setCell];done)|(simp[World.setCell];omega)))
 have HB3:=hide (yJ ((HB2.out).setCell so _) (by have:=HB2.out.size;first|(simp[World.setCell];done)|(simp[World.setCell];omega)) hb)
 have ho1:=T.ow_all (show T.ow _ (T.sl 26 1 (x.zL.map (T.ints 2))) F1 [(.slice ua1 ul1 uc1)] from(by repeat(first|with_reducible exact O12.out|refine T.ow_far ?_ (nf L1.out so) _ _))) hb
 have ho2:=T.ow_all (show T.ow _ (T.sl 96 1 (x.zO.map xI.t)) F2 [(.slice ua2 ul2 uc2)] from(by repeat(first|with_reducible exact O22.out|refine T.ow_far ?_ (nf L2.out so) _ _))) hb
 have sg3:Sg (w2.heap.size) w3.heap.size [F3]:=by simpa[World.setCell] using hsg
 have hle3:=SG2.out.le
 have SG3:=hide (show Sg (w.heap.size+3) w3.heap.size [F1,F2,F3] from SG2.out.app sg3)
 have L3:Sec (∀ b ∈ F3,w.heap.size+3≤b):=hide (fun b hb=>by have:=(sg3.all.2 b (by simp[hb])).1;omega)
 have O13:=hide ho1
 have O23:=hide ho2
 have O33:=hide ho3
 clear hb hsg sg3 ho1 ho2 ho3
 have k03:=HK03.out.cell;have k13:=HK13.out.cell;have f13:=HK13.out.free;have k23:=HK23.out.cell;have f23:=HK23.out.free
 go_wp2_with fail
 refine(c_toPatchS _ x.zP _ (HS.out.2.2.2.1) (T.yF R4.out ((HB3.out).setCell so _))).mono ?_;rintro e w4 ⟨u4,F4,rfl,hnv⟩
 have hb:=hnv.below;have ho4:=hnv.ow;have hsg:=hnv.sg;clear hnv
 obtain⟨ua4,ul4,uc4,rfl⟩:=T.yX ho4
 have HK04:=hide (((HK03.out).far so _).below hb (by have:=HK23.out.lt;first|(simp[World.setCell];done)|(simp[World.setCell];omega)))
 have HK14:=hide (((HK13.out).far so _).below hb (by have:=HK23.out.lt;first|(simp[World.setCell];done)|(simp[World.setCell];omega)))
 have HK24:=hide ((show Bk _ (w.heap.size+2) 32 #[.int .i64 x.zF,(.slice ua1 ul1 uc1),(.slice ua2 ul2 uc2),(.slice ua3 ul3 uc3),.slice none 0 0,.slice none 0 0] from(by simpa using(HK23.out).set_ 3 ((.slice ua3 ul3 uc3)))).below hb (by have:=HK23.out.lt;first|(simp[World.setCell];done)|(simp[World.setCell];omega)))
 have HB4:=hide (yJ ((HB3.out).setCell so _) (by have:=HB3.out.size;first|(simp[World.setCell];done)|(simp[World.setCell];omega)) hb)
 have ho1:=T.ow_all (show T.ow _ (T.sl 26 1 (x.zL.map (T.ints 2))) F1 [(.slice ua1 ul1 uc1)] from(by repeat(first|with_reducible exact O13.out|refine T.ow_far ?_ (nf L1.out so) _ _))) hb
 have ho2:=T.ow_all (show T.ow _ (T.sl 96 1 (x.zO.map xI.t)) F2 [(.slice ua2 ul2 uc2)] from(by repeat(first|with_reducible exact O23.out|refine T.ow_far ?_ (nf L2.out so) _ _))) hb
 have ho3:=T.ow_all (show T.ow _ (T.ints 2 x.zQ) F3 [(.slice ua3 ul3 uc3)] from(by repeat(first|with_reducible exact O33.out|refine T.ow_far ?_ (nf L3.out so) _ _))) hb
 have sg4:Sg (w3.heap.size) w4.heap.size [F4]:=by simpa[World.setCell] using hsg
 have hle4:=SG3.out.le
 have SG4:=hide (show Sg (w.heap.size+3) w4.heap.size [F1,F2,F3,F4] from SG3.out.app sg4)
 have L4:Sec (∀ b ∈ F4,w.heap.size+3≤b):=hide (fun b hb=>by have:=(sg4.all.2 b (by simp[hb])).1;omega)
 have O14:=hide ho1
 have O24:=hide ho2
 have O34:=hide ho3
 have O44:=hide ho4
 clear hb hsg sg4 ho1 ho2 ho3 ho4
 have k04:=HK04.out.cell;have k14:=HK14.out.cell;have f14:=HK14.out.free;have k24:=HK24.out.cell;have f24:=HK24.out.free
 go_wp2_with fail
 refine(c_toMixer x.zG v5 _ (HS.out.2.2.2.2) (T.yF R5.out ((HB4.out).setCell so _))).mono ?_;rintro e w5 ⟨u5,F5,rfl,ho5,hsg,hb⟩
 obtain⟨ua5,ul5,uc5,rfl⟩:=T.yX ho5
 have HK05:=hide (((HK04.out).far so _).below hb (by have:=HK24.out.lt;first|(simp[World.setCell];done)|(simp[World.setCell];omega)))
 have HK15:=hide (((HK14.out).far so _).below hb (by have:=HK24.out.lt;first|(simp[World.setCell];done)|(simp[World.setCell];omega)))
 have HK25:=hide ((show Bk _ (w.heap.size+2) 32 #[.int .i64 x.zF,(.slice ua1 ul1 uc1),(.slice ua2 ul2 uc2),(.slice ua3 ul3 uc3),(.slice ua4 ul4 uc4),.slice none 0 0] from(by simpa using(HK24.out).set_ 4 ((.slice ua4 ul4 uc4)))).below hb (by have:=HK24.out.lt;first|(simp[World.setCell];done)|(simp[World.setCell];omega)))
 have HB5:=hide (yJ ((HB4.out).setCell so _) (by have:=HB4.out.size;first|(simp[World.setCell];done)|(simp[World.setCell];omega)) hb)
 have ho1:=T.ow_all (show T.ow _ (T.sl 26 1 (x.zL.map (T.ints 2))) F1 [(.slice ua1 ul1 uc1)] from(by repeat(first|with_reducible exact O14.out|refine T.ow_far ?_ (nf L1.out so) _ _))) hb
 have ho2:=T.ow_all (show T.ow _ (T.sl 96 1 (x.zO.map xI.t)) F2 [(.slice ua2 ul2 uc2)] from(by repeat(first|with_reducible exact O24.out|refine T.ow_far ?_ (nf L2.out so) _ _))) hb
 have ho3:=T.ow_all (show T.ow _ (T.ints 2 x.zQ) F3 [(.slice ua3 ul3 uc3)] from(by repeat(first|with_reducible exact O34.out|refine T.ow_far ?_ (nf L3.out so) _ _))) hb
 have ho4:=T.ow_all (show T.ow _ (T.sl 108 4 (x.zP.map xG.t)) F4 [(.slice ua4 ul4 uc4)] from(by repeat(first|with_reducible exact O44.out|refine T.ow_far ?_ (nf L4.out so) _ _))) hb
 have sg5:Sg (w4.heap.size) w5.heap.size [F5]:=by simpa[World.setCell] using hsg
 have hle5:=SG4.out.le
 have SG5:=hide (show Sg (w.heap.size+3) w5.heap.size [F1,F2,F3,F4,F5] from SG4.out.app sg5)
 have L5:Sec (∀ b ∈ F5,w.heap.size+3≤b):=hide (fun b hb=>by have:=(sg5.all.2 b (by simp[hb])).1;omega)
 have O15:=hide ho1
 have O25:=hide ho2
 have O35:=hide ho3
 have O45:=hide ho4
 have O55:=hide ho5
 clear hb hsg sg5 ho1 ho2 ho3 ho4 ho5
 have k05:=HK05.out.cell;have k15:=HK15.out.cell;have f15:=HK15.out.free;have k25:=HK25.out.cell;have f25:=HK25.out.free
 go_wp2
 refine bodyPost_ret (v:= .agg #[.int .i64 x.zF,(.slice ua1 ul1 uc1),(.slice ua2 ul2 uc2),(.slice ua3 ul3 uc3),(.slice ua4 ul4 uc4),(.slice ua5 ul5 uc5)]) (by simp[results,Tryz.results26,go_sem,k05,k15,f15,k25,f25]) rfl ?_
 have hB:=HB5.out
 have hSz:=hB.size
 have hSg:=SG5.out.more (a':=w.heap.size) (by omega)
 exact⟨_,F1,_,F2,_,F3,_,F4,_,F5,rfl,(by repeat(first|with_reducible exact O15.out|refine T.ow_far ?_ (nf L1.out so) _ _)),(by repeat(first|with_reducible exact O25.out|refine T.ow_far ?_ (nf L2.out so) _ _)),(by repeat(first|with_reducible exact O35.out|refine T.ow_far ?_ (nf L3.out so) _ _)),(by repeat(first|with_reducible exact O45.out|refine T.ow_far ?_ (nf L4.out so) _ _)),(by repeat(first|with_reducible exact O55.out|refine T.ow_far ?_ (nf L5.out so) _ _)),(by simpa[World.setCell] using hSg),ba⟩
end Go.Proofs.YtoibekfhepnedaaGreat
