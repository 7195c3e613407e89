/- Contract: copySession. -/
import Derived.Test.YtoibekfhepnedaaGreatQBfExactMakeCache
set_option linter.unusedVariables false
set_option linter.unusedSimpArgs false
set_option maxHeartbeats 2000000
set_option maxRecDepth 20000
namespace Go.Proofs.YtoibekfhepnedaaGreat
open Go.RowKit
theorem c_copySession (x:xK) (cs:List Value) (w:World) (hs:x.small) (h:T.rds w x.fs cs):Calls Tryz.prog 45 #[.agg cs.toArray] w fun e w'=> ∃ v1 v2 v3 v4 v5 F,e= .returned (.agg #[.int .i64 x.zF,v1,v2,v3,v4,v5])∧Nw w w' x.fs F [.int .i64 x.zF,v1,v2,v3,v4,v5]:=by
 obtain⟨v1,v2,v3,v4,v5,rfl,h1,h2,h3,h4,h5⟩:=xK.yO h
 clear h
 have R1:=hide h1;obtain⟨va1,vc1,rfl,vl1,vm1,vx1⟩:=T.yN h1
 have HX1:=hide vx1;clear vx1 h1
 have R2:=hide h2;obtain⟨va2,vc2,rfl,vl2,vm2,vx2⟩:=T.yN h2
 have HX2:=hide vx2;clear vx2 h2
 have h3i:=T.yT.1 h3;obtain⟨va3,vc3,rfl,vl3,vm3,vx3⟩:=h3i.open_
 have R3:=hide h3i;have HX3:=hide vx3;clear vx3 h3 h3i
 have R4:=hide h4;obtain⟨va4,vc4,rfl,vl4,vm4,vx4⟩:=T.yN h4
 have HX4:=hide vx4;clear vx4 h4
 have R5:=hide h5;obtain⟨va5,vc5,rfl,vl5,vm5,vx5⟩:=T.yN h5
 have HX5:=hide vx5;clear vx5 h5
 have HB0:=hide (show Below w.heap.size w (w.alloc (.cells #[.int .i64 x.zF,(.slice va1 x.zL.length vc1),(.slice va2 x.zO.length vc2),(.slice va3 x.zQ.length vc3),(.slice va4 x.zP.length vc4),(.slice va5 x.zG.zC.length vc5)] 32)) from(Below.refl _ _).alloc (Nat.le_refl _) _)
 have HK0:=hide (Bk.born w 32 #[.int .i64 x.zF,(.slice va1 x.zL.length vc1),(.slice va2 x.zO.length vc2),(.slice va3 x.zQ.length vc3),(.slice va4 x.zP.length vc4),(.slice va5 x.zG.zC.length vc5)])
 have HS:=hide hs;clear hs
 have HBa:=hide (HB0.out.alloc (by simp) (.cells #[.int .i64 0,.slice none 0 0,.slice none 0 0,.slice none 0 0,.slice none 0 0,.slice none 0 0] 32))
 have HKa:=hide (HK0.out.alloc (.cells #[.int .i64 0,.slice none 0 0,.slice none 0 0,.slice none 0 0,.slice none 0 0,.slice none 0 0] 32));have HRa:=hide (Bk.born1' w (.cells #[.int .i64 x.zF,(.slice va1 x.zL.length vc1),(.slice va2 x.zO.length vc2),(.slice va3 x.zQ.length vc3),(.slice va4 x.zP.length vc4),(.slice va5 x.zG.zC.length vc5)] 32) 32 #[.int .i64 0,.slice none 0 0,.slice none 0 0,.slice none 0 0,.slice none 0 0,.slice none 0 0])
 clear HB0 HK0
 go_enter Tryz.func45,Tryz.ntmps45
 go_wp2_with fail
 rename_i Q1 K1 hK1
 have REST: ∀ (g:Nat) (tA:Option Addr) (lA cA:Nat) (tB:Option Addr) (lB cB:Nat) (FR:List Nat) (u10 u11 u12 u13 u14 u15 u16 u17 u18:Value) (W:World),Bk W w.heap.size 32 #[.int .i64 x.zF,(.slice va1 x.zL.length vc1),(.slice va2 x.zO.length vc2),(.slice va3 x.zQ.length vc3),(.slice va4 x.zP.length vc4),(.slice va5 x.zG.zC.length vc5)]→Bk W (w.heap.size+1) 32 #[.int .i64 0,.slice none 0 0,.slice none 0 0,.slice none 0 0,.slice none 0 0,.slice none 0 0]→Bk W g 32 #[.int .i64 x.zF,.slice tA lA cA,.slice none 0 0,.slice tB lB cB,.slice none 0 0,.slice none 0 0]→T.ows W [T.sl 26 1 (x.zL.map (T.ints 2)),T.ints 2 x.zQ] FR [.slice tA lA cA,.slice tB lB cB]→FR.Nodup→(∀ b ∈ FR,w.heap.size+2≤b)→g ∉ FR→w.heap.size+2≤g→Below w.heap.size w W→K1 { tmps:= #[.agg #[.int .i64 x.zF,(.slice va1 x.zL.length vc1),(.slice va2 x.zO.length vc2),(.slice va3 x.zQ.length vc3),(.slice va4 x.zP.length vc4),(.slice va5 x.zG.zC.length vc5)],.pointer (some ⟨w.heap.size,0,none⟩),.pointer (some ⟨w.heap.size+1,0,none⟩),.pointer (some ⟨g,0,none⟩),undef,undef,undef,undef,undef,undef,u10,u11,u12,u13,u14,u15,u16,u17,u18,undef,undef,undef,undef,undef,undef,undef,undef,undef,undef,undef,undef,undef,undef,undef,undef,undef,undef,undef,undef,undef,undef,undef,undef,undef,undef,undef,undef,undef,undef,undef,undef,undef,undef,undef,undef,undef,undef,undef,undef,undef,undef,undef,undef,undef,undef,undef,undef,undef,undef,undef,undef,undef,undef,undef,undef],defers:= [] } W:=by
  intro g tA lA cA tB lB cB FR u10 u11 u12 u13 u14 u15 u16 u17 u18 W bk1 bk2 bk3 ow nd lo gf gl hbw
  refine hK1 _ _ ?_
  clear hK1 K1 HBa HKa HRa
  have KP:=hide bk1;have KR:=hide bk2;have KO:=hide bk3;have HB:=hide hbw
  have HG:=hide (Grow.start ow nd lo 96 1);have HGF:=hide gf;have HFO:Sec (g ∉ ([]:List Nat)):=hide (by simp)
  have kp:=bk1.cell;clear bk1 bk2 bk3 ow nd lo gf hbw
  have ng1:w.heap.size≠g:=by omega
  have ng2:w.heap.size+1≠g:=by omega
  have hsz0:w.heap.size+2≤W.heap.size:=by have:=KR.out.lt;omega
  go_wp2
  go_loopw [22] (fun i wr=> ∃ (k:Nat) (v:Value) (F:List Nat),k≤x.zO.length∧i= .int .i64 (k:Int)∧Grow (w.heap.size+2) wr 96 1 ((x.zO.take k).map xI.t) F v [T.sl 26 1 (x.zL.map (T.ints 2)),T.ints 2 x.zQ] FR [.slice tA lA cA,.slice tB lB cB]∧g ∉ F∧Bk wr w.heap.size 32 #[.int .i64 x.zF,(.slice va1 x.zL.length vc1),(.slice va2 x.zO.length vc2),(.slice va3 x.zQ.length vc3),(.slice va4 x.zP.length vc4),(.slice va5 x.zG.zC.length vc5)]∧Bk wr (w.heap.size+1) 32 #[.int .i64 0,.slice none 0 0,.slice none 0 0,.slice none 0 0,.slice none 0 0,.slice none 0 0]∧Bk wr g 32 #[.int .i64 x.zF,.slice tA lA cA,v,.slice tB lB cB,.slice none 0 0,.slice none 0 0]∧Below w.heap.size w wr) (fun i _=>x.zO.length - (intOf i).toNat)
  case atStart=>exact⟨0,.slice none 0 0,[],Nat.zero_le _,rfl,by simpa using HG.out,by simp,KP.out,KR.out,KO.out,HB.out⟩
  case round=>
   clear HG HFO KP KR KO HB kp hsz0
   obtain⟨k,v,F,hk,rfl,hG,hgF,b1,b2,b3,hb⟩:=hrel
   obtain⟨tN1,lN1,cN1,rfl⟩:=hG.form
   have HG:=hide hG;have HF:=hide hgF;have KP:=hide b1;have KR:=hide b2;have KO:=hide b3;have HB:=hide hb;clear hG hgF b1 b2 b3 hb
   have hsz:w.heap.size+2≤wr.heap.size:=by have:=KR.out.lt;omega
   have hgr:g<wr.heap.size:=KO.out.lt
   have hs:wr.heap.size≤wr.heap.size:=Nat.le_refl _
   by_cases hlt:k<x.zO.length
   ·
    have hsy:=HS.out.2.1.2 _ (List.getElem_mem hlt)
    have hgk:=gE hlt
    obtain⟨b,off,cs1,hA,hb1,hcs,hcell⟩:=HX2.out k x.zO[k] hgk
    subst hA
    generalize x.zO[k]=y at *
    have HY:=hide hgk;have HSY:=hide hsy;clear hgk hsy
    obtain⟨u0,rfl,hRY0⟩:=xI.yO (show T.rds _ _ _ by simpa only[xI.t,T.rd] using hcs)
    have d0:=(HB.out.cell hb1).trans (hcell 0 (u0) rfl)
    rw[show off+(k * 1+0)=off+k by omega] at d0
    have RY0:=hide (T.yF hRY0 HB.out);clear hRY0
    clear hcs hcell
    obtain⟨ua0,ul0,uc0,rfl⟩:=T.yV RY0.out
    have hq1:b<wr.heap.size:=lL hb1 HB.out.size
    have HXA:=hide (show Below wr.heap.size wr (wr.alloc (.cells #[.slice ua0 ul0 uc0] 96)) from(Below.refl _ _).alloc (Nat.le_refl _) _)
    have HXB:=hide (Bk.born wr 96 #[.slice ua0 ul0 uc0])
    go_wp2
    generalize wr.alloc (.cells #[.slice ua0 ul0 uc0] 96)=W2 at *
    have HB_1:=hide (yJ HB.out HB.out.size HXA.out);have HG_1:=hide (HG.out.all HXA.out);have hs_1:wr.heap.size≤W2.heap.size:=Nat.le_trans hs (HXA.out).size
    have KP_1:=hide (KP.out.below HXA.out KP.out.lt)
    have KR_1:=hide (KR.out.below HXA.out KR.out.lt)
    have KO_1:=hide (KO.out.below HXA.out KO.out.lt)
    have KX_1:=HXB
    have ko:=KO_1.out.cell;have kx:=KX_1.out.cell
    refine wK (fun w'=>(∀ i,w'.cell? ⟨g,i,none⟩= #[.int .i64 x.zF,.slice tA lA cA,(.slice tN1 lN1 cN1),.slice tB lB cB,.slice none 0 0,.slice none 0 0][i]?)∧(∀ i,w'.cell? ⟨wr.heap.size,i,none⟩= #[.slice ua0 ul0 uc0][i]?)) 10 (by kernel_rfl) ?_ (fun hS0=>?_)
    ·exact⟨ko,kx⟩
    refine tE 0 hS0 ?_
    refine tE 1 hS0 ?_
    refine tE 3 hS0 ?_
    refine tE 4 hS0 ?_
    obtain⟨es,hrd,hrs⟩:=T.rd_row RY0.out;rw[List.length_map] at hrd;have HRD:=hide hrd;have HRS:=hide hrs;clear hrd hrs
    have hHD:Below W2.heap.size W2 W2.drew:=(Below.refl _ _).drew
    have HB_2:=hide (yJ HB_1.out HB_1.out.size hHD);have HG_2:=hide (HG_1.out.all hHD);have hs_2:wr.heap.size≤W2.drew.heap.size:=Nat.le_trans hs_1 (hHD).size
    have KP_2:=hide (KP_1.out.below hHD KP_1.out.lt)
    have KR_2:=hide (KR_1.out.below hHD KR_1.out.lt)
    have KO_2:=hide (KO_1.out.below hHD KO_1.out.lt)
    have KX_2:=hide (KX_1.out.below hHD KX_1.out.lt)
    refine oE 2 (fun K hK=>?_)
    go_simp
    have HB_3:=hide (yJ HB_2.out HB_2.out.size (show Below W2.drew.heap.size W2.drew (W2.drew.alloc (.cells #[] 39)) from(Below.refl _ _).alloc (Nat.le_refl _) _));have HG_3:=hide (HG_2.out.all (show Below W2.drew.heap.size W2.drew (W2.drew.alloc (.cells #[] 39)) from(Below.refl _ _).alloc (Nat.le_refl _) _));have hs_3:wr.heap.size≤(W2.drew.alloc (.cells #[] 39)).heap.size:=Nat.le_trans hs_2 ((show Below W2.drew.heap.size W2.drew (W2.drew.alloc (.cells #[] 39)) from(Below.refl _ _).alloc (Nat.le_refl _) _)).size
    have KP_3:=hide (KP_2.out.below (show Below W2.drew.heap.size W2.drew (W2.drew.alloc (.cells #[] 39)) from(Below.refl _ _).alloc (Nat.le_refl _) _) KP_2.out.lt)
    have KR_3:=hide (KR_2.out.below (show Below W2.drew.heap.size W2.drew (W2.drew.alloc (.cells #[] 39)) from(Below.refl _ _).alloc (Nat.le_refl _) _) KR_2.out.lt)
    have KO_3:=hide (KO_2.out.below (show Below W2.drew.heap.size W2.drew (W2.drew.alloc (.cells #[] 39)) from(Below.refl _ _).alloc (Nat.le_refl _) _) KO_2.out.lt)
    have KX_3:=hide (KX_2.out.below (show Below W2.drew.heap.size W2.drew (W2.drew.alloc (.cells #[] 39)) from(Below.refl _ _).alloc (Nat.le_refl _) _) KX_2.out.lt)
    refine hK.out _ _ ?_ (fun hS1=>?_)
    ·exact⟨KO_3.out.cell,KX_3.out.cell⟩
    clear hK K hS0
    have hcl:y.zR.length≤1048576:=HSY.out
    refine oE 5 (fun K hK=>?_)
    refine step_manyT rfl _ _ _ rfl wr.heap.size _ _ 5 40 Tryz.underlying94 info_ClipS rfl (by omega) (.slice (some ⟨W2.drew.heap.size,0,none⟩) 0 0) 0 [] rfl (wH (World.ownsRow_made W2.drew #[] 0 (Nat.le_refl _) (by decide) rfl) HXA.out.drew.size) _ y.zR.length es rfl ((HRD.out.below HXA.out.drew).below ((Below.refl _ _).alloc (Nat.le_refl _) _)) (T.rds_cell _ _ HRS.out) (by omega) (by unfold maxLen;omega) (Nat.le_trans HXA.out.drew.size (by simp)) ?_
    intro v7 w7 hr7 hg7 hv7
    have hb7:Below W2.drew.heap.size W2.drew w7:=((Below.refl _ _).alloc (Nat.le_refl _) _).grown hg7 (by simp) (fun j hj=>Nat.le_of_eq (show W2.drew.heap.size=j by simpa[Value.ownBlock] using hj))
    have HC:=hide (Own.of_flat (xL.flat _) xL.wide_t hr7 HRS.out (by simp));clear hr7 hg7 hv7
    obtain⟨t7,l7,c7,rfl⟩:=T.yX HC.out.ow
    have HB_4:=hide (yJ HB_2.out HB_2.out.size hb7);have HG_4:=hide (HG_2.out.all hb7);have hs_4:wr.heap.size≤w7.heap.size:=Nat.le_trans hs_2 (hb7).size
    have KP_4:=hide (KP_2.out.below hb7 KP_2.out.lt)
    have KR_4:=hide (KR_2.out.below hb7 KR_2.out.lt)
    have KO_4:=hide (KO_2.out.below hb7 KO_2.out.lt)
    have KX_4:=hide (KX_2.out.below hb7 KX_2.out.lt)
    have HN:=hide (⟨xI.ow_mk (x:=y) HC.out.ow,by rw[List.append_nil];exact HC.out.nodup,fun b hb=>HC.out.lo b (by simpa using hb)⟩:Nx wr.heap.size w7 y.fs _ _);clear hb7
    refine hK.out _ _ ?_ (fun hS2=>?_)
    ·exact⟨KO_4.out.cell,KX_4.out.cell⟩
    clear hK K hS1
    refine tE 6 hS2 ?_
    refine oE 7 (fun K hK=>?_)
    go_simp
    have HB_5:=hide (yJ HB_4.out HB_4.out.size (show Below w7.heap.size w7 (w7.alloc (.cells #[.slice t7 l7 c7] 96)) from(Below.refl _ _).alloc (Nat.le_refl _) _));have HG_5:=hide (HG_4.out.all (show Below w7.heap.size w7 (w7.alloc (.cells #[.slice t7 l7 c7] 96)) from(Below.refl _ _).alloc (Nat.le_refl _) _));have hs_5:wr.heap.size≤(w7.alloc (.cells #[.slice t7 l7 c7] 96)).heap.size:=Nat.le_trans hs_4 ((show Below w7.heap.size w7 (w7.alloc (.cells #[.slice t7 l7 c7] 96)) from(Below.refl _ _).alloc (Nat.le_refl _) _)).size
    have KP_5:=hide (KP_4.out.below (show Below w7.heap.size w7 (w7.alloc (.cells #[.slice t7 l7 c7] 96)) from(Below.refl _ _).alloc (Nat.le_refl _) _) KP_4.out.lt)
    have KR_5:=hide (KR_4.out.below (show Below w7.heap.size w7 (w7.alloc (.cells #[.slice t7 l7 c7] 96)) from(Below.refl _ _).alloc (Nat.le_refl _) _) KR_4.out.lt)
    have KO_5:=hide (KO_4.out.below (show Below w7.heap.size w7 (w7.alloc (.cells #[.slice t7 l7 c7] 96)) from(Below.refl _ _).alloc (Nat.le_refl _) _) KO_4.out.lt)
    have KX_5:=hide (KX_4.out.below (show Below w7.heap.size w7 (w7.alloc (.cells #[.slice t7 l7 c7] 96)) from(Below.refl _ _).alloc (Nat.le_refl _) _) KX_4.out.lt)
    have HN2:=hide (HN.out.all ((Below.refl _ _).alloc (Nat.le_refl _) (.cells #[.slice t7 l7 c7] 96)))
    refine hK.out _ _ ?_ (fun hS3=>?_)
    ·exact⟨KO_5.out.cell,KX_5.out.cell⟩
    clear hK K hS2
    refine oE 8 (fun K hK=>?_)
    refine step1_T rfl _ _ _ rfl (w.heap.size+2) _ _ 1 24 Tryz.underlying25 info_TrackS rfl (by omega) rfl HG_5.out.own rfl (Bk.born _ _ _) (x:=y.t) (T.ow_st HN2.out.ows) HN2.out.nodup (fun b hb=>by have h3:=HN2.out.lo b hb;omega) (fun b hb hb2=>by have h1:=HG.out.lt b hb;have h3:=HN2.out.lo b hb2;omega) rfl (by rw[List.length_map,List.length_take];have:=HS.out.2.1.1;omega) (by rw[List.length_map,List.length_take];have:=HS.out.2.1.1;unfold maxLen;omega) (Nat.le_trans hsz hs_5) ?_
    intro v8 w8 F8 ho8 hg8 hv8
    obtain⟨t8,l8,c8,rfl⟩:=T.yX ho8.ow
    have HF8:=hide (Grow.out hv8 HF.out (fun hm=>by have h3:=HN2.out.lo _ hm;omega) (lL hgr hs_5))
    have HG_6:=hide (HG_5.out.app ho8 hg8 hv8 (fun b hb hb2=>by have h1:=HG.out.ltR b hb2;have h3:=HN2.out.lo b hb;omega))
    have HB_6:=hide ((HG_5.out.own.more (show w.heap.size≤w.heap.size+2 by omega)).below HB_5.out HB_5.out.size hg8);have hs_6:wr.heap.size≤w8.heap.size:=Nat.le_trans hs_5 hg8.size
    have KP_6:=hide (KP_5.out.far1 hg8 (fun hm=>by have:=HG.out.own.lo _ hm;omega) HG_5.out.own)
    have KR_6:=hide (KR_5.out.far1 hg8 (fun hm=>by have:=HG.out.own.lo _ hm;omega) HG_5.out.own)
    have KO_6:=hide (KO_5.out.far1 hg8 (HF.out) HG_5.out.own)
    have KX_6:=hide (KX_5.out.far1 hg8 (fun hm=>by have:=HG.out.lt _ hm;omega) HG_5.out.own)
    clear ho8 hg8 hv8
    refine hK.out _ _ ?_ (fun hS4=>?_)
    ·exact⟨KO_6.out.cell,KX_6.out.cell⟩
    clear hK K hS3
    refine tE 9 hS4 ?_
    refine wJ (o:=_) (by kernel_rfl) rfl (by kernel_rfl) ?_
    have fo8:=KO_6.out.free;have co8:=KO_6.out.cell;have lo8:=KO_6.out.lt
    go_wp2
    go_roundw
    case rel=>exact⟨k+1,.slice t8 l8 c8,F8,by omega,by go_num,(by rw[xQ HY.out,List.map_append];exact HG_6.out.far HF8.out HGF.out _ _),HF8.out,KP_6.out.far ng1 _,KR_6.out.far ng2 _,(by have:=KO_6.out.set_ 2 (.slice t8 l8 c8);simpa using this),HB_6.out.setCell (by simp;omega) _⟩
    case measure=>simp[intOf];omega
   obtain rfl:k=x.zO.length:=by omega
   obtain⟨W2,hW2⟩: ∃ W',W'=wr:=⟨_,rfl⟩
   subst hW2
   have hG:=HG.out;rw[List.take_length] at hG
   have HG:=hide (show Grow _ _ 108 4 [] [] (.slice none 0 0) [T.sl 26 1 (x.zL.map (T.ints 2)),T.ints 2 x.zQ,T.sl 96 1 (x.zO.map xI.t)] (FR++F) [.slice tA lA cA,.slice tB lB cB,.slice tN1 lN1 cN1] from hG.next 108 4);clear hG
   have hGF:g ∉ FR++F:=fun hm=>(List.mem_append.1 hm).elim HGF.out HF.out
   replace HGF:=hide hGF;clear hGF HF hs hgr
   generalize FR++F=FR2 at *
   have HFO:Sec (g ∉ ([]:List Nat)):=hide (by simp)
   have hsz0:=hsz;clear hsz
   have kp:=KP.out.cell
   go_wp2
   go_loopw [40] (fun i wr=> ∃ (k:Nat) (v:Value) (F:List Nat),k≤x.zP.length∧i= .int .i64 (k:Int)∧Grow (w.heap.size+2) wr 108 4 ((x.zP.take k).map xG.t) F v [T.sl 26 1 (x.zL.map (T.ints 2)),T.ints 2 x.zQ,T.sl 96 1 (x.zO.map xI.t)] FR2 [.slice tA lA cA,.slice tB lB cB,.slice tN1 lN1 cN1]∧g ∉ F∧Bk wr w.heap.size 32 #[.int .i64 x.zF,(.slice va1 x.zL.length vc1),(.slice va2 x.zO.length vc2),(.slice va3 x.zQ.length vc3),(.slice va4 x.zP.length vc4),(.slice va5 x.zG.zC.length vc5)]∧Bk wr (w.heap.size+1) 32 #[.int .i64 0,.slice none 0 0,.slice none 0 0,.slice none 0 0,.slice none 0 0,.slice none 0 0]∧Bk wr g 32 #[.int .i64 x.zF,.slice tA lA cA,.slice tN1 lN1 cN1,.slice tB lB cB,v,.slice none 0 0]∧Below w.heap.size w wr) (fun i _=>x.zP.length - (intOf i).toNat)
   case atStart=>exact⟨0,.slice none 0 0,[],Nat.zero_le _,rfl,by simpa using HG.out,by simp,KP.out,KR.out,KO.out,HB.out⟩
   case round=>
    clear HG HFO KP KR KO HB kp hsz0
    obtain⟨k,v,F,hk,rfl,hG,hgF,b1,b2,b3,hb⟩:=hrel
    obtain⟨tN2,lN2,cN2,rfl⟩:=hG.form
    have HG:=hide hG;have HF:=hide hgF;have KP:=hide b1;have KR:=hide b2;have KO:=hide b3;have HB:=hide hb;clear hG hgF b1 b2 b3 hb
    have hsz:w.heap.size+2≤wr.heap.size:=by have:=KR.out.lt;omega
    have hgr:g<wr.heap.size:=KO.out.lt
    have hs:wr.heap.size≤wr.heap.size:=Nat.le_refl _
    by_cases hlt:k<x.zP.length
    ·
     have hsy:=HS.out.2.2.2.1.2 _ (List.getElem_mem hlt)
     have hgk:=gE hlt
     obtain⟨b,off,cs1,hA,hb1,hcs,hcell⟩:=HX4.out k x.zP[k] hgk
     subst hA
     generalize x.zP[k]=y at *
     have HY:=hide hgk;have HSY:=hide hsy;clear hgk hsy
     obtain⟨u1,u2,u3,rfl,hRY1,hRY2,hRY3⟩:=xG.yO (show T.rds _ _ _ by simpa only[xG.t,T.rd] using hcs)
     have d0:=(HB.out.cell hb1).trans (hcell 0 (.int .i64 y.zJ) rfl)
     have d1:=(HB.out.cell hb1).trans (hcell 1 (u1) rfl)
     have d2:=(HB.out.cell hb1).trans (hcell 2 (u2) rfl)
     have d3:=(HB.out.cell hb1).trans (hcell 3 (u3) rfl)
     rw[show off+(k * 4+0)=off+k * 4 by omega] at d0
     rw[show off+(k * 4+1)=off+k * 4+1 by omega] at d1
     rw[show off+(k * 4+2)=off+k * 4+2 by omega] at d2
     rw[show off+(k * 4+3)=off+k * 4+3 by omega] at d3
     have RY1:=hide (T.yF hRY1 HB.out);clear hRY1
     have RY2:=hide (T.yF hRY2 HB.out);clear hRY2
     have RY3:=hide (T.yF hRY3 HB.out);clear hRY3
     clear hcs hcell
     obtain⟨ua1,ul1,uc1,rfl⟩:=T.yV RY1.out
     obtain⟨ua2,ul2,uc2,rfl⟩:=T.yV RY2.out
     obtain⟨ua3,ul3,uc3,rfl⟩:=T.yV RY3.out
     have hq1:b<wr.heap.size:=lL hb1 HB.out.size
     have HXA:=hide (show Below wr.heap.size wr (wr.alloc (.cells #[.int .i64 y.zJ,.slice ua1 ul1 uc1,.slice ua2 ul2 uc2,.slice ua3 ul3 uc3] 108)) from(Below.refl _ _).alloc (Nat.le_refl _) _)
     have HXB:=hide (Bk.born wr 108 #[.int .i64 y.zJ,.slice ua1 ul1 uc1,.slice ua2 ul2 uc2,.slice ua3 ul3 uc3])
     go_wp2
     generalize wr.alloc (.cells #[.int .i64 y.zJ,.slice ua1 ul1 uc1,.slice ua2 ul2 uc2,.slice ua3 ul3 uc3] 108)=W2 at *
     have HB_1:=hide (yJ HB.out HB.out.size HXA.out);have HG_1:=hide (HG.out.all HXA.out);have hs_1:wr.heap.size≤W2.heap.size:=Nat.le_trans hs (HXA.out).size
     have KP_1:=hide (KP.out.below HXA.out KP.out.lt)
     have KR_1:=hide (KR.out.below HXA.out KR.out.lt)
     have KO_1:=hide (KO.out.below HXA.out KO.out.lt)
     have KX_1:=HXB
     have ko:=KO_1.out.cell;have kx:=KX_1.out.cell
     refine wK (fun w'=>(∀ i,w'.cell? ⟨g,i,none⟩= #[.int .i64 x.zF,.slice tA lA cA,.slice tN1 lN1 cN1,.slice tB lB cB,(.slice tN2 lN2 cN2),.slice none 0 0][i]?)∧(∀ i,w'.cell? ⟨wr.heap.size,i,none⟩= #[.int .i64 y.zJ,.slice ua1 ul1 uc1,.slice ua2 ul2 uc2,.slice ua3 ul3 uc3][i]?)) 7 (by kernel_rfl) ?_ (fun hS0=>?_)
     ·exact⟨ko,kx⟩
     refine tE 0 hS0 ?_
     refine tE 1 hS0 ?_
     refine tE 2 hS0 ?_
     have hHD:Below W2.heap.size W2 W2.drew:=(Below.refl _ _).drew
     have HB_2:=hide (yJ HB_1.out HB_1.out.size hHD);have HG_2:=hide (HG_1.out.all hHD);have hs_2:wr.heap.size≤W2.drew.heap.size:=Nat.le_trans hs_1 (hHD).size
     have KP_2:=hide (KP_1.out.below hHD KP_1.out.lt)
     have KR_2:=hide (KR_1.out.below hHD KR_1.out.lt)
     have KO_2:=hide (KO_1.out.below hHD KO_1.out.lt)
     have KX_2:=hide (KX_1.out.below hHD KX_1.out.lt)
     refine oE 3 (fun K hK=>?_)
     go_simp
     go_wp2_with (go_at_call 113;refine(c_copyPatch y _ _ HSY.out (xG.rd_mk (T.yF RY1.out HXA.out.drew) (T.yF RY2.out HXA.out.drew) (T.yF RY3.out HXA.out.drew))).mono ?_;rintro e wC ⟨p1,p2,p3,Fx,rfl,hN⟩;obtain⟨⟨tp1,lp1,cp1,rfl⟩,⟨tp2,lp2,cp2,rfl⟩,⟨tp3,lp3,cp3,rfl⟩⟩:=xG.sl3 (T.ows_rds _ _ _ hN.ows);have HN:=hide (Nx.of_nw (B:=wr.heap.size) hN HXA.out.size);have hbC:Below W2.drew.heap.size W2.drew wC:=hN.below;clear hN)
     have HB_3:=hide (yJ HB_2.out HB_2.out.size hbC);have HG_3:=hide (HG_2.out.all hbC);have hs_3:wr.heap.size≤wC.heap.size:=Nat.le_trans hs_2 (hbC).size
     have KP_3:=hide (KP_2.out.below hbC KP_2.out.lt)
     have KR_3:=hide (KR_2.out.below hbC KR_2.out.lt)
     have KO_3:=hide (KO_2.out.below hbC KO_2.out.lt)
     have KX_3:=hide (KX_2.out.below hbC KX_2.out.lt)
     clear hbC
     refine hK.out _ _ ?_ (fun hS1=>?_)
     ·exact⟨KO_3.out.cell,KX_3.out.cell⟩
     clear hK K hS0
     refine oE 4 (fun K hK=>?_)
     go_simp
     have HB_4:=hide (yJ HB_3.out HB_3.out.size (show Below wC.heap.size wC (wC.alloc (.cells #[.int .i64 y.zJ,.slice tp1 lp1 cp1,.slice tp2 lp2 cp2,.slice tp3 lp3 cp3] 108)) from(Below.refl _ _).alloc (Nat.le_refl _) _));have HG_4:=hide (HG_3.out.all (show Below wC.heap.size wC (wC.alloc (.cells #[.int .i64 y.zJ,.slice tp1 lp1 cp1,.slice tp2 lp2 cp2,.slice tp3 lp3 cp3] 108)) from(Below.refl _ _).alloc (Nat.le_refl _) _));have hs_4:wr.heap.size≤(wC.alloc (.cells #[.int .i64 y.zJ,.slice tp1 lp1 cp1,.slice tp2 lp2 cp2,.slice tp3 lp3 cp3] 108)).heap.size:=Nat.le_trans hs_3 ((show Below wC.heap.size wC (wC.alloc (.cells #[.int .i64 y.zJ,.slice tp1 lp1 cp1,.slice tp2 lp2 cp2,.slice tp3 lp3 cp3] 108)) from(Below.refl _ _).alloc (Nat.le_refl _) _)).size
     have KP_4:=hide (KP_3.out.below (show Below wC.heap.size wC (wC.alloc (.cells #[.int .i64 y.zJ,.slice tp1 lp1 cp1,.slice tp2 lp2 cp2,.slice tp3 lp3 cp3] 108)) from(Below.refl _ _).alloc (Nat.le_refl _) _) KP_3.out.lt)
     have KR_4:=hide (KR_3.out.below (show Below wC.heap.size wC (wC.alloc (.cells #[.int .i64 y.zJ,.slice tp1 lp1 cp1,.slice tp2 lp2 cp2,.slice tp3 lp3 cp3] 108)) from(Below.refl _ _).alloc (Nat.le_refl _) _) KR_3.out.lt)
     have KO_4:=hide (KO_3.out.below (show Below wC.heap.size wC (wC.alloc (.cells #[.int .i64 y.zJ,.slice tp1 lp1 cp1,.slice tp2 lp2 cp2,.slice tp3 lp3 cp3] 108)) from(Below.refl _ _).alloc (Nat.le_refl _) _) KO_3.out.lt)
     have KX_4:=hide (KX_3.out.below (show Below wC.heap.size wC (wC.alloc (.cells #[.int .i64 y.zJ,.slice tp1 lp1 cp1,.slice tp2 lp2 cp2,.slice tp3 lp3 cp3] 108)) from(Below.refl _ _).alloc (Nat.le_refl _) _) KX_3.out.lt)
     have HN2:=hide (HN.out.all ((Below.refl _ _).alloc (Nat.le_refl _) (.cells #[.int .i64 y.zJ,.slice tp1 lp1 cp1,.slice tp2 lp2 cp2,.slice tp3 lp3 cp3] 108)))
     refine hK.out _ _ ?_ (fun hS2=>?_)
     ·exact⟨KO_4.out.cell,KX_4.out.cell⟩
     clear hK K hS1
     refine oE 5 (fun K hK=>?_)
     refine step1_T rfl _ _ _ rfl (w.heap.size+2) _ _ 4 80 Tryz.underlying27 info_PatchS rfl (by omega) rfl HG_4.out.own rfl (Bk.born _ _ _) (x:=y.t) (T.ow_st HN2.out.ows) HN2.out.nodup (fun b hb=>by have h3:=HN2.out.lo b hb;omega) (fun b hb hb2=>by have h1:=HG.out.lt b hb;have h3:=HN2.out.lo b hb2;omega) rfl (by rw[List.length_map,List.length_take];have:=HS.out.2.2.2.1.1;omega) (by rw[List.length_map,List.length_take];have:=HS.out.2.2.2.1.1;unfold maxLen;omega) (Nat.le_trans hsz hs_4) ?_
     intro v8 w8 F8 ho8 hg8 hv8
     obtain⟨t8,l8,c8,rfl⟩:=T.yX ho8.ow
     have HF8:=hide (Grow.out hv8 HF.out (fun hm=>by have h3:=HN2.out.lo _ hm;omega) (lL hgr hs_4))
     have HG_5:=hide (HG_4.out.app ho8 hg8 hv8 (fun b hb hb2=>by have h1:=HG.out.ltR b hb2;have h3:=HN2.out.lo b hb;omega))
     have HB_5:=hide ((HG_4.out.own.more (show w.heap.size≤w.heap.size+2 by omega)).below HB_4.out HB_4.out.size hg8);have hs_5:wr.heap.size≤w8.heap.size:=Nat.le_trans hs_4 hg8.size
     have KP_5:=hide (KP_4.out.far1 hg8 (fun hm=>by have:=HG.out.own.lo _ hm;omega) HG_4.out.own)
     have KR_5:=hide (KR_4.out.far1 hg8 (fun hm=>by have:=HG.out.own.lo _ hm;omega) HG_4.out.own)
     have KO_5:=hide (KO_4.out.far1 hg8 (HF.out) HG_4.out.own)
     have KX_5:=hide (KX_4.out.far1 hg8 (fun hm=>by have:=HG.out.lt _ hm;omega) HG_4.out.own)
     clear ho8 hg8 hv8
     refine hK.out _ _ ?_ (fun hS3=>?_)
     ·exact⟨KO_5.out.cell,KX_5.out.cell⟩
     clear hK K hS2
     refine tE 6 hS3 ?_
     refine wJ (o:=_) (by kernel_rfl) rfl (by kernel_rfl) ?_
     have fo8:=KO_5.out.free;have co8:=KO_5.out.cell;have lo8:=KO_5.out.lt
     go_wp2
     go_roundw
     case rel=>exact⟨k+1,.slice t8 l8 c8,F8,by omega,by go_num,(by rw[xQ HY.out,List.map_append];exact HG_5.out.far HF8.out HGF.out _ _),HF8.out,KP_5.out.far ng1 _,KR_5.out.far ng2 _,(by have:=KO_5.out.set_ 4 (.slice t8 l8 c8);simpa using this),HB_5.out.setCell (by simp;omega) _⟩
     case measure=>simp[intOf];omega
    obtain rfl:k=x.zP.length:=by omega
    obtain⟨W3,hW3⟩: ∃ W',W'=wr:=⟨_,rfl⟩
    subst hW3
    have hG:=HG.out;rw[List.take_length] at hG
    have HG:=hide (show Grow _ _ 101 3 [] [] (.slice none 0 0) [T.sl 26 1 (x.zL.map (T.ints 2)),T.ints 2 x.zQ,T.sl 96 1 (x.zO.map xI.t),T.sl 108 4 (x.zP.map xG.t)] (FR2++F) [.slice tA lA cA,.slice tB lB cB,.slice tN1 lN1 cN1,.slice tN2 lN2 cN2] from hG.next 101 3);clear hG
    have hGF:g ∉ FR2++F:=fun hm=>(List.mem_append.1 hm).elim HGF.out HF.out
    replace HGF:=hide hGF;clear hGF HF hs hgr
    generalize FR2++F=FR3 at *
    have HFO:Sec (g ∉ ([]:List Nat)):=hide (by simp)
    have hsz0:=hsz;clear hsz
    have kp:=KP.out.cell
    go_wp2
    go_loopw [56] (fun i wr=> ∃ (k:Nat) (v:Value) (F:List Nat),k≤x.zG.zC.length∧i= .int .i64 (k:Int)∧Grow (w.heap.size+2) wr 101 3 ((x.zG.zC.take k).map xH.t) F v [T.sl 26 1 (x.zL.map (T.ints 2)),T.ints 2 x.zQ,T.sl 96 1 (x.zO.map xI.t),T.sl 108 4 (x.zP.map xG.t)] FR3 [.slice tA lA cA,.slice tB lB cB,.slice tN1 lN1 cN1,.slice tN2 lN2 cN2]∧g ∉ F∧Bk wr w.heap.size 32 #[.int .i64 x.zF,(.slice va1 x.zL.length vc1),(.slice va2 x.zO.length vc2),(.slice va3 x.zQ.length vc3),(.slice va4 x.zP.length vc4),(.slice va5 x.zG.zC.length vc5)]∧Bk wr (w.heap.size+1) 32 #[.int .i64 0,.slice none 0 0,.slice none 0 0,.slice none 0 0,.slice none 0 0,.slice none 0 0]∧Bk wr g 32 #[.int .i64 x.zF,.slice tA lA cA,.slice tN1 lN1 cN1,.slice tB lB cB,.slice tN2 lN2 cN2,v]∧Below w.heap.size w wr) (fun i _=>x.zG.zC.length - (intOf i).toNat)
    case atStart=>exact⟨0,.slice none 0 0,[],Nat.zero_le _,rfl,by simpa using HG.out,by simp,KP.out,KR.out,KO.out,HB.out⟩
    case round=>
     clear HG HFO KP KR KO HB kp hsz0
     obtain⟨k,v,F,hk,rfl,hG,hgF,b1,b2,b3,hb⟩:=hrel
     obtain⟨tN3,lN3,cN3,rfl⟩:=hG.form
     have HG:=hide hG;have HF:=hide hgF;have KP:=hide b1;have KR:=hide b2;have KO:=hide b3;have HB:=hide hb;clear hG hgF b1 b2 b3 hb
     have hsz:w.heap.size+2≤wr.heap.size:=by have:=KR.out.lt;omega
     have hgr:g<wr.heap.size:=KO.out.lt
     have hs:wr.heap.size≤wr.heap.size:=Nat.le_refl _
     by_cases hlt:k<x.zG.zC.length
     ·
      have hsy:=HS.out.2.2.2.2.2 _ (List.getElem_mem hlt)
      have hgk:=gE hlt
      obtain⟨b,off,cs1,hA,hb1,hcs,hcell⟩:=HX5.out k x.zG.zC[k] hgk
      subst hA
      generalize x.zG.zC[k]=y at *
      have HY:=hide hgk;have HSY:=hide hsy;clear hgk hsy
      obtain⟨u2,rfl,hRY2⟩:=xH.yO (show T.rds _ _ _ by simpa only[xH.t,T.rd] using hcs)
      have d0:=(HB.out.cell hb1).trans (hcell 0 (.string y.zV) rfl)
      have d1:=(HB.out.cell hb1).trans (hcell 1 (.int .i64 y.zI) rfl)
      have d2:=(HB.out.cell hb1).trans (hcell 2 (u2) rfl)
      rw[show off+(k * 3+0)=off+k * 3 by omega] at d0
      rw[show off+(k * 3+1)=off+k * 3+1 by omega] at d1
      rw[show off+(k * 3+2)=off+k * 3+2 by omega] at d2
      have RY2:=hide (T.yF hRY2 HB.out);clear hRY2
      clear hcs hcell
      obtain⟨ua2,ul2,uc2,rfl⟩:=T.yV RY2.out
      have hq1:b<wr.heap.size:=lL hb1 HB.out.size
      have HXA:=hide (show Below wr.heap.size wr (wr.alloc (.cells #[.string y.zV,.int .i64 y.zI,.slice ua2 ul2 uc2] 101)) from(Below.refl _ _).alloc (Nat.le_refl _) _)
      have HXB:=hide (Bk.born wr 101 #[.string y.zV,.int .i64 y.zI,.slice ua2 ul2 uc2])
      have HB_1:=hide (yJ HB.out HB.out.size HXA.out);have HG_1:=hide (HG.out.all HXA.out);have hs_1:wr.heap.size≤(wr.alloc (.cells #[.string y.zV,.int .i64 y.zI,.slice ua2 ul2 uc2] 101)).heap.size:=Nat.le_trans hs (HXA.out).size
      have KP_1:=hide (KP.out.below HXA.out KP.out.lt)
      have KR_1:=hide (KR.out.below HXA.out KR.out.lt)
      have KO_1:=hide (KO.out.below HXA.out KO.out.lt)
      have KX_1:=HXB
      have ko:=KO_1.out.cell;have kx:=KX_1.out.cell
      obtain⟨es,hrd,hrs⟩:=T.rd_row RY2.out;rw[List.length_map] at hrd;have HRD:=hide hrd;have HRS:=hide hrs;clear hrd hrs
      have hcl:y.zM.length≤1048576:=HSY.out.2
      have hgx: ¬ g=wr.heap.size:=by omega
      have hgx2: ¬ wr.heap.size=g:=by omega
      have hx1:wr.heap.size<(wr.alloc (.cells #[.string y.zV,.int .i64 y.zI,.slice ua2 ul2 uc2] 101)).heap.size:=by simp
      have HT1:=hide (show ((wr.alloc (.cells #[.string y.zV,.int .i64 y.zI,.slice ua2 ul2 uc2] 101)).alloc (.cells #[] 98)).ownsRow (wr.heap.size+1) 98 2 (.slice (some ⟨wr.heap.size+1,0,none⟩) 0 0) 0 [] from wH (by simpa using World.ownsRow_made (wr.alloc (.cells #[.string y.zV,.int .i64 y.zI,.slice ua2 ul2 uc2] 101)) #[] 0 (Nat.le_refl _) (by decide) rfl) (by simp))
      have HT2:=hide (show Rd ((wr.alloc (.cells #[.string y.zV,.int .i64 y.zI,.slice ua2 ul2 uc2] 101)).alloc (.cells #[] 98)) (.slice ua2 ul2 uc2) 2 y.zM.length es from(HRD.out.below HXA.out).below ((Below.refl _ _).alloc (Nat.le_refl _) _))
      go_wp2_with (first|(at_builtin;refine app_many rfl _ _ _ rfl (wr.heap.size+1) _ _ 2 16 Tryz.underlying99 info_SendS rfl (by omega) (.slice (some ⟨wr.heap.size+1,0,none⟩) 0 0) 0 [] rfl HT1.out _ y.zM.length es rfl HT2.out (T.rds_cell _ _ HRS.out) (by omega) (by omega) (by first|(simp;done)|(simp;omega)) ?_;intro v7 w7 hr7 hg7 hv7;have hb7:Below (wr.alloc (.cells #[.string y.zV,.int .i64 y.zI,.slice ua2 ul2 uc2] 101)).heap.size (wr.alloc (.cells #[.string y.zV,.int .i64 y.zI,.slice ua2 ul2 uc2] 101)) w7:=((Below.refl _ _).alloc (Nat.le_refl _) _).grown hg7 (by simp) (fun j hj=>Nat.le_of_eq (show (wr.alloc (.cells #[.string y.zV,.int .i64 y.zI,.slice ua2 ul2 uc2] 101)).heap.size=j by simpa[Value.ownBlock] using hj));have HC:=hide (Own.of_flat (xM.flat _) xM.wide_t hr7 HRS.out (by simp));clear hr7 hg7 hv7;obtain⟨t7,l7,c7,rfl⟩:=T.yX HC.out.ow;have HB_2:=hide (yJ HB_1.out HB_1.out.size hb7);have HG_2:=hide (HG_1.out.all hb7);have hs_2:wr.heap.size≤w7.heap.size:=Nat.le_trans hs_1 (hb7).size;have KP_2:=hide (KP_1.out.below hb7 KP_1.out.lt);have KR_2:=hide (KR_1.out.below hb7 KR_1.out.lt);have KO_2:=hide (KO_1.out.below hb7 KO_1.out.lt);have KX_2:=hide (KX_1.out.below hb7 KX_1.out.lt);have cx:=KX_2.out.cell;have fx:=KX_2.out.free;have co:=KO_2.out.cell;have lx:=KX_2.out.lt;clear hb7;have HG_3:=hide (HG_2.out.far (g:=wr.heap.size) (fun hm=>by have:=HG.out.lt _ hm;omega) (fun hm=>by have:=HG.out.ltR _ hm;omega) 2 (.slice t7 l7 c7));have HB_3:=hide (Below.setCell (p:=⟨wr.heap.size,2,none⟩) HB_2.out (show w.heap.size≤wr.heap.size by omega) (.slice t7 l7 c7));have hs_3:wr.heap.size≤(w7.setCell ⟨wr.heap.size,2,none⟩ (.slice t7 l7 c7)).heap.size:=(by simp[World.setCell];omega);have KX_3:Sec (Bk (w7.setCell ⟨wr.heap.size,2,none⟩ (.slice t7 l7 c7)) wr.heap.size 101 #[.string y.zV,.int .i64 y.zI,.slice t7 l7 c7]):=hide (by have:=KX_2.out.set_ 2 (.slice t7 l7 c7);simpa using this);have KP_3:=hide (KP_2.out.far (p:=⟨wr.heap.size,2,none⟩) (by simp;omega) (.slice t7 l7 c7));have KR_3:=hide (KR_2.out.far (p:=⟨wr.heap.size,2,none⟩) (by simp;omega) (.slice t7 l7 c7));have KO_3:=hide (KO_2.out.far (p:=⟨wr.heap.size,2,none⟩) (by simpa using hgx) (.slice t7 l7 c7));have HN2:=hide (⟨xH.ow_mk (x:=y) (T.ow_far (g:=wr.heap.size) HC.out.ow (fun hm=>by have:=HC.out.lo _ hm;omega) 2 (.slice t7 l7 c7)),by rw[List.append_nil];exact HC.out.nodup,fun b hb=>HC.out.lo b (by simpa using hb)⟩:Nx (wr.heap.size+1) (w7.setCell ⟨wr.heap.size,2,none⟩ (.slice t7 l7 c7)) y.fs _ _))|(at_builtin;refine app1_T rfl _ _ _ rfl (w.heap.size+2) _ _ 3 48 Tryz.underlying28 info_StripS rfl (by omega) rfl HG_3.out.own (x:=y.t) (T.ow_st HN2.out.ows) HN2.out.nodup (fun b hb=>by have h3:=HN2.out.lo b hb;omega) (fun b hb hb2=>by have h1:=HG.out.lt b hb;have h3:=HN2.out.lo b hb2;omega) rfl (by show Value.slice (some ⟨w7.heap.size,0,none⟩) 1 1=_;simp[World.setCell]) (by rw[List.length_map,List.length_take];have:=HS.out.2.2.2.2.1;omega) (by rw[List.length_map,List.length_take];have:=HS.out.2.2.2.2.1;omega) (Nat.le_trans hsz hs_3) ?_;intro v8 w8 F8 ho8 hg8 hv8;obtain⟨t8,l8,c8,rfl⟩:=T.yX ho8.ow;have HF8:=hide (Grow.out hv8 HF.out (fun hm=>by have h3:=HN2.out.lo _ hm;omega) (lL hgr hs_3));have HG_4:=hide (HG_3.out.app ho8 hg8 hv8 (fun b hb hb2=>by have h1:=HG.out.ltR b hb2;have h3:=HN2.out.lo b hb;omega));have HB_4:=hide ((HG_3.out.own.more (show w.heap.size≤w.heap.size+2 by omega)).below HB_3.out HB_3.out.size hg8);have hs_4:wr.heap.size≤w8.heap.size:=Nat.le_trans hs_3 hg8.size;have KP_4:=hide (KP_3.out.far1 hg8 (fun hm=>by have:=HG.out.own.lo _ hm;omega) HG_3.out.own);have KR_4:=hide (KR_3.out.far1 hg8 (fun hm=>by have:=HG.out.own.lo _ hm;omega) HG_3.out.own);have KO_4:=hide (KO_3.out.far1 hg8 (HF.out) HG_3.out.own);have KX_4:=hide (KX_3.out.far1 hg8 (fun hm=>by have:=HG.out.lt _ hm;omega) HG_3.out.own);clear ho8 hg8 hv8;have fo8:=KO_4.out.free;have co8:=KO_4.out.cell;have lo8:=KO_4.out.lt))
      go_roundw
      case rel=>exact⟨k+1,.slice t8 l8 c8,F8,by omega,by go_num,(by rw[xQ HY.out,List.map_append];exact HG_4.out.far HF8.out HGF.out _ _),HF8.out,KP_4.out.far ng1 _,KR_4.out.far ng2 _,(by have:=KO_4.out.set_ 5 (.slice t8 l8 c8);simpa using this),HB_4.out.setCell (by simp;omega) _⟩
      case measure=>simp[intOf];omega
     ·obtain rfl:k=x.zG.zC.length:=by omega
      have ko:=KO.out.cell;have fo:=KO.out.free;have kr:=KR.out.cell;have fr:=KR.out.free
      have hr1:w.heap.size+1<wr.heap.size:=by omega
      have nn1: ¬ g=w.heap.size+1:=by omega
      go_wp2
      obtain⟨F1,F2,F3,F4,o1,o2,o3,o4,nd,lo,gn⟩:=HG.out.split4
      have hr2:=gn (w.heap.size+1) (fun hm=>by have:=HG.out.own.lo _ hm;omega) (fun hm=>by have:=HG.out.lo _ hm;omega)
      have o5:=HG.out.own.ow;rw[List.take_length] at o5
      have hO:=xK.ow_mk (x:=x) o1 o2 o3 o4 o5
      refine bodyPost_ret (v:= .agg #[.int .i64 x.zF,.slice tA lA cA,.slice tN1 lN1 cN1,.slice tB lB cB,.slice tN2 lN2 cN2,.slice tN3 lN3 cN3]) (by simp[results,Tryz.results45,go_sem,ko,fo,kr,fr]) rfl ?_
      exact⟨_,_,_,_,_,_,rfl,T.yP (T.yP (T.yP (T.yP (T.yP (T.yP hO hr2 _ _) hr2 _ _) hr2 _ _) hr2 _ _) hr2 _ _) hr2 _ _,nd,fun b hb=>by have:=lo b hb;omega,(((((HB.out.setCell (by simp) _).setCell (by simp) _).setCell (by simp) _).setCell (by simp) _).setCell (by simp) _).setCell (by simp) _⟩
 have HE2:=hide (show ((w.alloc (.cells #[.int .i64 x.zF,(.slice va1 x.zL.length vc1),(.slice va2 x.zO.length vc2),(.slice va3 x.zQ.length vc3),(.slice va4 x.zP.length vc4),(.slice va5 x.zG.zC.length vc5)] 32)).alloc (.cells #[.int .i64 0,.slice none 0 0,.slice none 0 0,.slice none 0 0,.slice none 0 0,.slice none 0 0] 32)).heap.size=w.heap.size+1+1 by simp)
 go_region_held3 (fun w'=> ∀ i,w'.cell? ⟨w.heap.size,i,none⟩= #[.int .i64 x.zF,(.slice va1 x.zL.length vc1),(.slice va2 x.zO.length vc2),(.slice va3 x.zQ.length vc3),(.slice va4 x.zP.length vc4),(.slice va5 x.zG.zC.length vc5)][i]?) (first|with_reducible exact((((((KB.out.far (by first|with_reducible exact Nat.ne_of_lt KA.out.lt|(simp;done)|(simp;omega)) _).far (by first|with_reducible exact Nat.ne_of_lt KA.out.lt|(simp;done)|(simp;omega)) _).far (by first|with_reducible exact Nat.ne_of_lt KA.out.lt|(simp;done)|(simp;omega)) _).far (by first|with_reducible exact Nat.ne_of_lt KA.out.lt|(simp;done)|(simp;omega)) _).far (by first|with_reducible exact Nat.ne_of_lt KA.out.lt|(simp;done)|(simp;omega)) _).far (by first|with_reducible exact Nat.ne_of_lt KA.out.lt|(simp;done)|(simp;omega)) _).cell|with_reducible exact(KB.out.alloc _).cell|with_reducible exact KB.out.cell|with_reducible exact(KA.out.alloc _).cell|with_reducible exact KA.out.cell|exact HKa.out.cell|exact(HKa.out.alloc _).cell) (first|(go_at_call 111;refine(c_clones _ x.zL _ HS.out.1 (T.yF R1.out (by first|with_reducible exact HBa.out|with_reducible exact HBa.out.drew|with_reducible exact below_drewN HBa.out _|with_reducible exact HBa.out.alloc so _|with_reducible exact(HBa.out.alloc so _).drew|with_reducible exact(HBa.out.drew).alloc so _|with_reducible exact below_drewN (HBa.out.alloc so _) _|with_reducible exact(below_drewN HBa.out _).alloc so _))).mono ?_;rintro e wA ⟨vA,FA,rfl,hoA,hbA⟩;obtain⟨tA,lA,cA,rfl⟩:=T.yX hoA.ow;have OA:=hide hoA;have CA:=hide (show Below ((w.alloc (.cells #[.int .i64 x.zF,(.slice va1 x.zL.length vc1),(.slice va2 x.zO.length vc2),(.slice va3 x.zQ.length vc3),(.slice va4 x.zP.length vc4),(.slice va5 x.zG.zC.length vc5)] 32)).alloc (.cells #[.int .i64 0,.slice none 0 0,.slice none 0 0,.slice none 0 0,.slice none 0 0,.slice none 0 0] 32)).heap.size ((w.alloc (.cells #[.int .i64 x.zF,(.slice va1 x.zL.length vc1),(.slice va2 x.zO.length vc2),(.slice va3 x.zQ.length vc3),(.slice va4 x.zP.length vc4),(.slice va5 x.zG.zC.length vc5)] 32)).alloc (.cells #[.int .i64 0,.slice none 0 0,.slice none 0 0,.slice none 0 0,.slice none 0 0,.slice none 0 0] 32)) wA from(by first|with_reducible exact hbA|with_reducible exact undrew hbA|with_reducible exact wM hbA|with_reducible exact yM hbA|with_reducible exact undrew (yM hbA)|with_reducible exact yM (undrew hbA)|with_reducible exact wM (yM hbA)|with_reducible exact yM (wM hbA)));have KA:=hide (HKa.out.below CA.out HKa.out.lt);have RA:=hide (HRa.out.below CA.out HRa.out.lt);(try ((first|have gA:=Bk.below (Bk.born _ _ _) hbA (by simp)|have gA:=Bk.below (Bk.drew (Bk.born _ _ _)) hbA (by simp));rw[HE2.out] at gA;have GA:=hide gA;clear gA;have ga:=GA.out.cell;have gaf:=GA.out.free));clear hoA hbA)|(go_at_call 112;refine(c_clone _ x.zQ _ (Rd.below R3.out (yJ HBa.out HBa.out.size (by first|with_reducible exact CA.out|with_reducible exact CA.out.drew|with_reducible exact below_drewN CA.out _|with_reducible exact CA.out.alloc (CA.out.size) _|with_reducible exact(CA.out.drew).alloc (CA.out.size) _|with_reducible exact(CA.out.alloc (CA.out.size) _).drew|with_reducible exact below_drewN (CA.out.alloc (CA.out.size) _) _))) HS.out.2.2.1).mono ?_;rintro e wB ⟨vB,rfl,hoB,hbB⟩;obtain⟨tB,cB,rfl,-,-,-⟩:=hoB.rd.open_;have OB:=hide (Nv.ints hoB hbB);have CB:=hide (show Below wA.heap.size wA wB from(by first|with_reducible exact hbB|with_reducible exact undrew hbB|with_reducible exact wM hbB|with_reducible exact yM hbB|with_reducible exact undrew (yM hbB)|with_reducible exact yM (undrew hbB)|with_reducible exact yM (wM hbB)));have KB:=hide (KA.out.below CB.out KA.out.lt);have RB:=hide (RA.out.below CB.out RA.out.lt);(try (have GB:=hide (Bk.below (Bk.born _ _ _) hbB (by simp));have gb:=GB.out.cell;have gbf:=GB.out.free));(try (have GC:=hide (GA.out.below CB.out GA.out.lt);have gc:=GC.out.cell;have gcf:=GC.out.free));clear hoB hbB))
 ·-- the alloc comes last
  have ow:T.ows wB [T.sl 26 1 (x.zL.map (T.ints 2)),T.ints 2 x.zQ] (FA++(_++ [])) [.slice tA lA cA,.slice tB x.zQ.length cB]:=T.c_ol (T.ow_all OA.out.ow CB.out) (T.c_ol OB.out.ow T.c_oe)
  have s1:=CA.out.size;have s2:=CB.out.size;rw[HE2.out] at s1
  have la: ∀ b ∈ FA,w.heap.size+2≤b:=fun b hb=>by have h1:=OA.out.lo b hb;(try simp at h1);omega
  have ta:=OA.out.lt;have lb:=OB.out.lo;have tb:=OB.out.lt
  have hwb:Below w.heap.size w wB:=yJ (yJ HBa.out HBa.out.size CA.out) (yJ HBa.out HBa.out.size CA.out).size CB.out
  have nd:(FA++(_++ [])).Nodup:=uJ OA.out.nodup (by rw[List.append_nil];exact OB.out.nodup) (fun b hb hm=>by rw[List.append_nil] at hm;have h1:=ta b hb;have h2:=lb b hm;(try simp at h2);omega)
  have lo: ∀ b ∈ FA++(_++ []),w.heap.size+2≤b:=fun b hb=>by rw[List.append_nil] at hb;rcases List.mem_append.1 hb with h|h;(· exact la b h);(· have h2:=lb b h;(try simp at h2);omega)
  exact REST wB.heap.size _ _ _ _ _ _ _ _ _ _ _ _ _ _ _ _ _ (KB.out.alloc _) (RB.out.alloc _) (Bk.born _ _ _) (T.ows_all ow ((Below.refl _ _).alloc (Nat.le_refl _) _)) nd lo (fun hm=>by rw[List.append_nil] at hm;rcases List.mem_append.1 hm with h|h;(· have h1:=ta _ h;have h2:=OA.out.lo _ h;(try simp at h2);omega);(· have h1:=tb _ h;have h2:=lb _ h;(try simp at h2);omega)) (by omega) (hwb.alloc hwb.size _)
 ·
  have ow:T.ows wB [T.sl 26 1 (x.zL.map (T.ints 2)),T.ints 2 x.zQ] (FA++(_++ [])) [.slice tA lA cA,.slice tB x.zQ.length cB]:=T.c_ol (T.ow_all OA.out.ow CB.out) (T.c_ol OB.out.ow T.c_oe)
  have s1:=CA.out.size;have s2:=CB.out.size;rw[HE2.out] at s1
  have la: ∀ b ∈ FA,w.heap.size+2≤b:=fun b hb=>by have h1:=OA.out.lo b hb;(try simp at h1);omega
  have ta:=OA.out.lt;have lb:=OB.out.lo;have tb:=OB.out.lt
  have hwb:Below w.heap.size w wB:=yJ (yJ HBa.out HBa.out.size CA.out) (yJ HBa.out HBa.out.size CA.out).size CB.out
  have nd:(FA++(_++ [])).Nodup:=uJ OA.out.nodup (by rw[List.append_nil];exact OB.out.nodup) (fun b hb hm=>by rw[List.append_nil] at hm;have h1:=ta b hb;have h2:=lb b hm;(try simp at h2);omega)
  have lo: ∀ b ∈ FA++(_++ []),w.heap.size+2≤b:=fun b hb=>by rw[List.append_nil] at hb;rcases List.mem_append.1 hb with h|h;(· exact la b h);(· have h2:=lb b h;(try simp at h2);omega)
  have g1:w.heap.size≠wA.heap.size:=by omega
  have g2:w.heap.size+1≠wA.heap.size:=by omega
  have gf:wA.heap.size ∉ FA++(_++ []):=(fun hm=>by rw[List.append_nil] at hm;rcases List.mem_append.1 hm with h|h;(· have h1:=ta _ h;have h2:=OA.out.lo _ h;(try simp at h2);omega);(· have h1:=tb _ h;have h2:=lb _ h;(try simp at h2);omega))
  have gl:w.heap.size≤wA.heap.size:=by omega
  exact REST (wA.heap.size) _ _ _ _ _ _ _ _ _ _ _ _ _ _ _ _ _ ((((((KB.out.far g1 _).far g1 _).far g1 _).far g1 _).far g1 _).far g1 _) ((((((RB.out.far g2 _).far g2 _).far g2 _).far g2 _).far g2 _).far g2 _) ((((((GB.out.set_ _ _).set_ _ _).set_ _ _).set_ _ _).set_ _ _).set_ _ _) (T.yP (T.yP (T.yP (T.yP (T.yP (T.yP ow gf _ _) gf _ _) gf _ _) gf _ _) gf _ _) gf _ _) nd lo gf (by omega) ((((((hwb.setCell gl _).setCell gl _).setCell gl _).setCell gl _).setCell gl _).setCell gl _)
 ·
  have ow:T.ows wB [T.sl 26 1 (x.zL.map (T.ints 2)),T.ints 2 x.zQ] (FA++(_++ [])) [.slice tA lA cA,.slice tB x.zQ.length cB]:=T.c_ol (T.ow_all OA.out.ow CB.out) (T.c_ol OB.out.ow T.c_oe)
  have s1:=CA.out.size;have s2:=CB.out.size;rw[HE2.out] at s1
  have la: ∀ b ∈ FA,w.heap.size+2≤b:=fun b hb=>by have h1:=OA.out.lo b hb;(try simp at h1);omega
  have ta:=OA.out.lt;have lb:=OB.out.lo;have tb:=OB.out.lt
  have hwb:Below w.heap.size w wB:=yJ (yJ HBa.out HBa.out.size CA.out) (yJ HBa.out HBa.out.size CA.out).size CB.out
  have nd:(FA++(_++ [])).Nodup:=uJ OA.out.nodup (by rw[List.append_nil];exact OB.out.nodup) (fun b hb hm=>by rw[List.append_nil] at hm;have h1:=ta b hb;have h2:=lb b hm;(try simp at h2);omega)
  have lo: ∀ b ∈ FA++(_++ []),w.heap.size+2≤b:=fun b hb=>by rw[List.append_nil] at hb;rcases List.mem_append.1 hb with h|h;(· exact la b h);(· have h2:=lb b h;(try simp at h2);omega)
  have s3:=GA.out.lt
  have g1:w.heap.size≠(w.heap.size+1+1):=by omega
  have g2:w.heap.size+1≠(w.heap.size+1+1):=by omega
  have gf:(w.heap.size+1+1) ∉ FA++(_++ []):=(fun hm=>by rw[List.append_nil] at hm;rcases List.mem_append.1 hm with h|h;(· have h1:=ta _ h;have h2:=OA.out.lo _ h;(try simp at h2);omega);(· have h1:=tb _ h;have h2:=lb _ h;(try simp at h2);omega))
  have gl:w.heap.size≤(w.heap.size+1+1):=by omega
  exact REST ((w.heap.size+1+1)) _ _ _ _ _ _ _ _ _ _ _ _ _ _ _ _ _ ((((((KB.out.far g1 _).far g1 _).far g1 _).far g1 _).far g1 _).far g1 _) ((((((RB.out.far g2 _).far g2 _).far g2 _).far g2 _).far g2 _).far g2 _) ((((((GC.out.set_ _ _).set_ _ _).set_ _ _).set_ _ _).set_ _ _).set_ _ _) (T.yP (T.yP (T.yP (T.yP (T.yP (T.yP ow gf _ _) gf _ _) gf _ _) gf _ _) gf _ _) gf _ _) nd lo gf (by omega) ((((((hwb.setCell gl _).setCell gl _).setCell gl _).setCell gl _).setCell gl _).setCell gl _)
end Go.Proofs.YtoibekfhepnedaaGreat
