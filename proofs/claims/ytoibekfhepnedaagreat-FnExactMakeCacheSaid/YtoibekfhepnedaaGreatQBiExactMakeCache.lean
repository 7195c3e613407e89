/- Contract: the reference's copy of a session. The session after an edit: plain cases; one field of own data replaced. slices.Insert, slices.Delete, slices.Clone at clips: the library's own text is followed. slices.Clone and slices.Insert at clips, whole; edited. The program's edited clips. Contract: isInRange, program. Contract: the program's apply. The cache after an edit, in plain words. -/
import Derived.Test.YtoibekfhepnedaaGreatQBhExactMakeCache
import Derived.Test.YtoibekfhepnedaaGreatQAtExactMakeCache
import Derived.Test.YtoibekfhepnedaaGreatQAqExactMakeCache
import Derived.Test.YtoibekfhepnedaaGreatQBfExactMakeCache
import Derived.Test.YtoibekfhepnedaaGreatQAwExactMakeCache
import Derived.Laws.Externs
import Derived.Deep.RegionLaw
import Derived.Lib.AppendZeros
import Derived.Lib.SliceRun
import Derived.Deep.RegionHeld3
import Derived.Test.YtoibekfhepnedaaGreatQAcExactMakeCache
import Derived.Test.YtoibekfhepnedaaGreatQBgExactMakeCache
import Derived.Test.YtoibekfhepnedaaGreatQAmExactMakeCache
set_option linter.unusedVariables false
set_option linter.unusedSimpArgs false
set_option maxHeartbeats 2000000
set_option maxRecDepth 20000
namespace Go.Proofs.YtoibekfhepnedaaGreat
section
open Go.RowKit
theorem c_l27Own (x:xK) (b o:Nat) (w:World) (hs:x.small) (h:T.at w x.fs b o):Calls Tryz.prog 38 #[.pointer (some ⟨b,o,none⟩)] w fun e w'=> ∃ v1 v2 v3 v4 v5 F,e= .returned (.agg #[.int .i64 x.zF,v1,v2,v3,v4,v5])∧Nw w w' x.fs F [.int .i64 x.zF,v1,v2,v3,v4,v5]:=by
 have HAT:=hide h
 obtain⟨hlt0,cs,hr,hc⟩:=h
 obtain⟨v1,v2,v3,v4,v5,rfl,h1,h2,h3,h4,h5⟩:=xK.yO hr
 clear hr
 have R1:=hide h1;obtain⟨va1,vc1,rfl,vl1,vm1,vx1⟩:=T.yN h1
 have HX1:=hide vx1;clear vx1 h1
 have R2:=hide h2;obtain⟨va2,vc2,rfl,vl2,vm2,vx2⟩:=T.yN h2
 have HX2:=hide vx2;clear vx2 h2
 have h3i:=T.yT.1 h3;obtain⟨va3,vc3,rfl,vl3,vm3,vx3⟩:=h3i.open_
 have R3:=hide h3i;have HX3:=hide vx3;clear vx3 h3 h3i
 have R4:=hide h4;obtain⟨va4,vc4,rfl,vl4,vm4,vx4⟩:=T.yN h4
 have HX4:=hide vx4;clear vx4 h4
 have R5:=hide h5;obtain⟨va5,vc5,rfl,vl5,vm5,vx5⟩:=T.yN h5
 have HX5:=hide vx5;clear vx5 h5
 have HL:=hide hlt0;have HCC:=hide hc;have HB0:=hide (Below.refl w.heap.size w);clear hlt0 hc
 have HS:=hide hs;clear hs
 have HBa:=hide (show Below w.heap.size w (w.alloc (.cells #[.int .i64 0,.slice none 0 0,.slice none 0 0,.slice none 0 0,.slice none 0 0,.slice none 0 0] 32)) from(Below.refl _ _).alloc (Nat.le_refl _) _);have HRa:=hide (Bk.born w 32 #[.int .i64 0,.slice none 0 0,.slice none 0 0,.slice none 0 0,.slice none 0 0,.slice none 0 0])
 have HE1:=hide (show (w.alloc (.cells #[.int .i64 0,.slice none 0 0,.slice none 0 0,.slice none 0 0,.slice none 0 0,.slice none 0 0] 32)).heap.size=w.heap.size+1 by simp)
 go_enter Tryz.func38,Tryz.ntmps38
 go_wp2_with fail
 rename_i Q1 K1 hK1
 have REST: ∀ (g:Nat) (tX:Option Addr) (lX cX:Nat) (FR:List Nat) (u9 u10 u11 u12 u13 u14 u15 u16 u17 u18:Value) (W:World),Bk W w.heap.size 32 #[.int .i64 0,.slice none 0 0,.slice none 0 0,.slice none 0 0,.slice none 0 0,.slice none 0 0]→Bk W g 32 #[.int .i64 x.zF,.slice none 0 0,.slice none 0 0,.slice tX lX cX,.slice none 0 0,.slice none 0 0]→T.ows W [T.ints 2 x.zQ] FR [.slice tX lX cX]→FR.Nodup→(∀ b ∈ FR,w.heap.size+1≤b)→g ∉ FR→w.heap.size+1≤g→Below w.heap.size w W→K1 { tmps:= #[.pointer (some ⟨b,o,none⟩),undef,.pointer (some ⟨w.heap.size,0,none⟩),.pointer (some ⟨g,0,none⟩),undef,undef,undef,undef,undef,u9,u10,u11,u12,u13,u14,u15,u16,u17,u18,undef,undef,undef,undef,undef,undef,undef,undef,undef,undef,undef,undef,undef,undef,undef,undef,undef,undef,undef,undef,undef,undef,undef,undef,undef,undef,undef,undef,undef,undef,undef,undef,undef,undef,undef,undef,undef,undef,undef,undef,undef,undef,undef,undef,undef,undef,undef,undef,undef,undef,undef,undef,undef,undef,undef,undef,undef,undef,undef,undef,undef,undef,undef,undef,undef,undef,undef,undef,undef,undef,undef,undef,undef,undef,undef,undef,undef,undef,undef,undef,undef,undef,undef,undef,undef,undef,undef,undef,undef,undef,undef,undef,undef,undef,undef,undef,undef,undef,undef,undef],defers:= [] } W:=by
  intro g tX lX cX FR u9 u10 u11 u12 u13 u14 u15 u16 u17 u18 W bk2 bk3 ow nd lo gf gl hbw
  refine hK1 _ _ ?_
  clear hK1 K1 HBa HRa HE1
  have KR:=hide bk2;have KO:=hide bk3;have HB:=hide hbw;have HOW:=hide ow;have HND:=hide nd;have HLO:=hide lo;have HGF:=hide gf
  clear bk2 bk3 ow nd lo gf hbw
  have ng2:w.heap.size≠g:=by omega
  have hsz0:w.heap.size+1≤W.heap.size:=by have:=KR.out.lt;omega
  have HG:=hide (Grow.start HOW.out HND.out HLO.out 26 1);clear HOW HND HLO
  have HFO:Sec (g ∉ ([]:List Nat)):=hide (by simp)
  go_wp2
  go_loopw [4] (fun i wr=> ∃ (k:Nat) (v:Value) (F:List Nat),k≤x.zL.length∧i= .int .i64 (k:Int)∧Grow (w.heap.size+1) wr 26 1 ((x.zL.take k).map (T.ints 2)) F v [T.ints 2 x.zQ] FR [.slice tX lX cX]∧g ∉ F∧Bk wr w.heap.size 32 #[.int .i64 0,.slice none 0 0,.slice none 0 0,.slice none 0 0,.slice none 0 0,.slice none 0 0]∧Bk wr g 32 #[.int .i64 x.zF,v,.slice none 0 0,.slice tX lX cX,.slice none 0 0,.slice none 0 0]∧Below w.heap.size w wr) (fun i _=>x.zL.length - (intOf i).toNat)
  case atStart=>exact⟨0,.slice none 0 0,[],Nat.zero_le _,rfl,by simpa using HG.out,by simp,KR.out,KO.out,HB.out⟩
  case round=>
   clear HG HFO KR KO HB hsz0
   obtain⟨k,v,F,hk,rfl,hG,hgF,b2,b3,hb⟩:=hrel
   obtain⟨tN1,lN1,cN1,rfl⟩:=hG.form
   have HG:=hide hG;have HF:=hide hgF;have KR:=hide b2;have KO:=hide b3;have HB:=hide hb;clear hG hgF b2 b3 hb
   have hsz:w.heap.size+1≤wr.heap.size:=by have:=KR.out.lt;omega
   have hgr:g<wr.heap.size:=KO.out.lt
   have hs:wr.heap.size≤wr.heap.size:=Nat.le_refl _
   have p1:wr.cell? ⟨b,o+1,none⟩=some (.slice va1 x.zL.length vc1):=(HB.out.cell HL.out).trans (HCC.out 1 _ rfl)
   have lb:b<wr.heap.size:=lL HL.out HB.out.size
   have hkk:(k:Int)≤x.zL.length:=by omega
   by_cases hlt:k<x.zL.length
   ·
    have hsy:=HS.out.1.2 _ (List.getElem_mem hlt)
    have hgk:=gE hlt
    obtain⟨b1,off,cs1,hA,hb1,hcs,hcell⟩:=HX1.out k x.zL[k] hgk
    subst hA
    generalize x.zL[k]=y at *
    have HY:=hide hgk;have HSY:=hide hsy;clear hgk hsy
    have hq1:b1<wr.heap.size:=lL hb1 HB.out.size
    obtain⟨y0,rfl⟩:=T.rd_one hcs
    have d0:=(HB.out.cell hb1).trans (hcell 0 y0 rfl)
    rw[Nat.mul_one,Nat.add_zero] at d0
    have RY:=hide (T.yT.1 (T.yF hcs HB.out));clear hcs hcell
    obtain⟨ua0,uc0,rfl,-,-,-⟩:=RY.out.open_
    go_wp2
    refine wK (fun w'=>(∀ i,w'.cell? ⟨g,i,none⟩= #[.int .i64 x.zF,(.slice tN1 lN1 cN1),.slice none 0 0,.slice tX lX cX,.slice none 0 0,.slice none 0 0][i]?)∧w'.cell? ⟨b,o+1,none⟩=some (.slice (some ⟨b1,off,none⟩) x.zL.length vc1)∧w'.cell? ⟨b1,off+k,none⟩=some (.slice ua0 y.length uc0)) 13 (by kernel_rfl) ?_ (fun hS0=>?_)
    ·exact⟨KO.out.cell,p1,d0⟩
    refine tE 0 hS0 ?_
    refine tE 1 hS0 ?_
    refine tE 2 hS0 ?_
    refine tE 3 hS0 ?_
    refine tE 4 hS0 ?_
    refine tE 5 hS0 ?_
    refine tE 6 hS0 ?_
    refine tE 7 hS0 ?_
    refine tE 8 hS0 ?_
    have hHD:Below wr.heap.size wr wr.drew:=(Below.refl _ _).drew
    have HB_1:=hide (yJ HB.out HB.out.size hHD);have HG_1:=hide (HG.out.all hHD);have hs_1:wr.heap.size≤wr.drew.heap.size:=Nat.le_trans hs (hHD).size
    have KR_1:=hide (KR.out.below hHD KR.out.lt)
    have KO_1:=hide (KO.out.below hHD KO.out.lt)
    refine oE 9 (fun K hK=>?_)
    go_simp
    go_wp2_with (go_at_call 95;refine(c_l00Own _ y _ (Rd.below RY.out hHD) HSY.out).mono ?_;rintro e wC ⟨u,rfl,hoC,hbC⟩;obtain⟨tU,cU,rfl,-,-,-⟩:=hoC.rd.open_;have HN:=hide (Nv.ints hoC hbC);have hbX:Below wr.heap.size wr wC:=undrew hbC;have hbC:Below wr.drew.heap.size wr.drew wC:=hbC;clear hoC)
    have HB_2:=hide (yJ HB_1.out HB_1.out.size hbC);have HG_2:=hide (HG_1.out.all hbC);have hs_2:wr.heap.size≤wC.heap.size:=Nat.le_trans hs_1 (hbC).size
    have KR_2:=hide (KR_1.out.below hbC KR_1.out.lt)
    have KO_2:=hide (KO_1.out.below hbC KO_1.out.lt)
    clear hbC
    refine hK.out _ _ ?_ (fun hS1=>?_)
    ·exact⟨KO_2.out.cell,(hbX.cell (World.block_lt_of_cell? wr _ p1)).trans p1,(hbX.cell (World.block_lt_of_cell? wr _ d0)).trans d0⟩
    clear hK K hS0
    refine oE 10 (fun K hK=>?_)
    go_simp
    have HB_3:=hide (yJ HB_2.out HB_2.out.size (show Below wC.heap.size wC (wC.alloc (.cells #[.slice tU y.length cU] 26)) from(Below.refl _ _).alloc (Nat.le_refl _) _));have HG_3:=hide (HG_2.out.all (show Below wC.heap.size wC (wC.alloc (.cells #[.slice tU y.length cU] 26)) from(Below.refl _ _).alloc (Nat.le_refl _) _));have hs_3:wr.heap.size≤(wC.alloc (.cells #[.slice tU y.length cU] 26)).heap.size:=Nat.le_trans hs_2 ((show Below wC.heap.size wC (wC.alloc (.cells #[.slice tU y.length cU] 26)) from(Below.refl _ _).alloc (Nat.le_refl _) _)).size
    have KR_3:=hide (KR_2.out.below (show Below wC.heap.size wC (wC.alloc (.cells #[.slice tU y.length cU] 26)) from(Below.refl _ _).alloc (Nat.le_refl _) _) KR_2.out.lt)
    have KO_3:=hide (KO_2.out.below (show Below wC.heap.size wC (wC.alloc (.cells #[.slice tU y.length cU] 26)) from(Below.refl _ _).alloc (Nat.le_refl _) _) KO_2.out.lt)
    have HN2:=hide (T.ow_all HN.out.ow ((Below.refl _ _).alloc (Nat.le_refl _) (.cells #[.slice tU y.length cU] 26)))
    refine hK.out _ _ ?_ (fun hS2=>?_)
    ·exact⟨KO_3.out.cell,((hbX.alloc hbX.size (.cells #[.slice tU y.length cU] 26)).cell (World.block_lt_of_cell? wr _ p1)).trans p1,((hbX.alloc hbX.size (.cells #[.slice tU y.length cU] 26)).cell (World.block_lt_of_cell? wr _ d0)).trans d0⟩
    clear hK K hS1
    refine oE 11 (fun K hK=>?_)
    refine step1_T rfl _ _ _ rfl (w.heap.size+1) _ _ 1 24 Tryz.underlying24 wU rfl (by omega) rfl HG_3.out.own rfl (Bk.born _ _ _) (x:=T.ints 2 y) HN2.out HN.out.nodup (fun b hb=>by have h3:=HN.out.lo b hb;omega) (fun b hb hb2=>by have h1:=HG.out.lt b hb;have h3:=HN.out.lo b hb2;omega) rfl (by rw[List.length_map,List.length_take];have:=HS.out.1.1;omega) (by rw[List.length_map,List.length_take];have:=HS.out.1.1;unfold maxLen;omega) (Nat.le_trans hsz hs_3) ?_
    intro v8 w8 F8 ho8 hg8 hv8
    have hbY:Below w.heap.size wr w8:=((hbX.alloc hbX.size (.cells #[.slice tU y.length cU] 26)).mono (Nat.le_trans (Nat.le_succ _) hsz)).grown hg8 (Nat.le_trans (Nat.le_trans (Nat.le_succ _) hsz) (hbX.alloc hbX.size (.cells #[.slice tU y.length cU] 26)).size) (fun j hj=>by have h1:=HG.out.own.row j hj;omega)
    obtain⟨t8,l8,c8,rfl⟩:=T.yX ho8.ow
    have HF8:=hide (Grow.out hv8 HF.out (fun hm=>by have h3:=HN.out.lo _ hm;omega) (lL hgr hs_3))
    have HG_4:=hide (HG_3.out.app ho8 hg8 hv8 (fun b hb hb2=>by have h1:=HG.out.ltR b hb2;have h3:=HN.out.lo b hb;omega))
    have HB_4:=hide ((HG_3.out.own.more (show w.heap.size≤w.heap.size+1 by omega)).below HB_3.out HB_3.out.size hg8);have hs_4:wr.heap.size≤w8.heap.size:=Nat.le_trans hs_3 hg8.size
    have KR_4:=hide (KR_3.out.far1 hg8 (fun hm=>by have:=HG.out.own.lo _ hm;omega) HG_3.out.own)
    have KO_4:=hide (KO_3.out.far1 hg8 (HF.out) HG_3.out.own)
    clear ho8 hg8 hv8
    refine hK.out _ _ ?_ (fun hS3=>?_)
    ·exact⟨KO_4.out.cell,(hbY.cell HL.out).trans p1,(hbY.cell hb1).trans d0⟩
    clear hK K hS2
    refine tE 12 hS3 ?_
    refine wJ (o:=_) (by kernel_rfl) rfl (by kernel_rfl) ?_
    have fo8:=KO_4.out.free;have co8:=KO_4.out.cell;have lo8:=KO_4.out.lt
    go_wp2
    go_roundw
    case rel=>exact⟨k+1,.slice t8 l8 c8,F8,by omega,by go_num,(by rw[xQ HY.out,List.map_append];exact HG_4.out.far HF8.out HGF.out _ _),HF8.out,KR_4.out.far ng2 _,(by have:=KO_4.out.set_ 1 (.slice t8 l8 c8);simpa using this),HB_4.out.setCell (by simp;omega) _⟩
    case measure=>simp[intOf];omega
   obtain rfl:k=x.zL.length:=by omega
   obtain⟨W2,hW2⟩: ∃ W',W'=wr:=⟨_,rfl⟩
   subst hW2
   have hG:=HG.out;rw[List.take_length] at hG
   have HG:=hide (show Grow _ _ 96 1 [] [] (.slice none 0 0) [T.ints 2 x.zQ,T.sl 26 1 (x.zL.map (T.ints 2))] (FR++F) [.slice tX lX cX,.slice tN1 lN1 cN1] from hG.next 96 1);clear hG
   have hGF:g ∉ FR++F:=fun hm=>(List.mem_append.1 hm).elim HGF.out HF.out
   replace HGF:=hide hGF;clear hGF HF hs hgr
   generalize FR++F=FR2 at *
   have HFO:Sec (g ∉ ([]:List Nat)):=hide (by simp)
   have hsz0:=hsz;clear hsz
   go_wp2
   go_loopw [5] (fun i wr=> ∃ (k:Nat) (v:Value) (F:List Nat),k≤x.zO.length∧i= .int .i64 (k:Int)∧Grow (w.heap.size+1) wr 96 1 ((x.zO.take k).map xI.t) F v [T.ints 2 x.zQ,T.sl 26 1 (x.zL.map (T.ints 2))] FR2 [.slice tX lX cX,.slice tN1 lN1 cN1]∧g ∉ F∧Bk wr w.heap.size 32 #[.int .i64 0,.slice none 0 0,.slice none 0 0,.slice none 0 0,.slice none 0 0,.slice none 0 0]∧Bk wr g 32 #[.int .i64 x.zF,.slice tN1 lN1 cN1,v,.slice tX lX cX,.slice none 0 0,.slice none 0 0]∧Below w.heap.size w wr) (fun i _=>x.zO.length - (intOf i).toNat)
   case atStart=>exact⟨0,.slice none 0 0,[],Nat.zero_le _,rfl,by simpa using HG.out,by simp,KR.out,KO.out,HB.out⟩
   case round=>
    clear HG HFO KR KO HB hsz0
    obtain⟨k,v,F,hk,rfl,hG,hgF,b2,b3,hb⟩:=hrel
    obtain⟨tN2,lN2,cN2,rfl⟩:=hG.form
    have HG:=hide hG;have HF:=hide hgF;have KR:=hide b2;have KO:=hide b3;have HB:=hide hb;clear hG hgF b2 b3 hb
    have hsz:w.heap.size+1≤wr.heap.size:=by have:=KR.out.lt;omega
    have hgr:g<wr.heap.size:=KO.out.lt
    have hs:wr.heap.size≤wr.heap.size:=Nat.le_refl _
    have p2:wr.cell? ⟨b,o+2,none⟩=some (.slice va2 x.zO.length vc2):=(HB.out.cell HL.out).trans (HCC.out 2 _ rfl)
    have lb:b<wr.heap.size:=lL HL.out HB.out.size
    have hkk:(k:Int)≤x.zO.length:=by omega
    by_cases hlt:k<x.zO.length
    ·
     have hsy:=HS.out.2.1.2 _ (List.getElem_mem hlt)
     have hgk:=gE hlt
     obtain⟨b1,off,cs1,hA,hb1,hcs,hcell⟩:=HX2.out k x.zO[k] hgk
     subst hA
     generalize x.zO[k]=y at *
     have HY:=hide hgk;have HSY:=hide hsy;clear hgk hsy
     have hq1:b1<wr.heap.size:=lL hb1 HB.out.size
     obtain⟨u0,rfl,hRY0⟩:=xI.yO (show T.rds _ _ _ by simpa only[xI.t,T.rd] using hcs)
     have d0:=(HB.out.cell hb1).trans (hcell 0 (u0) rfl)
     rw[show off+(k * 1+0)=off+k by omega] at d0
     have RY0:=hide (T.yF hRY0 HB.out);clear hRY0
     clear hcs hcell
     obtain⟨ua0,ul0,uc0,rfl⟩:=T.yV RY0.out
     obtain⟨es,hrd,hrs⟩:=T.rd_row RY0.out;rw[List.length_map] at hrd;have HRD:=hide hrd;have HRS:=hide hrs;clear hrd hrs
     have hcl:y.zR.length≤1048576:=HSY.out
     go_wp2
     refine wK (fun w'=>(∀ i,w'.cell? ⟨g,i,none⟩= #[.int .i64 x.zF,.slice tN1 lN1 cN1,(.slice tN2 lN2 cN2),.slice tX lX cX,.slice none 0 0,.slice none 0 0][i]?)∧w'.cell? ⟨b,o+2,none⟩=some (.slice (some ⟨b1,off,none⟩) x.zO.length vc2)∧w'.cell? ⟨b1,off+k,none⟩=some (.slice ua0 ul0 uc0)) 16 (by kernel_rfl) ?_ (fun hS0=>?_)
     ·exact⟨KO.out.cell,p2,d0⟩
     refine tE 0 hS0 ?_
     refine tE 1 hS0 ?_
     refine tE 3 hS0 ?_
     refine tE 4 hS0 ?_
     refine tE 5 hS0 ?_
     refine tE 6 hS0 ?_
     refine tE 7 hS0 ?_
     refine tE 8 hS0 ?_
     refine tE 9 hS0 ?_
     refine tE 10 hS0 ?_
     have hHD:Below wr.heap.size wr wr.drew:=(Below.refl _ _).drew
     have HB_1:=hide (yJ HB.out HB.out.size hHD);have HG_1:=hide (HG.out.all hHD);have hs_1:wr.heap.size≤wr.drew.heap.size:=Nat.le_trans hs (hHD).size
     have KR_1:=hide (KR.out.below hHD KR.out.lt)
     have KO_1:=hide (KO.out.below hHD KO.out.lt)
     refine oE 2 (fun K hK=>?_)
     go_simp
     have HB_2:=hide (yJ HB_1.out HB_1.out.size (show Below wr.drew.heap.size wr.drew (wr.drew.alloc (.cells #[] 39)) from(Below.refl _ _).alloc (Nat.le_refl _) _));have HG_2:=hide (HG_1.out.all (show Below wr.drew.heap.size wr.drew (wr.drew.alloc (.cells #[] 39)) from(Below.refl _ _).alloc (Nat.le_refl _) _));have hs_2:wr.heap.size≤(wr.drew.alloc (.cells #[] 39)).heap.size:=Nat.le_trans hs_1 ((show Below wr.drew.heap.size wr.drew (wr.drew.alloc (.cells #[] 39)) from(Below.refl _ _).alloc (Nat.le_refl _) _)).size
     have KR_2:=hide (KR_1.out.below (show Below wr.drew.heap.size wr.drew (wr.drew.alloc (.cells #[] 39)) from(Below.refl _ _).alloc (Nat.le_refl _) _) KR_1.out.lt)
     have KO_2:=hide (KO_1.out.below (show Below wr.drew.heap.size wr.drew (wr.drew.alloc (.cells #[] 39)) from(Below.refl _ _).alloc (Nat.le_refl _) _) KO_1.out.lt)
     refine hK.out _ _ ?_ (fun hS1=>?_)
     ·exact⟨KO_2.out.cell,((hHD.alloc hHD.size (.cells #[] 39)).cell (World.block_lt_of_cell? wr _ p2)).trans p2,((hHD.alloc hHD.size (.cells #[] 39)).cell (World.block_lt_of_cell? wr _ d0)).trans d0⟩
     clear hK K hS0
     refine oE 11 (fun K hK=>?_)
     refine step_manyT rfl _ _ _ rfl wr.heap.size _ _ 5 40 Tryz.underlying94 info_ClipS rfl (by omega) (.slice (some ⟨wr.drew.heap.size,0,none⟩) 0 0) 0 [] rfl (wH (World.ownsRow_made wr.drew #[] 0 (Nat.le_refl _) (by decide) rfl) hHD.size) _ y.zR.length es rfl ((HRD.out.below hHD).below ((Below.refl _ _).alloc (Nat.le_refl _) _)) (T.rds_cell _ _ HRS.out) (by omega) (by unfold maxLen;omega) (Nat.le_trans hHD.size (by simp)) ?_
     intro v7 w7 hr7 hg7 hv7
     have hb7:Below wr.drew.heap.size wr.drew w7:=((Below.refl _ _).alloc (Nat.le_refl _) _).grown hg7 (by simp) (fun j hj=>Nat.le_of_eq (show wr.drew.heap.size=j by simpa[Value.ownBlock] using hj))
     have HC:=hide (Own.of_flat (xL.flat _) xL.wide_t hr7 HRS.out (by simp));clear hr7 hg7 hv7
     obtain⟨t7,l7,c7,rfl⟩:=T.yX HC.out.ow
     have hbX:Below wr.heap.size wr w7:=undrew hb7
     have HB_3:=hide (yJ HB_1.out HB_1.out.size hb7);have HG_3:=hide (HG_1.out.all hb7);have hs_3:wr.heap.size≤w7.heap.size:=Nat.le_trans hs_1 (hb7).size
     have KR_3:=hide (KR_1.out.below hb7 KR_1.out.lt)
     have KO_3:=hide (KO_1.out.below hb7 KO_1.out.lt)
     have HN:=hide (⟨xI.ow_mk (x:=y) HC.out.ow,by rw[List.append_nil];exact HC.out.nodup,fun b hb=>HC.out.lo b (by simpa using hb)⟩:Nx wr.heap.size w7 y.fs _ _);clear hb7
     refine hK.out _ _ ?_ (fun hS2=>?_)
     ·exact⟨KO_3.out.cell,(hbX.cell (World.block_lt_of_cell? wr _ p2)).trans p2,(hbX.cell (World.block_lt_of_cell? wr _ d0)).trans d0⟩
     clear hK K hS1
     refine tE 12 hS2 ?_
     refine oE 13 (fun K hK=>?_)
     go_simp
     have HB_4:=hide (yJ HB_3.out HB_3.out.size (show Below w7.heap.size w7 (w7.alloc (.cells #[.slice t7 l7 c7] 96)) from(Below.refl _ _).alloc (Nat.le_refl _) _));have HG_4:=hide (HG_3.out.all (show Below w7.heap.size w7 (w7.alloc (.cells #[.slice t7 l7 c7] 96)) from(Below.refl _ _).alloc (Nat.le_refl _) _));have hs_4:wr.heap.size≤(w7.alloc (.cells #[.slice t7 l7 c7] 96)).heap.size:=Nat.le_trans hs_3 ((show Below w7.heap.size w7 (w7.alloc (.cells #[.slice t7 l7 c7] 96)) from(Below.refl _ _).alloc (Nat.le_refl _) _)).size
     have KR_4:=hide (KR_3.out.below (show Below w7.heap.size w7 (w7.alloc (.cells #[.slice t7 l7 c7] 96)) from(Below.refl _ _).alloc (Nat.le_refl _) _) KR_3.out.lt)
     have KO_4:=hide (KO_3.out.below (show Below w7.heap.size w7 (w7.alloc (.cells #[.slice t7 l7 c7] 96)) from(Below.refl _ _).alloc (Nat.le_refl _) _) KO_3.out.lt)
     have HN2:=hide (HN.out.all ((Below.refl _ _).alloc (Nat.le_refl _) (.cells #[.slice t7 l7 c7] 96)))
     refine hK.out _ _ ?_ (fun hS3=>?_)
     ·exact⟨KO_4.out.cell,((hbX.alloc hbX.size (.cells #[.slice t7 l7 c7] 96)).cell (World.block_lt_of_cell? wr _ p2)).trans p2,((hbX.alloc hbX.size (.cells #[.slice t7 l7 c7] 96)).cell (World.block_lt_of_cell? wr _ d0)).trans d0⟩
     clear hK K hS2
     refine oE 14 (fun K hK=>?_)
     refine step1_T rfl _ _ _ rfl (w.heap.size+1) _ _ 1 24 Tryz.underlying25 info_TrackS rfl (by omega) rfl HG_4.out.own rfl (Bk.born _ _ _) (x:=y.t) (T.ow_st HN2.out.ows) HN2.out.nodup (fun b hb=>by have h3:=HN2.out.lo b hb;omega) (fun b hb hb2=>by have h1:=HG.out.lt b hb;have h3:=HN2.out.lo b hb2;omega) rfl (by rw[List.length_map,List.length_take];have:=HS.out.2.1.1;omega) (by rw[List.length_map,List.length_take];have:=HS.out.2.1.1;unfold maxLen;omega) (Nat.le_trans hsz hs_4) ?_
     intro v8 w8 F8 ho8 hg8 hv8
     have hbY:Below w.heap.size wr w8:=((hbX.alloc hbX.size (.cells #[.slice t7 l7 c7] 96)).mono (Nat.le_trans (Nat.le_succ _) hsz)).grown hg8 (Nat.le_trans (Nat.le_trans (Nat.le_succ _) hsz) (hbX.alloc hbX.size (.cells #[.slice t7 l7 c7] 96)).size) (fun j hj=>by have h1:=HG.out.own.row j hj;omega)
     obtain⟨t8,l8,c8,rfl⟩:=T.yX ho8.ow
     have HF8:=hide (Grow.out hv8 HF.out (fun hm=>by have h3:=HN2.out.lo _ hm;omega) (lL hgr hs_4))
     have HG_5:=hide (HG_4.out.app ho8 hg8 hv8 (fun b hb hb2=>by have h1:=HG.out.ltR b hb2;have h3:=HN2.out.lo b hb;omega))
     have HB_5:=hide ((HG_4.out.own.more (show w.heap.size≤w.heap.size+1 by omega)).below HB_4.out HB_4.out.size hg8);have hs_5:wr.heap.size≤w8.heap.size:=Nat.le_trans hs_4 hg8.size
     have KR_5:=hide (KR_4.out.far1 hg8 (fun hm=>by have:=HG.out.own.lo _ hm;omega) HG_4.out.own)
     have KO_5:=hide (KO_4.out.far1 hg8 (HF.out) HG_4.out.own)
     clear ho8 hg8 hv8
     refine hK.out _ _ ?_ (fun hS4=>?_)
     ·exact⟨KO_5.out.cell,(hbY.cell HL.out).trans p2,(hbY.cell hb1).trans d0⟩
     clear hK K hS3
     refine tE 15 hS4 ?_
     refine wJ (o:=_) (by kernel_rfl) rfl (by kernel_rfl) ?_
     have fo8:=KO_5.out.free;have co8:=KO_5.out.cell;have lo8:=KO_5.out.lt
     go_wp2
     go_roundw
     case rel=>exact⟨k+1,.slice t8 l8 c8,F8,by omega,by go_num,(by rw[xQ HY.out,List.map_append];exact HG_5.out.far HF8.out HGF.out _ _),HF8.out,KR_5.out.far ng2 _,(by have:=KO_5.out.set_ 2 (.slice t8 l8 c8);simpa using this),HB_5.out.setCell (by simp;omega) _⟩
     case measure=>simp[intOf];omega
    obtain rfl:k=x.zO.length:=by omega
    obtain⟨W3,hW3⟩: ∃ W',W'=wr:=⟨_,rfl⟩
    subst hW3
    have hG:=HG.out;rw[List.take_length] at hG
    have HG:=hide (show Grow _ _ 108 4 [] [] (.slice none 0 0) [T.ints 2 x.zQ,T.sl 26 1 (x.zL.map (T.ints 2)),T.sl 96 1 (x.zO.map xI.t)] (FR2++F) [.slice tX lX cX,.slice tN1 lN1 cN1,.slice tN2 lN2 cN2] from hG.next 108 4);clear hG
    have hGF:g ∉ FR2++F:=fun hm=>(List.mem_append.1 hm).elim HGF.out HF.out
    replace HGF:=hide hGF;clear hGF HF hs hgr
    generalize FR2++F=FR3 at *
    have HFO:Sec (g ∉ ([]:List Nat)):=hide (by simp)
    have hsz0:=hsz;clear hsz
    go_wp2
    go_loopw [6] (fun i wr=> ∃ (k:Nat) (v:Value) (F:List Nat),k≤x.zP.length∧i= .int .i64 (k:Int)∧Grow (w.heap.size+1) wr 108 4 ((x.zP.take k).map xG.t) F v [T.ints 2 x.zQ,T.sl 26 1 (x.zL.map (T.ints 2)),T.sl 96 1 (x.zO.map xI.t)] FR3 [.slice tX lX cX,.slice tN1 lN1 cN1,.slice tN2 lN2 cN2]∧g ∉ F∧Bk wr w.heap.size 32 #[.int .i64 0,.slice none 0 0,.slice none 0 0,.slice none 0 0,.slice none 0 0,.slice none 0 0]∧Bk wr g 32 #[.int .i64 x.zF,.slice tN1 lN1 cN1,.slice tN2 lN2 cN2,.slice tX lX cX,v,.slice none 0 0]∧Below w.heap.size w wr) (fun i _=>x.zP.length - (intOf i).toNat)
    case atStart=>exact⟨0,.slice none 0 0,[],Nat.zero_le _,rfl,by simpa using HG.out,by simp,KR.out,KO.out,HB.out⟩
    case round=>
     clear HG HFO KR KO HB hsz0
     obtain⟨k,v,F,hk,rfl,hG,hgF,b2,b3,hb⟩:=hrel
     obtain⟨tN3,lN3,cN3,rfl⟩:=hG.form
     have HG:=hide hG;have HF:=hide hgF;have KR:=hide b2;have KO:=hide b3;have HB:=hide hb;clear hG hgF b2 b3 hb
     have hsz:w.heap.size+1≤wr.heap.size:=by have:=KR.out.lt;omega
     have hgr:g<wr.heap.size:=KO.out.lt
     have hs:wr.heap.size≤wr.heap.size:=Nat.le_refl _
     have p4:wr.cell? ⟨b,o+4,none⟩=some (.slice va4 x.zP.length vc4):=(HB.out.cell HL.out).trans (HCC.out 4 _ rfl)
     have lb:b<wr.heap.size:=lL HL.out HB.out.size
     have hkk:(k:Int)≤x.zP.length:=by omega
     by_cases hlt:k<x.zP.length
     ·
      have hsy:=HS.out.2.2.2.1.2 _ (List.getElem_mem hlt)
      have hgk:=gE hlt
      obtain⟨b1,off,cs1,hA,hb1,hcs,hcell⟩:=HX4.out k x.zP[k] hgk
      subst hA
      generalize x.zP[k]=y at *
      have HY:=hide hgk;have HSY:=hide hsy;clear hgk hsy
      have HAY:=hide (T.at_elem (o:=off+k * 4) hb1 (show T.rds w y.fs cs1 by simpa only[xG.t,T.rd] using hcs) hcell (by omega));clear hcs hcell
      go_wp2
      refine wK (fun w'=>(∀ i,w'.cell? ⟨g,i,none⟩= #[.int .i64 x.zF,.slice tN1 lN1 cN1,.slice tN2 lN2 cN2,.slice tX lX cX,(.slice tN3 lN3 cN3),.slice none 0 0][i]?)∧w'.cell? ⟨b,o+4,none⟩=some (.slice (some ⟨b1,off,none⟩) x.zP.length vc4)) 12 (by kernel_rfl) ?_ (fun hS0=>?_)
      ·exact⟨KO.out.cell,p4⟩
      refine tE 0 hS0 ?_
      refine tE 1 hS0 ?_
      refine tE 2 hS0 ?_
      refine tE 3 hS0 ?_
      refine tE 4 hS0 ?_
      refine tE 5 hS0 ?_
      refine tE 6 hS0 ?_
      refine tE 7 hS0 ?_
      have hHD:Below wr.heap.size wr wr.drew:=(Below.refl _ _).drew
      have HB_1:=hide (yJ HB.out HB.out.size hHD);have HG_1:=hide (HG.out.all hHD);have hs_1:wr.heap.size≤wr.drew.heap.size:=Nat.le_trans hs (hHD).size
      have KR_1:=hide (KR.out.below hHD KR.out.lt)
      have KO_1:=hide (KO.out.below hHD KO.out.lt)
      refine oE 8 (fun K hK=>?_)
      go_simp
      go_wp2_with (go_at_call 96;refine(c_l07Own y b1 (off+k * 4) _ HSY.out (T.at_below HAY.out (yJ HB.out HB.out.size hHD))).mono ?_;rintro e wC ⟨p1,p2,p3,Fx,rfl,hN⟩;obtain⟨⟨tp1,lp1,cp1,rfl⟩,⟨tp2,lp2,cp2,rfl⟩,⟨tp3,lp3,cp3,rfl⟩⟩:=xG.sl3 (T.ows_rds _ _ _ hN.ows);have HN:=hide (Nx.of_nw (B:=wr.heap.size) hN hHD.size);have hbC:Below wr.drew.heap.size wr.drew wC:=hN.below;have hbX:Below wr.heap.size wr wC:=undrew hN.below;clear hN)
      have HB_2:=hide (yJ HB_1.out HB_1.out.size hbC);have HG_2:=hide (HG_1.out.all hbC);have hs_2:wr.heap.size≤wC.heap.size:=Nat.le_trans hs_1 (hbC).size
      have KR_2:=hide (KR_1.out.below hbC KR_1.out.lt)
      have KO_2:=hide (KO_1.out.below hbC KO_1.out.lt)
      clear hbC
      refine hK.out _ _ ?_ (fun hS1=>?_)
      ·exact⟨KO_2.out.cell,(hbX.cell (World.block_lt_of_cell? wr _ p4)).trans p4⟩
      clear hK K hS0
      refine oE 9 (fun K hK=>?_)
      go_simp
      have HB_3:=hide (yJ HB_2.out HB_2.out.size (show Below wC.heap.size wC (wC.alloc (.cells #[.int .i64 y.zJ,.slice tp1 lp1 cp1,.slice tp2 lp2 cp2,.slice tp3 lp3 cp3] 108)) from(Below.refl _ _).alloc (Nat.le_refl _) _));have HG_3:=hide (HG_2.out.all (show Below wC.heap.size wC (wC.alloc (.cells #[.int .i64 y.zJ,.slice tp1 lp1 cp1,.slice tp2 lp2 cp2,.slice tp3 lp3 cp3] 108)) from(Below.refl _ _).alloc (Nat.le_refl _) _));have hs_3:wr.heap.size≤(wC.alloc (.cells #[.int .i64 y.zJ,.slice tp1 lp1 cp1,.slice tp2 lp2 cp2,.slice tp3 lp3 cp3] 108)).heap.size:=Nat.le_trans hs_2 ((show Below wC.heap.size wC (wC.alloc (.cells #[.int .i64 y.zJ,.slice tp1 lp1 cp1,.slice tp2 lp2 cp2,.slice tp3 lp3 cp3] 108)) from(Below.refl _ _).alloc (Nat.le_refl _) _)).size
      have KR_3:=hide (KR_2.out.below (show Below wC.heap.size wC (wC.alloc (.cells #[.int .i64 y.zJ,.slice tp1 lp1 cp1,.slice tp2 lp2 cp2,.slice tp3 lp3 cp3] 108)) from(Below.refl _ _).alloc (Nat.le_refl _) _) KR_2.out.lt)
      have KO_3:=hide (KO_2.out.below (show Below wC.heap.size wC (wC.alloc (.cells #[.int .i64 y.zJ,.slice tp1 lp1 cp1,.slice tp2 lp2 cp2,.slice tp3 lp3 cp3] 108)) from(Below.refl _ _).alloc (Nat.le_refl _) _) KO_2.out.lt)
      have HN2:=hide (HN.out.all ((Below.refl _ _).alloc (Nat.le_refl _) (.cells #[.int .i64 y.zJ,.slice tp1 lp1 cp1,.slice tp2 lp2 cp2,.slice tp3 lp3 cp3] 108)))
      refine hK.out _ _ ?_ (fun hS2=>?_)
      ·exact⟨KO_3.out.cell,((hbX.alloc hbX.size (.cells #[.int .i64 y.zJ,.slice tp1 lp1 cp1,.slice tp2 lp2 cp2,.slice tp3 lp3 cp3] 108)).cell (World.block_lt_of_cell? wr _ p4)).trans p4⟩
      clear hK K hS1
      refine oE 10 (fun K hK=>?_)
      refine step1_T rfl _ _ _ rfl (w.heap.size+1) _ _ 4 80 Tryz.underlying27 info_PatchS rfl (by omega) rfl HG_3.out.own rfl (Bk.born _ _ _) (x:=y.t) (T.ow_st HN2.out.ows) HN2.out.nodup (fun b hb=>by have h3:=HN2.out.lo b hb;omega) (fun b hb hb2=>by have h1:=HG.out.lt b hb;have h3:=HN2.out.lo b hb2;omega) rfl (by rw[List.length_map,List.length_take];have:=HS.out.2.2.2.1.1;omega) (by rw[List.length_map,List.length_take];have:=HS.out.2.2.2.1.1;unfold maxLen;omega) (Nat.le_trans hsz hs_3) ?_
      intro v8 w8 F8 ho8 hg8 hv8
      have hbY:Below w.heap.size wr w8:=((hbX.alloc hbX.size (.cells #[.int .i64 y.zJ,.slice tp1 lp1 cp1,.slice tp2 lp2 cp2,.slice tp3 lp3 cp3] 108)).mono (Nat.le_trans (Nat.le_succ _) hsz)).grown hg8 (Nat.le_trans (Nat.le_trans (Nat.le_succ _) hsz) (hbX.alloc hbX.size (.cells #[.int .i64 y.zJ,.slice tp1 lp1 cp1,.slice tp2 lp2 cp2,.slice tp3 lp3 cp3] 108)).size) (fun j hj=>by have h1:=HG.out.own.row j hj;omega)
      obtain⟨t8,l8,c8,rfl⟩:=T.yX ho8.ow
      have HF8:=hide (Grow.out hv8 HF.out (fun hm=>by have h3:=HN2.out.lo _ hm;omega) (lL hgr hs_3))
      have HG_4:=hide (HG_3.out.app ho8 hg8 hv8 (fun b hb hb2=>by have h1:=HG.out.ltR b hb2;have h3:=HN2.out.lo b hb;omega))
      have HB_4:=hide ((HG_3.out.own.more (show w.heap.size≤w.heap.size+1 by omega)).below HB_3.out HB_3.out.size hg8);have hs_4:wr.heap.size≤w8.heap.size:=Nat.le_trans hs_3 hg8.size
      have KR_4:=hide (KR_3.out.far1 hg8 (fun hm=>by have:=HG.out.own.lo _ hm;omega) HG_3.out.own)
      have KO_4:=hide (KO_3.out.far1 hg8 (HF.out) HG_3.out.own)
      clear ho8 hg8 hv8
      refine hK.out _ _ ?_ (fun hS3=>?_)
      ·exact⟨KO_4.out.cell,(hbY.cell HL.out).trans p4⟩
      clear hK K hS2
      refine tE 11 hS3 ?_
      refine wJ (o:=_) (by kernel_rfl) rfl (by kernel_rfl) ?_
      have fo8:=KO_4.out.free;have co8:=KO_4.out.cell;have lo8:=KO_4.out.lt
      go_wp2
      go_roundw
      case rel=>exact⟨k+1,.slice t8 l8 c8,F8,by omega,by go_num,(by rw[xQ HY.out,List.map_append];exact HG_4.out.far HF8.out HGF.out _ _),HF8.out,KR_4.out.far ng2 _,(by have:=KO_4.out.set_ 4 (.slice t8 l8 c8);simpa using this),HB_4.out.setCell (by simp;omega) _⟩
      case measure=>simp[intOf];omega
     obtain rfl:k=x.zP.length:=by omega
     obtain⟨W4,hW4⟩: ∃ W',W'=wr:=⟨_,rfl⟩
     subst hW4
     have hG:=HG.out;rw[List.take_length] at hG
     have HG:=hide (show Grow _ _ 101 3 [] [] (.slice none 0 0) [T.ints 2 x.zQ,T.sl 26 1 (x.zL.map (T.ints 2)),T.sl 96 1 (x.zO.map xI.t),T.sl 108 4 (x.zP.map xG.t)] (FR3++F) [.slice tX lX cX,.slice tN1 lN1 cN1,.slice tN2 lN2 cN2,.slice tN3 lN3 cN3] from hG.next 101 3);clear hG
     have hGF:g ∉ FR3++F:=fun hm=>(List.mem_append.1 hm).elim HGF.out HF.out
     replace HGF:=hide hGF;clear hGF HF hs hgr
     generalize FR3++F=FR4 at *
     have HFO:Sec (g ∉ ([]:List Nat)):=hide (by simp)
     have hsz0:=hsz;clear hsz
     go_wp2
     go_loopw [7] (fun i wr=> ∃ (k:Nat) (v:Value) (F:List Nat),k≤x.zG.zC.length∧i= .int .i64 (k:Int)∧Grow (w.heap.size+1) wr 101 3 ((x.zG.zC.take k).map xH.t) F v [T.ints 2 x.zQ,T.sl 26 1 (x.zL.map (T.ints 2)),T.sl 96 1 (x.zO.map xI.t),T.sl 108 4 (x.zP.map xG.t)] FR4 [.slice tX lX cX,.slice tN1 lN1 cN1,.slice tN2 lN2 cN2,.slice tN3 lN3 cN3]∧g ∉ F∧Bk wr w.heap.size 32 #[.int .i64 0,.slice none 0 0,.slice none 0 0,.slice none 0 0,.slice none 0 0,.slice none 0 0]∧Bk wr g 32 #[.int .i64 x.zF,.slice tN1 lN1 cN1,.slice tN2 lN2 cN2,.slice tX lX cX,.slice tN3 lN3 cN3,v]∧Below w.heap.size w wr) (fun i _=>x.zG.zC.length - (intOf i).toNat)
     case atStart=>exact⟨0,.slice none 0 0,[],Nat.zero_le _,rfl,by simpa using HG.out,by simp,KR.out,KO.out,HB.out⟩
     case round=>
      clear HG HFO KR KO HB hsz0
      obtain⟨k,v,F,hk,rfl,hG,hgF,b2,b3,hb⟩:=hrel
      obtain⟨tN4,lN4,cN4,rfl⟩:=hG.form
      have HG:=hide hG;have HF:=hide hgF;have KR:=hide b2;have KO:=hide b3;have HB:=hide hb;clear hG hgF b2 b3 hb
      have hsz:w.heap.size+1≤wr.heap.size:=by have:=KR.out.lt;omega
      have hgr:g<wr.heap.size:=KO.out.lt
      have hs:wr.heap.size≤wr.heap.size:=Nat.le_refl _
      have p5:wr.cell? ⟨b,o+5,none⟩=some (.slice va5 x.zG.zC.length vc5):=(HB.out.cell HL.out).trans (HCC.out 5 _ rfl)
      have lb:b<wr.heap.size:=lL HL.out HB.out.size
      have hkk:(k:Int)≤x.zG.zC.length:=by omega
      by_cases hlt:k<x.zG.zC.length
      ·
       have hsy:=HS.out.2.2.2.2.2 _ (List.getElem_mem hlt)
       have hgk:=gE hlt
       obtain⟨b1,off,cs1,hA,hb1,hcs,hcell⟩:=HX5.out k x.zG.zC[k] hgk
       subst hA
       generalize x.zG.zC[k]=y at *
       have HY:=hide hgk;have HSY:=hide hsy;clear hgk hsy
       have hq1:b1<wr.heap.size:=lL hb1 HB.out.size
       obtain⟨u2,rfl,hRY2⟩:=xH.yO (show T.rds _ _ _ by simpa only[xH.t,T.rd] using hcs)
       have d0:=(HB.out.cell hb1).trans (hcell 0 (.string y.zV) rfl)
       have d1:=(HB.out.cell hb1).trans (hcell 1 (.int .i64 y.zI) rfl)
       have d2:=(HB.out.cell hb1).trans (hcell 2 (u2) rfl)
       rw[show off+(k * 3+0)=off+k * 3 by omega] at d0
       rw[show off+(k * 3+1)=off+k * 3+1 by omega] at d1
       rw[show off+(k * 3+2)=off+k * 3+2 by omega] at d2
       have RY2:=hide (T.yF hRY2 HB.out);clear hRY2
       clear hcs hcell
       obtain⟨ua2,ul2,uc2,rfl⟩:=T.yV RY2.out
       obtain⟨es,hrd,hrs⟩:=T.rd_row RY2.out;rw[List.length_map] at hrd;have HRD:=hide hrd;have HRS:=hide hrs;clear hrd hrs
       have hcl:y.zM.length≤1048576:=HSY.out.2
       have HXA:=hide (show Below wr.heap.size wr (wr.alloc (.cells #[.string y.zV,.int .i64 y.zI,.slice ua2 ul2 uc2] 101)) from(Below.refl _ _).alloc (Nat.le_refl _) _)
       have HXB:=hide (Bk.born wr 101 #[.string y.zV,.int .i64 y.zI,.slice ua2 ul2 uc2])
       have HB_1:=hide (yJ HB.out HB.out.size HXA.out);have HG_1:=hide (HG.out.all HXA.out);have hs_1:wr.heap.size≤(wr.alloc (.cells #[.string y.zV,.int .i64 y.zI,.slice ua2 ul2 uc2] 101)).heap.size:=Nat.le_trans hs (HXA.out).size
       have KR_1:=hide (KR.out.below HXA.out KR.out.lt)
       have KO_1:=hide (KO.out.below HXA.out KO.out.lt)
       have KX_1:=HXB
       have hgx: ¬ g=wr.heap.size:=by omega
       have hgx2: ¬ wr.heap.size=g:=by omega
       have hx1:wr.heap.size<(wr.alloc (.cells #[.string y.zV,.int .i64 y.zI,.slice ua2 ul2 uc2] 101)).heap.size:=by simp
       have kx0:=HXB.out.cell
       have HT1:=hide (show ((wr.alloc (.cells #[.string y.zV,.int .i64 y.zI,.slice ua2 ul2 uc2] 101)).alloc (.cells #[] 98)).ownsRow (wr.heap.size+1) 98 2 (.slice (some ⟨wr.heap.size+1,0,none⟩) 0 0) 0 [] from wH (by simpa using World.ownsRow_made (wr.alloc (.cells #[.string y.zV,.int .i64 y.zI,.slice ua2 ul2 uc2] 101)) #[] 0 (Nat.le_refl _) (by decide) rfl) (by simp))
       have HT2:=hide (show Rd ((wr.alloc (.cells #[.string y.zV,.int .i64 y.zI,.slice ua2 ul2 uc2] 101)).alloc (.cells #[] 98)) (.slice ua2 ul2 uc2) 2 y.zM.length es from(HRD.out.below HXA.out).below ((Below.refl _ _).alloc (Nat.le_refl _) _))
       go_wp2_with (first|(at_builtin;refine app_many rfl _ _ _ rfl (wr.heap.size+1) _ _ 2 16 Tryz.underlying99 info_SendS rfl (by omega) (.slice (some ⟨wr.heap.size+1,0,none⟩) 0 0) 0 [] rfl HT1.out _ y.zM.length es rfl HT2.out (T.rds_cell _ _ HRS.out) (by omega) (by omega) (by first|(simp;done)|(simp;omega)) ?_;intro v7 w7 hr7 hg7 hv7;have hb7:Below (wr.alloc (.cells #[.string y.zV,.int .i64 y.zI,.slice ua2 ul2 uc2] 101)).heap.size (wr.alloc (.cells #[.string y.zV,.int .i64 y.zI,.slice ua2 ul2 uc2] 101)) w7:=((Below.refl _ _).alloc (Nat.le_refl _) _).grown hg7 (by simp) (fun j hj=>Nat.le_of_eq (show (wr.alloc (.cells #[.string y.zV,.int .i64 y.zI,.slice ua2 ul2 uc2] 101)).heap.size=j by simpa[Value.ownBlock] using hj));have HC:=hide (Own.of_flat (xM.flat _) xM.wide_t hr7 HRS.out (by simp));clear hr7 hg7 hv7;obtain⟨t7,l7,c7,rfl⟩:=T.yX HC.out.ow;have HB_2:=hide (yJ HB_1.out HB_1.out.size hb7);have HG_2:=hide (HG_1.out.all hb7);have hs_2:wr.heap.size≤w7.heap.size:=Nat.le_trans hs_1 (hb7).size;have KR_2:=hide (KR_1.out.below hb7 KR_1.out.lt);have KO_2:=hide (KO_1.out.below hb7 KO_1.out.lt);have KX_2:=hide (KX_1.out.below hb7 KX_1.out.lt);have cx:=KX_2.out.cell;have fx:=KX_2.out.free;have co:=KO_2.out.cell;have lx:=KX_2.out.lt;clear hb7;have HG_3:=hide (HG_2.out.far (g:=wr.heap.size) (fun hm=>by have:=HG.out.lt _ hm;omega) (fun hm=>by have:=HG.out.ltR _ hm;omega) 2 (.slice t7 l7 c7));have HB_3:=hide (Below.setCell (p:=⟨wr.heap.size,2,none⟩) HB_2.out (show w.heap.size≤wr.heap.size by omega) (.slice t7 l7 c7));have hs_3:wr.heap.size≤(w7.setCell ⟨wr.heap.size,2,none⟩ (.slice t7 l7 c7)).heap.size:=(by simp[World.setCell];omega);have KX_3:Sec (Bk (w7.setCell ⟨wr.heap.size,2,none⟩ (.slice t7 l7 c7)) wr.heap.size 101 #[.string y.zV,.int .i64 y.zI,.slice t7 l7 c7]):=hide (by have:=KX_2.out.set_ 2 (.slice t7 l7 c7);simpa using this);have KR_3:=hide (KR_2.out.far (p:=⟨wr.heap.size,2,none⟩) (by simp;omega) (.slice t7 l7 c7));have KO_3:=hide (KO_2.out.far (p:=⟨wr.heap.size,2,none⟩) (by simpa using hgx) (.slice t7 l7 c7));have HN2:=hide (⟨xH.ow_mk (x:=y) (T.ow_far (g:=wr.heap.size) HC.out.ow (fun hm=>by have:=HC.out.lo _ hm;omega) 2 (.slice t7 l7 c7)),by rw[List.append_nil];exact HC.out.nodup,fun b hb=>HC.out.lo b (by simpa using hb)⟩:Nx (wr.heap.size+1) (w7.setCell ⟨wr.heap.size,2,none⟩ (.slice t7 l7 c7)) y.fs _ _))|(at_builtin;refine app1_T rfl _ _ _ rfl (w.heap.size+1) _ _ 3 48 Tryz.underlying28 info_StripS rfl (by omega) rfl HG_3.out.own (x:=y.t) (T.ow_st HN2.out.ows) HN2.out.nodup (fun b hb=>by have h3:=HN2.out.lo b hb;omega) (fun b hb hb2=>by have h1:=HG.out.lt b hb;have h3:=HN2.out.lo b hb2;omega) rfl (by show Value.slice (some ⟨w7.heap.size,0,none⟩) 1 1=_;simp[World.setCell]) (by rw[List.length_map,List.length_take];have:=HS.out.2.2.2.2.1;omega) (by rw[List.length_map,List.length_take];have:=HS.out.2.2.2.2.1;omega) (Nat.le_trans hsz hs_3) ?_;intro v8 w8 F8 ho8 hg8 hv8;obtain⟨t8,l8,c8,rfl⟩:=T.yX ho8.ow;have HF8:=hide (Grow.out hv8 HF.out (fun hm=>by have h3:=HN2.out.lo _ hm;omega) (lL hgr hs_3));have HG_4:=hide (HG_3.out.app ho8 hg8 hv8 (fun b hb hb2=>by have h1:=HG.out.ltR b hb2;have h3:=HN2.out.lo b hb;omega));have HB_4:=hide ((HG_3.out.own.more (show w.heap.size≤w.heap.size+1 by omega)).below HB_3.out HB_3.out.size hg8);have hs_4:wr.heap.size≤w8.heap.size:=Nat.le_trans hs_3 hg8.size;have KR_4:=hide (KR_3.out.far1 hg8 (fun hm=>by have:=HG.out.own.lo _ hm;omega) HG_3.out.own);have KO_4:=hide (KO_3.out.far1 hg8 (HF.out) HG_3.out.own);have KX_4:=hide (KX_3.out.far1 hg8 (fun hm=>by have:=HG.out.lt _ hm;omega) HG_3.out.own);clear ho8 hg8 hv8;have fo8:=KO_4.out.free;have co8:=KO_4.out.cell;have lo8:=KO_4.out.lt))
       go_roundw
       case rel=>exact⟨k+1,.slice t8 l8 c8,F8,by omega,by go_num,(by rw[xQ HY.out,List.map_append];exact HG_4.out.far HF8.out HGF.out _ _),HF8.out,KR_4.out.far ng2 _,(by have:=KO_4.out.set_ 5 (.slice t8 l8 c8);simpa using this),HB_4.out.setCell (by simp;omega) _⟩
       case measure=>simp[intOf];omega
      ·obtain rfl:k=x.zG.zC.length:=by omega
       have ko:=KO.out.cell;have fo:=KO.out.free;have kr:=KR.out.cell;have fr:=KR.out.free
       have hr1:w.heap.size<wr.heap.size:=by omega
       have nn1: ¬ g=w.heap.size:=by omega
       go_wp2
       obtain⟨F3,F1,F2,F4,o3,o1,o2,o4,nd,lo,gn⟩:=HG.out.split_c
       have hr2:=gn w.heap.size (fun hm=>by have:=HG.out.own.lo _ hm;omega) (fun hm=>by have:=HG.out.lo _ hm;omega)
       have o5:=HG.out.own.ow;rw[List.take_length] at o5
       have hO:=xK.ow_mk (x:=x) o1 o2 o3 o4 o5
       refine bodyPost_ret (v:= .agg #[.int .i64 x.zF,.slice tN1 lN1 cN1,.slice tN2 lN2 cN2,.slice tX lX cX,.slice tN3 lN3 cN3,.slice tN4 lN4 cN4]) (by simp[results,Tryz.results38,go_sem,ko,fo,kr,fr]) rfl ?_
       exact⟨_,_,_,_,_,_,rfl,(T.yP (T.yP (T.yP (T.yP (T.yP (T.yP hO hr2 _ _) hr2 _ _) hr2 _ _) hr2 _ _) hr2 _ _) hr2 _ _),nd,fun b hb=>by have:=lo b hb;omega,((((((HB.out.setCell (by simp) _).setCell (by simp) _).setCell (by simp) _).setCell (by simp) _).setCell (by simp) _).setCell (by simp) _)⟩
 go_region_held3 (fun w'=>w'.cell? ⟨b,o,none⟩=some (.int .i64 x.zF)∧w'.cell? ⟨b,o+3,none⟩=some (.slice va3 x.zQ.length vc3)) (first|with_reducible exact⟨(((((((HBb.out.setCell (by simp) _).setCell (by simp) _).setCell (by simp) _).setCell (by simp) _).setCell (by simp) _).setCell (by simp) _).cell HL.out).trans (HCC.out 0 _ rfl),(((((((HBb.out.setCell (by simp) _).setCell (by simp) _).setCell (by simp) _).setCell (by simp) _).setCell (by simp) _).setCell (by simp) _).cell HL.out).trans (HCC.out 3 _ rfl)⟩|with_reducible exact⟨((HBb.out.alloc HBb.out.size _).cell HL.out).trans (HCC.out 0 _ rfl),((HBb.out.alloc HBb.out.size _).cell HL.out).trans (HCC.out 3 _ rfl)⟩|with_reducible exact⟨(HBb.out.cell HL.out).trans (HCC.out 0 _ rfl),(HBb.out.cell HL.out).trans (HCC.out 3 _ rfl)⟩|exact⟨(HBa.out.cell HL.out).trans (HCC.out 0 _ rfl),(HBa.out.cell HL.out).trans (HCC.out 3 _ rfl)⟩|exact⟨((HBa.out.alloc (by simp) _).cell HL.out).trans (HCC.out 0 _ rfl),((HBa.out.alloc (by simp) _).cell HL.out).trans (HCC.out 3 _ rfl)⟩) ((go_at_call 95;refine(c_l00Own _ x.zQ _ (Rd.below R3.out (by first|with_reducible exact HBa.out|with_reducible exact HBa.out.drew|with_reducible exact HBa.out.alloc so _|with_reducible exact(HBa.out.alloc so _).drew|with_reducible exact(HBa.out.drew).alloc so _)) HS.out.2.2.1).mono ?_;rintro e wB ⟨vB,rfl,hoB,hbB⟩;obtain⟨tB,cB,rfl,-,-,-⟩:=hoB.rd.open_;have OB:=hide (Nv.ints hoB hbB);have CB:=hide (show Below (w.alloc (.cells #[.int .i64 0,.slice none 0 0,.slice none 0 0,.slice none 0 0,.slice none 0 0,.slice none 0 0] 32)).heap.size (w.alloc (.cells #[.int .i64 0,.slice none 0 0,.slice none 0 0,.slice none 0 0,.slice none 0 0,.slice none 0 0] 32)) wB from(by first|with_reducible exact hbB|with_reducible exact undrew hbB|with_reducible exact wM hbB|with_reducible exact yM hbB|with_reducible exact undrew (yM hbB)|with_reducible exact yM (undrew hbB)));have RB:=hide (HRa.out.below CB.out HRa.out.lt);have HBb:=hide (yJ HBa.out HBa.out.size CB.out);(try ((first|have gA:=Bk.below (Bk.born _ _ _) hbB (by simp)|have gA:=Bk.below (Bk.drew (Bk.born _ _ _)) hbB (by simp));rw[HE1.out] at gA;have GB:=hide gA;clear gA;have gb:=GB.out.cell;have gbf:=GB.out.free));clear hoB hbB))
 ·
  have ow:T.ows wB [T.ints 2 x.zQ] ((Value.slice tB x.zQ.length cB).ownBlock.toList++ []) [.slice tB x.zQ.length cB]:=T.c_ol OB.out.ow T.c_oe
  have s1:=CB.out.size;rw[HE1.out] at s1
  have lb:=OB.out.lo;have tb:=OB.out.lt
  have nd:((Value.slice tB x.zQ.length cB).ownBlock.toList++ []).Nodup:=by rw[List.append_nil];exact OB.out.nodup
  have lo: ∀ b ∈ (Value.slice tB x.zQ.length cB).ownBlock.toList++ [],w.heap.size+1≤b:=fun b hb=>by rw[List.append_nil] at hb;have h2:=lb b hb;(try simp at h2);omega
  exact REST wB.heap.size _ _ _ _ _ _ _ _ _ _ _ _ _ _ _ (RB.out.alloc _) (Bk.born _ _ _) (T.ows_all ow ((Below.refl _ _).alloc (Nat.le_refl _) _)) nd lo (fun hm=>by rw[List.append_nil] at hm;have h1:=tb _ hm;have h2:=lb _ hm;(try simp at h2);omega) (by omega) (HBb.out.alloc HBb.out.size _)
 ·
  have ow:T.ows wB [T.ints 2 x.zQ] ((Value.slice tB x.zQ.length cB).ownBlock.toList++ []) [.slice tB x.zQ.length cB]:=T.c_ol OB.out.ow T.c_oe
  have s1:=CB.out.size;rw[HE1.out] at s1
  have lb:=OB.out.lo;have tb:=OB.out.lt
  have nd:((Value.slice tB x.zQ.length cB).ownBlock.toList++ []).Nodup:=by rw[List.append_nil];exact OB.out.nodup
  have lo: ∀ b ∈ (Value.slice tB x.zQ.length cB).ownBlock.toList++ [],w.heap.size+1≤b:=fun b hb=>by rw[List.append_nil] at hb;have h2:=lb b hb;(try simp at h2);omega
  have g2:w.heap.size≠(w.heap.size+1):=by omega
  have gf:(w.heap.size+1) ∉ (Value.slice tB x.zQ.length cB).ownBlock.toList++ []:=(fun hm=>by rw[List.append_nil] at hm;have h1:=tb _ hm;have h2:=lb _ hm;(try simp at h2);omega)
  exact REST (w.heap.size+1) _ _ _ _ _ _ _ _ _ _ _ _ _ _ _ ((((((RB.out.far g2 _).far g2 _).far g2 _).far g2 _).far g2 _).far g2 _) ((((((GB.out.set_ _ _).set_ _ _).set_ _ _).set_ _ _).set_ _ _).set_ _ _) (T.yP (T.yP (T.yP (T.yP (T.yP (T.yP ow gf _ _) gf _ _) gf _ _) gf _ _) gf _ _) gf _ _) nd lo gf (by omega) ((((((HBb.out.setCell (by simp) _).setCell (by simp) _).setCell (by simp) _).setCell (by simp) _).setCell (by simp) _).setCell (by simp) _)
end
section
open Go.RowKit
end
section
open Go.RowKit
end
section
open Go.RowKit
end
section
open Go.RowKit
end
section
open Go.RowKit
end
section
open Go.RowKit
theorem none_ows (w:World):T.ows w uK.fs [] [.int .i64 0,.slice none 0 0,.slice none 0 0,.slice none 0 0,.slice none 0 0,.slice none 0 0]:=
 xK.ow_mk (x:=uK) (Own.nil 0 w _ _).ow (Own.nil 0 w _ _).ow (Own.nil 0 w _ _).ow (Own.nil 0 w _ _).ow (Own.nil 0 w _ _).ow
theorem xK.sl5 {w:World} {x:xK} {p1 p2 p3 p4 p5:Value} (h:T.rds w x.fs [.int .i64 x.zF,p1,p2,p3,p4,p5]):(∃ A l c,p1= .slice A l c)∧(∃ A l c,p2= .slice A l c)∧(∃ A l c,p3= .slice A l c)∧(∃ A l c,p4= .slice A l c)∧ ∃ A l c,p5= .slice A l c:=by
 obtain⟨v1,v2,v3,v4,v5,e,h1,h2,h3,h4,h5⟩:=xK.yO h
 injection e with _ e
 injection e with e1 e
 injection e with e2 e
 injection e with e3 e
 injection e with e4 e
 injection e with e5 _
 subst e1 e2 e3 e4 e5
 exact⟨T.yV h1,T.yV h2,T.yV h3,T.yV h4,T.yV h5⟩
end
section
open Go.RowKit
def uY:wS:=⟨uK,[],[]⟩
end
end Go.Proofs.YtoibekfhepnedaaGreat
