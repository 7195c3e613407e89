/- Contracts: the reference's copies. -/
import Derived.Test.YtoibekfhepnedaaGreatQBfExactMakeCache
import Derived.Test.YtoibekfhepnedaaGreatQAfExactMakeCache
set_option linter.unusedVariables false
set_option linter.unusedSimpArgs false
set_option maxHeartbeats 2000000
set_option maxRecDepth 20000
namespace Go.Proofs.YtoibekfhepnedaaGreat
open Go.RowKit
theorem Grow.split_b {B:Nat} {w:World} {E2:TypeId} {s2:Nat} {l2:List T} {F2 FR:List Nat} {v2:Value} {E3 E1:TypeId} {s3 s1:Nat} {l3 l1:List T} {v3 v1:Value}
  (h:Grow B w E2 s2 l2 F2 v2 [.sl E3 s3 l3,.sl E1 s1 l1] FR [v3,v1]):
  ∃ F3 F1,T.ow w (.sl E3 s3 l3) F3 [v3]∧T.ow w (.sl E1 s1 l1) F1 [v1]∧(F1++(F2++(F3++ []))).Nodup∧(∀ b ∈ F1++(F2++(F3++ [])),B≤b)∧ ∀ g,g ∉ F2→g ∉ FR→g ∉ F1++(F2++(F3++ [])):=by
 obtain⟨u3,r3,F3,G3,rfl,e3,o3,h3⟩:=T.ows_sl.1 h.rest
 obtain⟨u1,r1,F1,G1,rfl,e1,o1,h1⟩:=T.ows_sl.1 h3
 obtain⟨rfl,rfl⟩:=T.ows_nil.1 h1
 subst e1
 injection e3 with f3 e
 injection e with f1 _
 subst f3 f1
 have hp:(F1++(F2++(F3++ []))).Perm (F2++(F3++(F1++ []))):=perm_of_count fun a=>by
  simp only[List.count_append,List.count_nil];omega
 have hn:(F2++(F3++(F1++ []))).Nodup:=uJ h.own.nodup h.nd h.dj
 refine⟨F3,F1,o3,o1,hp.nodup_iff.2 hn,fun b hb=>?_,fun g h1 h2 hg=>?_⟩
 ·rcases List.mem_append.1 (hp.mem_iff.1 hb) with hb|hb
  ·exact h.own.lo b hb
  ·exact h.lo b hb
 ·rcases List.mem_append.1 (hp.mem_iff.1 hg) with hg|hg
  ·exact h1 hg
  ·exact h2 hg
theorem Grow.split_c {B:Nat} {w:World} {E5:TypeId} {s5:Nat} {l5:List T} {F5 FR:List Nat} {v5:Value} {E3 E1 E2 E4:TypeId} {s3 s1 s2 s4:Nat} {l3 l1 l2 l4:List T} {v3 v1 v2 v4:Value}
  (h:Grow B w E5 s5 l5 F5 v5 [.sl E3 s3 l3,.sl E1 s1 l1,.sl E2 s2 l2,.sl E4 s4 l4] FR [v3,v1,v2,v4]):
  ∃ F3 F1 F2 F4,T.ow w (.sl E3 s3 l3) F3 [v3]∧T.ow w (.sl E1 s1 l1) F1 [v1]∧T.ow w (.sl E2 s2 l2) F2 [v2]∧T.ow w (.sl E4 s4 l4) F4 [v4]∧(F1++(F2++(F3++(F4++(F5++ []))))).Nodup∧(∀ b ∈ F1++(F2++(F3++(F4++(F5++ [])))),B≤b)∧ ∀ g,g ∉ F5→g ∉ FR→g ∉ F1++(F2++(F3++(F4++(F5++ [])))):=by
 obtain⟨u3,r3,F3,G3,rfl,e3,o3,h3⟩:=T.ows_sl.1 h.rest
 obtain⟨u1,r1,F1,G1,rfl,e1,o1,h1⟩:=T.ows_sl.1 h3
 obtain⟨u2,r2,F2,G2,rfl,e2,o2,h2⟩:=T.ows_sl.1 h1
 obtain⟨u4,r4,F4,G4,rfl,e4,o4,h4⟩:=T.ows_sl.1 h2
 obtain⟨rfl,rfl⟩:=T.ows_nil.1 h4
 subst e4 e2 e1
 injection e3 with f3 e
 injection e with f1 e
 injection e with f2 e
 injection e with f4 _
 subst f3 f1 f2 f4
 have hp:(F1++(F2++(F3++(F4++(F5++ []))))).Perm (F5++(F3++(F1++(F2++(F4++ []))))):=perm_of_count fun a=>by
  simp only[List.count_append,List.count_nil];omega
 have hn:(F5++(F3++(F1++(F2++(F4++ []))))).Nodup:=uJ h.own.nodup h.nd h.dj
 refine⟨F3,F1,F2,F4,o3,o1,o2,o4,hp.nodup_iff.2 hn,fun b hb=>?_,fun g h1 h2 hg=>?_⟩
 ·rcases List.mem_append.1 (hp.mem_iff.1 hb) with hb|hb
  ·exact h.own.lo b hb
  ·exact h.lo b hb
 ·rcases List.mem_append.1 (hp.mem_iff.1 hg) with hg|hg
  ·exact h1 hg
  ·exact h2 hg
theorem c_l07Own (x:xG) (b o:Nat) (w:World) (hs:x.small) (h:T.at w x.fs b o):Calls Tryz.prog 96 #[.pointer (some ⟨b,o,none⟩)] w fun e w'=> ∃ v1 v2 v3 F,e= .returned (.agg #[.int .i64 x.zJ,v1,v2,v3])∧Nw w w' x.fs F [.int .i64 x.zJ,v1,v2,v3]:=by
 have HAT:=hide h
 obtain⟨hlt0,cs,hr,hc⟩:=h
 obtain⟨v1,v2,v3,rfl,h1,h2,h3⟩:=xG.yO hr
 clear hr
 have R1:=hide h1;obtain⟨va1,vc1,rfl,vl1,vm1,vx1⟩:=T.yN h1
 have HX1:=hide vx1;clear vx1 h1
 have R2:=hide h2;obtain⟨va2,vc2,rfl,vl2,vm2,vx2⟩:=T.yN h2
 have HX2:=hide vx2;clear vx2 h2
 have h3i:=T.yT.1 h3;obtain⟨va3,vc3,rfl,vl3,vm3,vx3⟩:=h3i.open_
 have R3:=hide h3i;have HX3:=hide vx3;clear vx3 h3 h3i
 have HL:=hide hlt0;have HCC:=hide hc;have HB0:=hide (Below.refl w.heap.size w);clear hlt0 hc
 have HS:=hide hs;clear hs
 have HBa:=hide (show Below w.heap.size w (w.alloc (.cells #[.int .i64 0,.slice none 0 0,.slice none 0 0,.slice none 0 0] 108)) from(Below.refl _ _).alloc (Nat.le_refl _) _);have HRa:=hide (Bk.born w 108 #[.int .i64 0,.slice none 0 0,.slice none 0 0,.slice none 0 0])
 have HE1:=hide (show (w.alloc (.cells #[.int .i64 0,.slice none 0 0,.slice none 0 0,.slice none 0 0] 108)).heap.size=w.heap.size+1 by simp)
 go_enter Tryz.func96,Tryz.ntmps96
 go_wp2_with fail
 rename_i Q1 K1 hK1
 have REST: ∀ (g:Nat) (tX:Option Addr) (lX cX:Nat) (FR:List Nat) (u7 u8 u9 u10 u11 u12 u13 u14 u15 u16:Value) (W:World),Bk W w.heap.size 108 #[.int .i64 0,.slice none 0 0,.slice none 0 0,.slice none 0 0]→Bk W g 108 #[.int .i64 x.zJ,.slice none 0 0,.slice none 0 0,.slice tX lX cX]→T.ows W [T.ints 2 x.zK] FR [.slice tX lX cX]→FR.Nodup→(∀ b ∈ FR,w.heap.size+1≤b)→g ∉ FR→w.heap.size+1≤g→Below w.heap.size w W→K1 { tmps:= #[.pointer (some ⟨b,o,none⟩),undef,.pointer (some ⟨w.heap.size,0,none⟩),.pointer (some ⟨g,0,none⟩),undef,undef,undef,u7,u8,u9,u10,u11,u12,u13,u14,u15,u16,undef,undef,undef,undef,undef,undef,undef,undef,undef,undef,undef,undef,undef,undef,undef,undef,undef,undef,undef,undef,undef,undef,undef,undef,undef,undef,undef,undef,undef,undef,undef,undef,undef,undef,undef,undef,undef,undef,undef,undef,undef,undef,undef,undef,undef,undef,undef,undef,undef],defers:= [] } W:=by
  intro g tX lX cX FR u7 u8 u9 u10 u11 u12 u13 u14 u15 u16 W bk2 bk3 ow nd lo gf gl hbw
  refine hK1 _ _ ?_
  clear hK1 K1 HBa HRa HE1
  have KR:=hide bk2;have KO:=hide bk3;have HB:=hide hbw;have HOW:=hide ow;have HND:=hide nd;have HLO:=hide lo;have HGF:=hide gf
  clear bk2 bk3 ow nd lo gf hbw
  have ng2:w.heap.size≠g:=by omega
  have hsz0:w.heap.size+1≤W.heap.size:=by have:=KR.out.lt;omega
  have HG:=hide (Grow.start HOW.out HND.out HLO.out 26 1);clear HOW HND HLO
  have HFO:Sec (g ∉ ([]:List Nat)):=hide (by simp)
  go_wp2
  go_loopw [4] (fun i wr=> ∃ (k:Nat) (v:Value) (F:List Nat),k≤x.zN.length∧i= .int .i64 (k:Int)∧Grow (w.heap.size+1) wr 26 1 ((x.zN.take k).map (T.ints 2)) F v [T.ints 2 x.zK] FR [.slice tX lX cX]∧g ∉ F∧Bk wr w.heap.size 108 #[.int .i64 0,.slice none 0 0,.slice none 0 0,.slice none 0 0]∧Bk wr g 108 #[.int .i64 x.zJ,v,.slice none 0 0,.slice tX lX cX]∧Below w.heap.size w wr) (fun i _=>x.zN.length - (intOf i).toNat)
  case atStart=>exact⟨0,.slice none 0 0,[],Nat.zero_le _,rfl,by simpa using HG.out,by simp,KR.out,KO.out,HB.out⟩
  case round=>
   clear HG HFO KR KO HB hsz0
   obtain⟨k,v,F,hk,rfl,hG,hgF,b2,b3,hb⟩:=hrel
   obtain⟨tN1,lN1,cN1,rfl⟩:=hG.form
   have HG:=hide hG;have HF:=hide hgF;have KR:=hide b2;have KO:=hide b3;have HB:=hide hb;clear hG hgF b2 b3 hb
   have hsz:w.heap.size+1≤wr.heap.size:=by have:=KR.out.lt;omega
   have hgr:g<wr.heap.size:=KO.out.lt
   have hs:wr.heap.size≤wr.heap.size:=Nat.le_refl _
   have p1:wr.cell? ⟨b,o+1,none⟩=some (.slice va1 x.zN.length vc1):=(HB.out.cell HL.out).trans (HCC.out 1 _ rfl)
   have lb:b<wr.heap.size:=lL HL.out HB.out.size
   have hkk:(k:Int)≤x.zN.length:=by omega
   by_cases hlt:k<x.zN.length
   ·
    have hsy:=HS.out.1.2 _ (List.getElem_mem hlt)
    have hgk:=gE hlt
    obtain⟨b1,off,cs1,hA,hb1,hcs,hcell⟩:=HX1.out k x.zN[k] hgk
    subst hA
    generalize x.zN[k]=y at *
    have HY:=hide hgk;have HSY:=hide hsy;clear hgk hsy
    have hq1:b1<wr.heap.size:=lL hb1 HB.out.size
    obtain⟨y0,rfl⟩:=T.rd_one hcs
    have d0:=(HB.out.cell hb1).trans (hcell 0 y0 rfl)
    rw[Nat.mul_one,Nat.add_zero] at d0
    have RY:=hide (T.yT.1 (T.yF hcs HB.out));clear hcs hcell
    obtain⟨ua0,uc0,rfl,-,-,-⟩:=RY.out.open_
    go_wp2
    refine wK (fun w'=>(∀ i,w'.cell? ⟨g,i,none⟩= #[.int .i64 x.zJ,(.slice tN1 lN1 cN1),.slice none 0 0,.slice tX lX cX][i]?)∧w'.cell? ⟨b,o+1,none⟩=some (.slice (some ⟨b1,off,none⟩) x.zN.length vc1)∧w'.cell? ⟨b1,off+k,none⟩=some (.slice ua0 y.length uc0)) 13 (by kernel_rfl) ?_ (fun hS0=>?_)
    ·exact⟨KO.out.cell,p1,d0⟩
    refine tE 0 hS0 ?_
    refine tE 1 hS0 ?_
    refine tE 2 hS0 ?_
    refine tE 3 hS0 ?_
    refine tE 4 hS0 ?_
    refine tE 5 hS0 ?_
    refine tE 6 hS0 ?_
    refine tE 7 hS0 ?_
    refine tE 8 hS0 ?_
    have hHD:Below wr.heap.size wr wr.drew:=(Below.refl _ _).drew
    have HB_1:=hide (yJ HB.out HB.out.size hHD);have HG_1:=hide (HG.out.all hHD);have hs_1:wr.heap.size≤wr.drew.heap.size:=Nat.le_trans hs (hHD).size
    have KR_1:=hide (KR.out.below hHD KR.out.lt)
    have KO_1:=hide (KO.out.below hHD KO.out.lt)
    refine oE 9 (fun K hK=>?_)
    go_simp
    go_wp2_with (go_at_call 95;refine(c_l00Own _ y _ (Rd.below RY.out hHD) HSY.out).mono ?_;rintro e wC ⟨u,rfl,hoC,hbC⟩;obtain⟨tU,cU,rfl,-,-,-⟩:=hoC.rd.open_;have HN:=hide (Nv.ints hoC hbC);have hbX:Below wr.heap.size wr wC:=undrew hbC;have hbC:Below wr.drew.heap.size wr.drew wC:=hbC;clear hoC)
    have HB_2:=hide (yJ HB_1.out HB_1.out.size hbC);have HG_2:=hide (HG_1.out.all hbC);have hs_2:wr.heap.size≤wC.heap.size:=Nat.le_trans hs_1 (hbC).size
    have KR_2:=hide (KR_1.out.below hbC KR_1.out.lt)
    have KO_2:=hide (KO_1.out.below hbC KO_1.out.lt)
    clear hbC
    refine hK.out _ _ ?_ (fun hS1=>?_)
    ·exact⟨KO_2.out.cell,(hbX.cell (World.block_lt_of_cell? wr _ p1)).trans p1,(hbX.cell (World.block_lt_of_cell? wr _ d0)).trans d0⟩
    clear hK K hS0
    refine oE 10 (fun K hK=>?_)
    go_simp
    have HB_3:=hide (yJ HB_2.out HB_2.out.size (show Below wC.heap.size wC (wC.alloc (.cells #[.slice tU y.length cU] 26)) from(Below.refl _ _).alloc (Nat.le_refl _) _));have HG_3:=hide (HG_2.out.all (show Below wC.heap.size wC (wC.alloc (.cells #[.slice tU y.length cU] 26)) from(Below.refl _ _).alloc (Nat.le_refl _) _));have hs_3:wr.heap.size≤(wC.alloc (.cells #[.slice tU y.length cU] 26)).heap.size:=Nat.le_trans hs_2 ((show Below wC.heap.size wC (wC.alloc (.cells #[.slice tU y.length cU] 26)) from(Below.refl _ _).alloc (Nat.le_refl _) _)).size
    have KR_3:=hide (KR_2.out.below (show Below wC.heap.size wC (wC.alloc (.cells #[.slice tU y.length cU] 26)) from(Below.refl _ _).alloc (Nat.le_refl _) _) KR_2.out.lt)
    have KO_3:=hide (KO_2.out.below (show Below wC.heap.size wC (wC.alloc (.cells #[.slice tU y.length cU] 26)) from(Below.refl _ _).alloc (Nat.le_refl _) _) KO_2.out.lt)
    have HN2:=hide (T.ow_all HN.out.ow ((Below.refl _ _).alloc (Nat.le_refl _) (.cells #[.slice tU y.length cU] 26)))
    refine hK.out _ _ ?_ (fun hS2=>?_)
    ·exact⟨KO_3.out.cell,((hbX.alloc hbX.size (.cells #[.slice tU y.length cU] 26)).cell (World.block_lt_of_cell? wr _ p1)).trans p1,((hbX.alloc hbX.size (.cells #[.slice tU y.length cU] 26)).cell (World.block_lt_of_cell? wr _ d0)).trans d0⟩
    clear hK K hS1
    refine oE 11 (fun K hK=>?_)
    refine step1_T rfl _ _ _ rfl (w.heap.size+1) _ _ 1 24 Tryz.underlying24 wU rfl (by omega) rfl HG_3.out.own rfl (Bk.born _ _ _) (x:=T.ints 2 y) HN2.out HN.out.nodup (fun b hb=>by have h3:=HN.out.lo b hb;omega) (fun b hb hb2=>by have h1:=HG.out.lt b hb;have h3:=HN.out.lo b hb2;omega) rfl (by rw[List.length_map,List.length_take];have:=HS.out.1.1;omega) (by rw[List.length_map,List.length_take];have:=HS.out.1.1;unfold maxLen;omega) (Nat.le_trans hsz hs_3) ?_
    intro v8 w8 F8 ho8 hg8 hv8
    have hbY:Below w.heap.size wr w8:=((hbX.alloc hbX.size (.cells #[.slice tU y.length cU] 26)).mono (Nat.le_trans (Nat.le_succ _) hsz)).grown hg8 (Nat.le_trans (Nat.le_trans (Nat.le_succ _) hsz) (hbX.alloc hbX.size (.cells #[.slice tU y.length cU] 26)).size) (fun j hj=>by have h1:=HG.out.own.row j hj;omega)
    obtain⟨t8,l8,c8,rfl⟩:=T.yX ho8.ow
    have HF8:=hide (Grow.out hv8 HF.out (fun hm=>by have h3:=HN.out.lo _ hm;omega) (lL hgr hs_3))
    have HG_4:=hide (HG_3.out.app ho8 hg8 hv8 (fun b hb hb2=>by have h1:=HG.out.ltR b hb2;have h3:=HN.out.lo b hb;omega))
    have HB_4:=hide ((HG_3.out.own.more (show w.heap.size≤w.heap.size+1 by omega)).below HB_3.out HB_3.out.size hg8);have hs_4:wr.heap.size≤w8.heap.size:=Nat.le_trans hs_3 hg8.size
    have KR_4:=hide (KR_3.out.far1 hg8 (fun hm=>by have:=HG.out.own.lo _ hm;omega) HG_3.out.own)
    have KO_4:=hide (KO_3.out.far1 hg8 (HF.out) HG_3.out.own)
    clear ho8 hg8 hv8
    refine hK.out _ _ ?_ (fun hS3=>?_)
    ·exact⟨KO_4.out.cell,(hbY.cell HL.out).trans p1,(hbY.cell hb1).trans d0⟩
    clear hK K hS2
    refine tE 12 hS3 ?_
    refine wJ (o:=_) (by kernel_rfl) rfl (by kernel_rfl) ?_
    have fo8:=KO_4.out.free;have co8:=KO_4.out.cell;have lo8:=KO_4.out.lt
    go_wp2
    go_roundw
    case rel=>exact⟨k+1,.slice t8 l8 c8,F8,by omega,by go_num,(by rw[xQ HY.out,List.map_append];exact HG_4.out.far HF8.out HGF.out _ _),HF8.out,KR_4.out.far ng2 _,(by have:=KO_4.out.set_ 1 (.slice t8 l8 c8);simpa using this),HB_4.out.setCell (by simp;omega) _⟩
    case measure=>simp[intOf];omega
   obtain rfl:k=x.zN.length:=by omega
   obtain⟨W2,hW2⟩: ∃ W',W'=wr:=⟨_,rfl⟩
   subst hW2
   have hG:=HG.out;rw[List.take_length] at hG
   have HG:=hide (show Grow _ _ 167 4 [] [] (.slice none 0 0) [T.ints 2 x.zK,T.sl 26 1 (x.zN.map (T.ints 2))] (FR++F) [.slice tX lX cX,.slice tN1 lN1 cN1] from hG.next 167 4);clear hG
   have hGF:g ∉ FR++F:=fun hm=>(List.mem_append.1 hm).elim HGF.out HF.out
   replace HGF:=hide hGF;clear hGF HF hs hgr
   generalize FR++F=FR2 at *
   have HFO:Sec (g ∉ ([]:List Nat)):=hide (by simp)
   have hsz0:=hsz;clear hsz
   go_wp2
   go_loopw [5] (fun i wr=> ∃ (k:Nat) (v:Value) (F:List Nat),k≤x.zB.length∧i= .int .i64 (k:Int)∧Grow (w.heap.size+1) wr 167 4 ((x.zB.take k).map xJ.t) F v [T.ints 2 x.zK,T.sl 26 1 (x.zN.map (T.ints 2))] FR2 [.slice tX lX cX,.slice tN1 lN1 cN1]∧g ∉ F∧Bk wr w.heap.size 108 #[.int .i64 0,.slice none 0 0,.slice none 0 0,.slice none 0 0]∧Bk wr g 108 #[.int .i64 x.zJ,.slice tN1 lN1 cN1,v,.slice tX lX cX]∧Below w.heap.size w wr) (fun i _=>x.zB.length - (intOf i).toNat)
   case atStart=>exact⟨0,.slice none 0 0,[],Nat.zero_le _,rfl,by simpa using HG.out,by simp,KR.out,KO.out,HB.out⟩
   case round=>
    clear HG HFO KR KO HB hsz0
    obtain⟨k,v,F,hk,rfl,hG,hgF,b2,b3,hb⟩:=hrel
    obtain⟨tN2,lN2,cN2,rfl⟩:=hG.form
    have HG:=hide hG;have HF:=hide hgF;have KR:=hide b2;have KO:=hide b3;have HB:=hide hb;clear hG hgF b2 b3 hb
    have hsz:w.heap.size+1≤wr.heap.size:=by have:=KR.out.lt;omega
    have hgr:g<wr.heap.size:=KO.out.lt
    have hs:wr.heap.size≤wr.heap.size:=Nat.le_refl _
    have p2:wr.cell? ⟨b,o+2,none⟩=some (.slice va2 x.zB.length vc2):=(HB.out.cell HL.out).trans (HCC.out 2 _ rfl)
    have lb:b<wr.heap.size:=lL HL.out HB.out.size
    have hkk:(k:Int)≤x.zB.length:=by omega
    by_cases hlt:k<x.zB.length
    ·
     have hsy:=HS.out.2.1.2 _ (List.getElem_mem hlt)
     have hgk:=gE hlt
     obtain⟨b1,off,cs1,hA,hb1,hcs,hcell⟩:=HX2.out k x.zB[k] hgk
     subst hA
     generalize x.zB[k]=y at *
     have HY:=hide hgk;have HSY:=hide hsy;clear hgk hsy
     have hq1:b1<wr.heap.size:=lL hb1 HB.out.size
     obtain⟨u3,rfl,hRY3⟩:=xJ.yO (show T.rds _ _ _ by simpa only[xJ.t,T.rd] using hcs)
     have d0:=(HB.out.cell hb1).trans (hcell 0 (.int .i64 y.zD) rfl)
     have d1:=(HB.out.cell hb1).trans (hcell 1 (.int .i64 y.fA) rfl)
     have d2:=(HB.out.cell hb1).trans (hcell 2 (.int .i64 y.fB) rfl)
     have d3:=(HB.out.cell hb1).trans (hcell 3 (u3) rfl)
     rw[show off+(k * 4+0)=off+k * 4 by omega] at d0
     rw[show off+(k * 4+1)=off+k * 4+1 by omega] at d1
     rw[show off+(k * 4+2)=off+k * 4+2 by omega] at d2
     rw[show off+(k * 4+3)=off+k * 4+3 by omega] at d3
     have RY3:=hide (T.yF hRY3 HB.out);clear hRY3
     clear hcs hcell
     obtain⟨ua3,ul3,uc3,rfl⟩:=T.yV RY3.out
     have HXA:=hide (show Below wr.heap.size wr (wr.alloc (.cells #[.int .i64 y.zD,.int .i64 y.fA,.int .i64 y.fB,.slice ua3 ul3 uc3] 167)) from(Below.refl _ _).alloc (Nat.le_refl _) _)
     have HXB:=hide (Bk.born wr 167 #[.int .i64 y.zD,.int .i64 y.fA,.int .i64 y.fB,.slice ua3 ul3 uc3])
     have HB_1:=hide (yJ HB.out HB.out.size HXA.out);have HG_1:=hide (HG.out.all HXA.out);have hs_1:wr.heap.size≤(wr.alloc (.cells #[.int .i64 y.zD,.int .i64 y.fA,.int .i64 y.fB,.slice ua3 ul3 uc3] 167)).heap.size:=Nat.le_trans hs (HXA.out).size
     have KR_1:=hide (KR.out.below HXA.out KR.out.lt)
     have KO_1:=hide (KO.out.below HXA.out KO.out.lt)
     have KX_1:=HXB
     have hgx: ¬ g=wr.heap.size:=by omega
     have hgx2: ¬ wr.heap.size=g:=by omega
     have hx1:wr.heap.size<(wr.alloc (.cells #[.int .i64 y.zD,.int .i64 y.fA,.int .i64 y.fB,.slice ua3 ul3 uc3] 167)).heap.size:=by simp
     have kx0:=HXB.out.cell
     go_wp2_with (first|(go_at_call 95;refine(c_l00Own _ y.zH _ (Rd.below (T.yT.1 RY3.out) HXA.out) HSY.out).mono ?_;rintro e w7 ⟨u,rfl,hoC,hb7⟩;obtain⟨t7,c7,rfl,-,-,-⟩:=hoC.rd.open_;have hN:=Nv.ints hoC hb7;have HC:=hide (⟨hN.ow,hN.nodup,fun b hb=>by have h:=hN.lo b hb;(try simp at h);omega⟩:Own (wr.heap.size+1) w7 (T.ints 2 y.zH) _ _);clear hN hoC;have HB_2:=hide (yJ HB_1.out HB_1.out.size hb7);have HG_2:=hide (HG_1.out.all hb7);have hs_2:wr.heap.size≤w7.heap.size:=Nat.le_trans hs_1 (hb7).size;have KR_2:=hide (KR_1.out.below hb7 KR_1.out.lt);have KO_2:=hide (KO_1.out.below hb7 KO_1.out.lt);have KX_2:=hide (KX_1.out.below hb7 KX_1.out.lt);have cx:=KX_2.out.cell;have fx:=KX_2.out.free;have co:=KO_2.out.cell;have lx:=KX_2.out.lt;clear hb7;have HG_3:=hide (HG_2.out.far (g:=wr.heap.size) (fun hm=>by have:=HG.out.lt _ hm;omega) (fun hm=>by have:=HG.out.ltR _ hm;omega) 3 (.slice t7 y.zH.length c7));have HB_3:=hide (Below.setCell (p:=⟨wr.heap.size,3,none⟩) HB_2.out (show w.heap.size≤wr.heap.size by omega) (.slice t7 y.zH.length c7));have hs_3:wr.heap.size≤(w7.setCell ⟨wr.heap.size,3,none⟩ (.slice t7 y.zH.length c7)).heap.size:=(by simp[World.setCell];omega);have KX_3:Sec (Bk (w7.setCell ⟨wr.heap.size,3,none⟩ (.slice t7 y.zH.length c7)) wr.heap.size 167 #[.int .i64 y.zD,.int .i64 y.fA,.int .i64 y.fB,.slice t7 y.zH.length c7]):=hide (by have:=KX_2.out.set_ 3 (.slice t7 y.zH.length c7);simpa using this);have KR_3:=hide (KR_2.out.far (p:=⟨wr.heap.size,3,none⟩) (by simp;omega) (.slice t7 y.zH.length c7));have KO_3:=hide (KO_2.out.far (p:=⟨wr.heap.size,3,none⟩) (by simpa using hgx) (.slice t7 y.zH.length c7));have HN2:=hide (⟨xJ.ow_mk (x:=y) (T.ow_far (g:=wr.heap.size) HC.out.ow (fun hm=>by have:=HC.out.lo _ hm;omega) 3 (.slice t7 y.zH.length c7)),by rw[List.append_nil];exact HC.out.nodup,fun b hb=>HC.out.lo b (by simpa using hb)⟩:Nx (wr.heap.size+1) (w7.setCell ⟨wr.heap.size,3,none⟩ (.slice t7 y.zH.length c7)) y.fs _ _))|(at_builtin;refine app1_T rfl _ _ _ rfl (w.heap.size+1) _ _ 4 48 Tryz.underlying106 info_NodeS rfl (by omega) rfl HG_3.out.own (x:=y.t) (T.ow_st HN2.out.ows) HN2.out.nodup (fun b hb=>by have h3:=HN2.out.lo b hb;omega) (fun b hb hb2=>by have h1:=HG.out.lt b hb;have h3:=HN2.out.lo b hb2;omega) rfl (by show Value.slice (some ⟨w7.heap.size,0,none⟩) 1 1=_;simp[World.setCell]) (by rw[List.length_map,List.length_take];have:=HS.out.2.1.1;omega) (by rw[List.length_map,List.length_take];have:=HS.out.2.1.1;omega) (Nat.le_trans hsz hs_3) ?_;intro v8 w8 F8 ho8 hg8 hv8;obtain⟨t8,l8,c8,rfl⟩:=T.yX ho8.ow;have HF8:=hide (Grow.out hv8 HF.out (fun hm=>by have h3:=HN2.out.lo _ hm;omega) (lL hgr hs_3));have HG_4:=hide (HG_3.out.app ho8 hg8 hv8 (fun b hb hb2=>by have h1:=HG.out.ltR b hb2;have h3:=HN2.out.lo b hb;omega));have HB_4:=hide ((HG_3.out.own.more (show w.heap.size≤w.heap.size+1 by omega)).below HB_3.out HB_3.out.size hg8);have hs_4:wr.heap.size≤w8.heap.size:=Nat.le_trans hs_3 hg8.size;have KR_4:=hide (KR_3.out.far1 hg8 (fun hm=>by have:=HG.out.own.lo _ hm;omega) HG_3.out.own);have KO_4:=hide (KO_3.out.far1 hg8 (HF.out) HG_3.out.own);have KX_4:=hide (KX_3.out.far1 hg8 (fun hm=>by have:=HG.out.lt _ hm;omega) HG_3.out.own);clear ho8 hg8 hv8;have fo8:=KO_4.out.free;have co8:=KO_4.out.cell;have lo8:=KO_4.out.lt))
     go_roundw
     case rel=>exact⟨k+1,.slice t8 l8 c8,F8,by omega,by go_num,(by rw[xQ HY.out,List.map_append];exact HG_4.out.far HF8.out HGF.out _ _),HF8.out,KR_4.out.far ng2 _,(by have:=KO_4.out.set_ 2 (.slice t8 l8 c8);simpa using this),HB_4.out.setCell (by simp;omega) _⟩
     case measure=>simp[intOf];omega
    ·obtain rfl:k=x.zB.length:=by omega
     have ko:=KO.out.cell;have fo:=KO.out.free;have kr:=KR.out.cell;have fr:=KR.out.free
     have hr1:w.heap.size<wr.heap.size:=by omega
     have nn1: ¬ g=w.heap.size:=by omega
     go_wp2
     obtain⟨F3,F1,o3,o1,nd,lo,gn⟩:=HG.out.split_b
     have hr2:=gn w.heap.size (fun hm=>by have:=HG.out.own.lo _ hm;omega) (fun hm=>by have:=HG.out.lo _ hm;omega)
     have o2:=HG.out.own.ow;rw[List.take_length] at o2
     have hO:=xG.ow_mk (x:=x) o1 o2 o3
     refine bodyPost_ret (v:= .agg #[.int .i64 x.zJ,.slice tN1 lN1 cN1,.slice tN2 lN2 cN2,.slice tX lX cX]) (by simp[results,Tryz.results96,go_sem,ko,fo,kr,fr]) rfl ?_
     exact⟨_,_,_,_,rfl,(T.yP (T.yP (T.yP (T.yP hO hr2 _ _) hr2 _ _) hr2 _ _) hr2 _ _),nd,fun b hb=>by have:=lo b hb;omega,((((HB.out.setCell (by simp) _).setCell (by simp) _).setCell (by simp) _).setCell (by simp) _)⟩
 go_region_held3 (fun w'=>w'.cell? ⟨b,o,none⟩=some (.int .i64 x.zJ)∧w'.cell? ⟨b,o+3,none⟩=some (.slice va3 x.zK.length vc3)) (first|with_reducible exact⟨(((((HBb.out.setCell (by simp) _).setCell (by simp) _).setCell (by simp) _).setCell (by simp) _).cell HL.out).trans (HCC.out 0 _ rfl),(((((HBb.out.setCell (by simp) _).setCell (by simp) _).setCell (by simp) _).setCell (by simp) _).cell HL.out).trans (HCC.out 3 _ rfl)⟩|with_reducible exact⟨((HBb.out.alloc HBb.out.size _).cell HL.out).trans (HCC.out 0 _ rfl),((HBb.out.alloc HBb.out.size _).cell HL.out).trans (HCC.out 3 _ rfl)⟩|with_reducible exact⟨(HBb.out.cell HL.out).trans (HCC.out 0 _ rfl),(HBb.out.cell HL.out).trans (HCC.out 3 _ rfl)⟩|exact⟨(HBa.out.cell HL.out).trans (HCC.out 0 _ rfl),(HBa.out.cell HL.out).trans (HCC.out 3 _ rfl)⟩|exact⟨((HBa.out.alloc (by simp) _).cell HL.out).trans (HCC.out 0 _ rfl),((HBa.out.alloc (by simp) _).cell HL.out).trans (HCC.out 3 _ rfl)⟩) ((go_at_call 95;refine(c_l00Own _ x.zK _ (Rd.below R3.out (by first|with_reducible exact HBa.out|with_reducible exact HBa.out.drew|with_reducible exact HBa.out.alloc so _|with_reducible exact(HBa.out.alloc so _).drew|with_reducible exact(HBa.out.drew).alloc so _)) HS.out.2.2).mono ?_;rintro e wB ⟨vB,rfl,hoB,hbB⟩;obtain⟨tB,cB,rfl,-,-,-⟩:=hoB.rd.open_;have OB:=hide (Nv.ints hoB hbB);have CB:=hide (show Below (w.alloc (.cells #[.int .i64 0,.slice none 0 0,.slice none 0 0,.slice none 0 0] 108)).heap.size (w.alloc (.cells #[.int .i64 0,.slice none 0 0,.slice none 0 0,.slice none 0 0] 108)) wB from(by first|with_reducible exact hbB|with_reducible exact undrew hbB|with_reducible exact wM hbB|with_reducible exact yM hbB|with_reducible exact undrew (yM hbB)|with_reducible exact yM (undrew hbB)));have RB:=hide (HRa.out.below CB.out HRa.out.lt);have HBb:=hide (yJ HBa.out HBa.out.size CB.out);(try ((first|have gA:=Bk.below (Bk.born _ _ _) hbB (by simp)|have gA:=Bk.below (Bk.drew (Bk.born _ _ _)) hbB (by simp));rw[HE1.out] at gA;have GB:=hide gA;clear gA;have gb:=GB.out.cell;have gbf:=GB.out.free));clear hoB hbB))
 ·
  have ow:T.ows wB [T.ints 2 x.zK] ((Value.slice tB x.zK.length cB).ownBlock.toList++ []) [.slice tB x.zK.length cB]:=T.c_ol OB.out.ow T.c_oe
  have s1:=CB.out.size;rw[HE1.out] at s1
  have lb:=OB.out.lo;have tb:=OB.out.lt
  have nd:((Value.slice tB x.zK.length cB).ownBlock.toList++ []).Nodup:=by rw[List.append_nil];exact OB.out.nodup
  have lo: ∀ b ∈ (Value.slice tB x.zK.length cB).ownBlock.toList++ [],w.heap.size+1≤b:=fun b hb=>by rw[List.append_nil] at hb;have h2:=lb b hb;(try simp at h2);omega
  exact REST wB.heap.size _ _ _ _ _ _ _ _ _ _ _ _ _ _ _ (RB.out.alloc _) (Bk.born _ _ _) (T.ows_all ow ((Below.refl _ _).alloc (Nat.le_refl _) _)) nd lo (fun hm=>by rw[List.append_nil] at hm;have h1:=tb _ hm;have h2:=lb _ hm;(try simp at h2);omega) (by omega) (HBb.out.alloc HBb.out.size _)
 ·
  have ow:T.ows wB [T.ints 2 x.zK] ((Value.slice tB x.zK.length cB).ownBlock.toList++ []) [.slice tB x.zK.length cB]:=T.c_ol OB.out.ow T.c_oe
  have s1:=CB.out.size;rw[HE1.out] at s1
  have lb:=OB.out.lo;have tb:=OB.out.lt
  have nd:((Value.slice tB x.zK.length cB).ownBlock.toList++ []).Nodup:=by rw[List.append_nil];exact OB.out.nodup
  have lo: ∀ b ∈ (Value.slice tB x.zK.length cB).ownBlock.toList++ [],w.heap.size+1≤b:=fun b hb=>by rw[List.append_nil] at hb;have h2:=lb b hb;(try simp at h2);omega
  have g2:w.heap.size≠(w.heap.size+1):=by omega
  have gf:(w.heap.size+1) ∉ (Value.slice tB x.zK.length cB).ownBlock.toList++ []:=(fun hm=>by rw[List.append_nil] at hm;have h1:=tb _ hm;have h2:=lb _ hm;(try simp at h2);omega)
  exact REST (w.heap.size+1) _ _ _ _ _ _ _ _ _ _ _ _ _ _ _ ((((RB.out.far g2 _).far g2 _).far g2 _).far g2 _) ((((GB.out.set_ _ _).set_ _ _).set_ _ _).set_ _ _) (T.yP (T.yP (T.yP (T.yP ow gf _ _) gf _ _) gf _ _) gf _ _) nd lo gf (by omega) ((((HBb.out.setCell (by simp) _).setCell (by simp) _).setCell (by simp) _).setCell (by simp) _)
end Go.Proofs.YtoibekfhepnedaaGreat
