/- Contracts: the texts of nodes, patches and mixers, by the reference. -/
import Derived.Test.YtbgedljbgkcpiaaGreatDoorQBdExactDiffSessions
import Derived.Test.YtbgedljbgkcpiaaGreatDoorQAnExactDiffSessions
import Derived.Test.YtbgedljbgkcpiaaGreatDoorQAxExactDiffSessions
import Derived.Test.YtbgedljbgkcpiaaGreatDoorQAmExactDiffSessions
import Derived.Deep.RegionWith
set_option linter.unusedVariables false
set_option linter.unusedSimpArgs false
set_option maxHeartbeats 2000000
set_option maxRecDepth 20000
namespace Go.Proofs.YtbgedljbgkcpiaaGreatDoor
open Go.RowKit
def nmCells:Array Value:= #[.string ⟨#[]⟩,.string ⟨#[105,110,112,117,116]⟩,.string ⟨#[99,111,110,115,116]⟩,.string ⟨#[97,100,100]⟩,.string ⟨#[115,117,98]⟩,.string ⟨#[103,97,105,110]⟩,.string ⟨#[100,101,108,97,121]⟩,.string ⟨#[115,117,109]⟩,.string ⟨#[100,105,102,102]⟩,.string ⟨#[109,117,108]⟩,.string ⟨#[115,104,105,102,116]⟩,.string ⟨#[99,108,105,112]⟩,.string ⟨#[112,104,97,115,101]⟩,.string ⟨#[116,97,98,108,101]⟩,.string ⟨#[110,111,105,115,101]⟩,.string ⟨#[115,101,108,101,99,116]⟩,.string ⟨#[104,111,108,100]⟩,.string ⟨#[99,111,109,98]⟩]
theorem c_l06Names (w:World):Calls Tryz.prog 134 #[] w fun e w'=>e= .returned (.slice (some ⟨w.heap.size,0,none⟩) 18 18)∧w'=w.alloc (.cells nmCells 9):=by
 go_enter Tryz.func134,Tryz.ntmps134
 go_wp2
 go_ret
 exact⟨rfl,rfl⟩
theorem nmCells_at {k:Int} {i:Nat} (hi:i<17) (hk:k=(i:Int)+1): ∃ nm:ByteArray,nmCells[i+1]?=some (.string nm)∧nm.data.toList=nameK k∧nm.size≤6∧decide (k ∈ ([1,2,5,6,10,11,12,13,14,17]:List Int))=decide ((kndF k).low≤(kndF k).high)∧(kndF k).hasB=decide (k=17):=by
 subst hk
 have:i=0∨i=1∨i=2∨i=3∨i=4∨i=5∨i=6∨i=7∨i=8∨i=9∨i=10∨i=11∨i=12∨i=13∨i=14∨i=15∨i=16:=by omega
 rcases this with rfl|rfl|rfl|rfl|rfl|rfl|rfl|rfl|rfl|rfl|rfl|rfl|rfl|rfl|rfl|rfl|rfl
 all_goals exact⟨_,rfl,rfl,by decide,by decide,by decide⟩
theorem c_l06Text (x:GNode) (b o:Nat) (w:World) (hk:inB x.zC 1 17=true) (hf:x.zG.length≤24) (hg:x.good) (h:T.at w x.fs b o):Calls Tryz.prog 98 #[.pointer (some ⟨b,o,none⟩)] w fun e w'=>e= .returned (.string (mkS (nodeL x)))∧Below w.heap.size w w':=by
 have HAT:=hide h
 obtain⟨hlt0,cs,hr,hc⟩:=h
 obtain⟨v3,rfl,h3⟩:=GNode.yM hr
 clear hr
 have h3i:=T.yQ.1 h3;obtain⟨va3,vc3,rfl,vl3,vm3,vx3⟩:=h3i.open_
 have R3:=hide h3i;have HX3:=hide vx3;clear vx3 h3 h3i
 have HL:=hide hlt0;have HCC:=hide hc;have HB0:=hide (Below.refl w.heap.size w);clear hlt0 hc
 have HLN:=hide (node_len hg hf)
 have GA:=hide hg.2.1;have GB:=hide hg.2.2.1;have GF:=hide hg.2.2.2;clear hg
 have hk:=yX.1 hk
 obtain⟨i,hi,hki⟩: ∃ i:Nat,i<17∧x.zC=(i:Int)+1:=⟨(x.zC - 1).toNat,by omega,by omega⟩
 obtain⟨nm,r0,hnm,hz,hA,hB⟩:=nmCells_at hi hki
 have HNM:=hide hnm;have HA:=hide hA;have HB:=hide hB;clear hnm hA hB hk
 have zA:(decS x.fA).size≤21:=by unfold decS;rw[size_mkS];exact dec_len GA.out
 have zB:(decS x.fB).size≤21:=by unfold decS;rw[size_mkS];exact dec_len GB.out
 have zF:(mkS ((blanks x.zG).drop 1)).size≤600:=by rw[size_mkS,List.length_drop];have:=blanks_len GF.out;omega
 obtain⟨nt,hnt⟩: ∃ nt,mkS ((blanks x.zG).drop 1)=nt:=⟨_,rfl⟩;have HNT:=hide hnt
 have HNU:=hide (fun(W:World) (hr:RdI W (.slice va3 x.zG.length vc3) x.zG)=>(by have:=c_l03Text _ x.zG W hr GF.out (by omega);rw[hnt] at this;exact this:Calls Tryz.prog 133 #[.slice va3 x.zG.length vc3] W fun e w'=>e= .returned (.string nt)∧Below W.heap.size W w'));rw[hnt] at zF;clear hnt
 obtain⟨kk,hkk⟩: ∃ kk:Int,x.zC=kk:=⟨_,rfl⟩
 have p0:w.cell? ⟨b,o,none⟩=some (.int .i64 x.zC):=(HB0.out.cell HL.out).trans (HCC.out 0 _ rfl)
 have p1:w.cell? ⟨b,o+1,none⟩=some (.int .i64 x.fA):=(HB0.out.cell HL.out).trans (HCC.out 1 _ rfl)
 have p2:w.cell? ⟨b,o+2,none⟩=some (.int .i64 x.fB):=(HB0.out.cell HL.out).trans (HCC.out 2 _ rfl)
 have p3:w.cell? ⟨b,o+3,none⟩=some (.slice va3 x.zG.length vc3):=(HB0.out.cell HL.out).trans (HCC.out 3 _ rfl)
 have lb:b<w.heap.size:=Nat.lt_of_lt_of_le HL.out HB0.out.size
 rw[hkk] at p0
 have HKK:=hide hkk;clear hkk
 have q1:kk=(i:Int)+1:=by rw[←HKK.out];exact hki
 have n0:(0:Int)≤kk:=by omega
 have n1:kk<18:=by omega
 have n2:kk.toNat=i+1:=by omega
 have HKI:=hide hki;clear hki q1
 go_enter Tryz.func98,Tryz.ntmps98
 go_wp2
 rename_i Q1 K1 hK1
 have REST: ∀ (g:Nat) (W:World),Below w.heap.size w W→K1 { tmps:= #[.pointer (some ⟨b,o,none⟩),undef,.string ⟨#[]⟩,.string nm,.slice (some ⟨g,0,none⟩) 18 18,.pointer (some ⟨b,o,none⟩),.pointer (some ⟨b,o,none⟩),.pointer (some ⟨b,o,none⟩),.int .i64 kk,.pointer (some ⟨g,i+1,none⟩),.string nm,undef,undef,undef,undef,undef,undef,undef,undef,undef,undef,undef,undef,undef,undef,undef,undef,undef,undef,undef,undef,undef,undef,undef,undef,undef,undef,undef,undef,undef,undef,undef,undef,undef,undef,undef,undef,undef,undef,undef,undef,undef],defers:= [] } W:=by
  intro g W hbw
  have HBW:=hide hbw;clear hbw p0 p1 p2 p3 lb r0
  have h32:(⟨#[32]⟩:ByteArray).size=1:=rfl;have h4:(⟨#[32,111,102,32]⟩:ByteArray).size=4:=rfl
  by_cases f0:x.zG= []
  ·
   have q0:decide (0<x.zG.length)=false:=by rw[f0];rfl
   have F0:=hide f0;clear f0
   by_cases a0:(kndF x.zC).low≤(kndF x.zC).high
   ·
    have QA:=hide (show decide (kk ∈ ([1,2,5,6,10,11,12,13,14,17]:List Int))=true by rw[←HKK.out,HA.out];exact decide_eq_true a0)
    have A0:=hide a0;clear a0
    by_cases c0:kk=17
    ·
     have qc:(kk == 17)=true:=yP c0
     have HBE:=hide (show (kndF x.zC).hasB=true by rw[HB.out,HKK.out];exact decide_eq_true c0)
     clear c0
     have p0:W.cell? ⟨b,o,none⟩=some (.int .i64 x.zC):=(HBW.out.cell HL.out).trans (HCC.out 0 _ rfl)
     have p1:W.cell? ⟨b,o+1,none⟩=some (.int .i64 x.fA):=(HBW.out.cell HL.out).trans (HCC.out 1 _ rfl)
     have p2:W.cell? ⟨b,o+2,none⟩=some (.int .i64 x.fB):=(HBW.out.cell HL.out).trans (HCC.out 2 _ rfl)
     have p3:W.cell? ⟨b,o+3,none⟩=some (.slice va3 x.zG.length vc3):=(HBW.out.cell HL.out).trans (HCC.out 3 _ rfl)
     have lb:b<W.heap.size:=Nat.lt_of_lt_of_le HL.out HBW.out.size
     rw[HKK.out] at p0
     refine hK1 _ _ ?_
     go_wp2_with fail
     refine(c_l06HasA _ _).mono ?_;rintro e w1 ⟨rfl,hb⟩;rw[QA.out]
     have HBW1:=hide (yH HBW.out HBW.out.size hb);clear hb p0 p1 p2 p3 lb
     have p0:w1.cell? ⟨b,o,none⟩=some (.int .i64 x.zC):=(HBW1.out.cell HL.out).trans (HCC.out 0 _ rfl)
     have p1:w1.cell? ⟨b,o+1,none⟩=some (.int .i64 x.fA):=(HBW1.out.cell HL.out).trans (HCC.out 1 _ rfl)
     have p2:w1.cell? ⟨b,o+2,none⟩=some (.int .i64 x.fB):=(HBW1.out.cell HL.out).trans (HCC.out 2 _ rfl)
     have p3:w1.cell? ⟨b,o+3,none⟩=some (.slice va3 x.zG.length vc3):=(HBW1.out.cell HL.out).trans (HCC.out 3 _ rfl)
     have lb:b<w1.heap.size:=Nat.lt_of_lt_of_le HL.out HBW1.out.size
     rw[HKK.out] at p0
     go_wp2_with fail
     refine(c_sDec x.fA _ GA.out).mono ?_;rintro e w2 ⟨rfl,hb⟩
     have HBW2:=hide (yH HBW1.out HBW1.out.size hb);clear hb p0 p1 p2 p3 lb
     have p0:w2.cell? ⟨b,o,none⟩=some (.int .i64 x.zC):=(HBW2.out.cell HL.out).trans (HCC.out 0 _ rfl)
     have p1:w2.cell? ⟨b,o+1,none⟩=some (.int .i64 x.fA):=(HBW2.out.cell HL.out).trans (HCC.out 1 _ rfl)
     have p2:w2.cell? ⟨b,o+2,none⟩=some (.int .i64 x.fB):=(HBW2.out.cell HL.out).trans (HCC.out 2 _ rfl)
     have p3:w2.cell? ⟨b,o+3,none⟩=some (.slice va3 x.zG.length vc3):=(HBW2.out.cell HL.out).trans (HCC.out 3 _ rfl)
     have lb:b<w2.heap.size:=Nat.lt_of_lt_of_le HL.out HBW2.out.size
     rw[HKK.out] at p0
     have y2:((⟨#[32]⟩:ByteArray)++decS x.fA).size≤22:=by rw[ByteArray.size_append,h32];omega
     have z2:(nm++((⟨#[32]⟩:ByteArray)++decS x.fA)).size≤28:=by rw[ByteArray.size_append];omega
     go_wp2_with fail
     refine(c_sDec x.fB _ GB.out).mono ?_;rintro e w3 ⟨rfl,hb⟩
     have HBW3:=hide (yH HBW2.out HBW2.out.size hb);clear hb p0 p1 p2 p3 lb
     have p0:w3.cell? ⟨b,o,none⟩=some (.int .i64 x.zC):=(HBW3.out.cell HL.out).trans (HCC.out 0 _ rfl)
     have p1:w3.cell? ⟨b,o+1,none⟩=some (.int .i64 x.fA):=(HBW3.out.cell HL.out).trans (HCC.out 1 _ rfl)
     have p2:w3.cell? ⟨b,o+2,none⟩=some (.int .i64 x.fB):=(HBW3.out.cell HL.out).trans (HCC.out 2 _ rfl)
     have p3:w3.cell? ⟨b,o+3,none⟩=some (.slice va3 x.zG.length vc3):=(HBW3.out.cell HL.out).trans (HCC.out 3 _ rfl)
     have lb:b<w3.heap.size:=Nat.lt_of_lt_of_le HL.out HBW3.out.size
     rw[HKK.out] at p0
     have y3:((⟨#[32]⟩:ByteArray)++decS x.fB).size≤22:=by rw[ByteArray.size_append,h32];omega
     have z3:((nm++((⟨#[32]⟩:ByteArray)++decS x.fA))++((⟨#[32]⟩:ByteArray)++decS x.fB)).size≤50:=by rw[ByteArray.size_append];omega
     have HE:=hide (show ((nm++((⟨#[32]⟩:ByteArray)++decS x.fA))++((⟨#[32]⟩:ByteArray)++decS x.fB))=mkS (nodeL x) by
      apply str_is;unfold nodeL ofL
      rw[if_pos A0.out,if_pos HBE.out,if_pos F0.out,←HNM.out]
      simp[dat_app,dat_dec,dat_mk,blankL])
     go_wp2
     go_ret
     exact⟨ret_str (by rw[←HE.out]),yH HB0.out HB0.out.size HBW3.out⟩
    ·
     have qc:(kk == 17)=false:=yO c0
     have HBE:=hide (show (kndF x.zC).hasB=false by rw[HB.out,HKK.out];exact decide_eq_false c0)
     clear c0
     have p0:W.cell? ⟨b,o,none⟩=some (.int .i64 x.zC):=(HBW.out.cell HL.out).trans (HCC.out 0 _ rfl)
     have p1:W.cell? ⟨b,o+1,none⟩=some (.int .i64 x.fA):=(HBW.out.cell HL.out).trans (HCC.out 1 _ rfl)
     have p2:W.cell? ⟨b,o+2,none⟩=some (.int .i64 x.fB):=(HBW.out.cell HL.out).trans (HCC.out 2 _ rfl)
     have p3:W.cell? ⟨b,o+3,none⟩=some (.slice va3 x.zG.length vc3):=(HBW.out.cell HL.out).trans (HCC.out 3 _ rfl)
     have lb:b<W.heap.size:=Nat.lt_of_lt_of_le HL.out HBW.out.size
     rw[HKK.out] at p0
     refine hK1 _ _ ?_
     go_wp2_with fail
     refine(c_l06HasA _ _).mono ?_;rintro e w1 ⟨rfl,hb⟩;rw[QA.out]
     have HBW1:=hide (yH HBW.out HBW.out.size hb);clear hb p0 p1 p2 p3 lb
     have p0:w1.cell? ⟨b,o,none⟩=some (.int .i64 x.zC):=(HBW1.out.cell HL.out).trans (HCC.out 0 _ rfl)
     have p1:w1.cell? ⟨b,o+1,none⟩=some (.int .i64 x.fA):=(HBW1.out.cell HL.out).trans (HCC.out 1 _ rfl)
     have p2:w1.cell? ⟨b,o+2,none⟩=some (.int .i64 x.fB):=(HBW1.out.cell HL.out).trans (HCC.out 2 _ rfl)
     have p3:w1.cell? ⟨b,o+3,none⟩=some (.slice va3 x.zG.length vc3):=(HBW1.out.cell HL.out).trans (HCC.out 3 _ rfl)
     have lb:b<w1.heap.size:=Nat.lt_of_lt_of_le HL.out HBW1.out.size
     rw[HKK.out] at p0
     go_wp2_with fail
     refine(c_sDec x.fA _ GA.out).mono ?_;rintro e w2 ⟨rfl,hb⟩
     have HBW2:=hide (yH HBW1.out HBW1.out.size hb);clear hb p0 p1 p2 p3 lb
     have p0:w2.cell? ⟨b,o,none⟩=some (.int .i64 x.zC):=(HBW2.out.cell HL.out).trans (HCC.out 0 _ rfl)
     have p1:w2.cell? ⟨b,o+1,none⟩=some (.int .i64 x.fA):=(HBW2.out.cell HL.out).trans (HCC.out 1 _ rfl)
     have p2:w2.cell? ⟨b,o+2,none⟩=some (.int .i64 x.fB):=(HBW2.out.cell HL.out).trans (HCC.out 2 _ rfl)
     have p3:w2.cell? ⟨b,o+3,none⟩=some (.slice va3 x.zG.length vc3):=(HBW2.out.cell HL.out).trans (HCC.out 3 _ rfl)
     have lb:b<w2.heap.size:=Nat.lt_of_lt_of_le HL.out HBW2.out.size
     rw[HKK.out] at p0
     have y2:((⟨#[32]⟩:ByteArray)++decS x.fA).size≤22:=by rw[ByteArray.size_append,h32];omega
     have z2:(nm++((⟨#[32]⟩:ByteArray)++decS x.fA)).size≤28:=by rw[ByteArray.size_append];omega
     have HE:=hide (show (nm++((⟨#[32]⟩:ByteArray)++decS x.fA))=mkS (nodeL x) by
      apply str_is;unfold nodeL ofL
      rw[if_pos A0.out,if_neg (show ¬ (kndF x.zC).hasB=true by rw[HBE.out];simp),if_pos F0.out,←HNM.out]
      simp[dat_app,dat_dec,dat_mk,blankL])
     go_wp2
     go_ret
     exact⟨ret_str (by rw[←HE.out]),yH HB0.out HB0.out.size HBW2.out⟩
   ·
    have QA:=hide (show decide (kk ∈ ([1,2,5,6,10,11,12,13,14,17]:List Int))=false by rw[←HKK.out,HA.out];exact decide_eq_false a0)
    have A0:=hide a0;clear a0
    by_cases c0:kk=17
    ·
     have qc:(kk == 17)=true:=yP c0
     have HBE:=hide (show (kndF x.zC).hasB=true by rw[HB.out,HKK.out];exact decide_eq_true c0)
     clear c0
     have p0:W.cell? ⟨b,o,none⟩=some (.int .i64 x.zC):=(HBW.out.cell HL.out).trans (HCC.out 0 _ rfl)
     have p1:W.cell? ⟨b,o+1,none⟩=some (.int .i64 x.fA):=(HBW.out.cell HL.out).trans (HCC.out 1 _ rfl)
     have p2:W.cell? ⟨b,o+2,none⟩=some (.int .i64 x.fB):=(HBW.out.cell HL.out).trans (HCC.out 2 _ rfl)
     have p3:W.cell? ⟨b,o+3,none⟩=some (.slice va3 x.zG.length vc3):=(HBW.out.cell HL.out).trans (HCC.out 3 _ rfl)
     have lb:b<W.heap.size:=Nat.lt_of_lt_of_le HL.out HBW.out.size
     rw[HKK.out] at p0
     refine hK1 _ _ ?_
     go_wp2_with fail
     refine(c_l06HasA _ _).mono ?_;rintro e w1 ⟨rfl,hb⟩;rw[QA.out]
     have HBW1:=hide (yH HBW.out HBW.out.size hb);clear hb p0 p1 p2 p3 lb
     have p0:w1.cell? ⟨b,o,none⟩=some (.int .i64 x.zC):=(HBW1.out.cell HL.out).trans (HCC.out 0 _ rfl)
     have p1:w1.cell? ⟨b,o+1,none⟩=some (.int .i64 x.fA):=(HBW1.out.cell HL.out).trans (HCC.out 1 _ rfl)
     have p2:w1.cell? ⟨b,o+2,none⟩=some (.int .i64 x.fB):=(HBW1.out.cell HL.out).trans (HCC.out 2 _ rfl)
     have p3:w1.cell? ⟨b,o+3,none⟩=some (.slice va3 x.zG.length vc3):=(HBW1.out.cell HL.out).trans (HCC.out 3 _ rfl)
     have lb:b<w1.heap.size:=Nat.lt_of_lt_of_le HL.out HBW1.out.size
     rw[HKK.out] at p0
     go_wp2_with fail
     refine(c_sDec x.fB _ GB.out).mono ?_;rintro e w2 ⟨rfl,hb⟩
     have HBW2:=hide (yH HBW1.out HBW1.out.size hb);clear hb p0 p1 p2 p3 lb
     have p0:w2.cell? ⟨b,o,none⟩=some (.int .i64 x.zC):=(HBW2.out.cell HL.out).trans (HCC.out 0 _ rfl)
     have p1:w2.cell? ⟨b,o+1,none⟩=some (.int .i64 x.fA):=(HBW2.out.cell HL.out).trans (HCC.out 1 _ rfl)
     have p2:w2.cell? ⟨b,o+2,none⟩=some (.int .i64 x.fB):=(HBW2.out.cell HL.out).trans (HCC.out 2 _ rfl)
     have p3:w2.cell? ⟨b,o+3,none⟩=some (.slice va3 x.zG.length vc3):=(HBW2.out.cell HL.out).trans (HCC.out 3 _ rfl)
     have lb:b<w2.heap.size:=Nat.lt_of_lt_of_le HL.out HBW2.out.size
     rw[HKK.out] at p0
     have y2:((⟨#[32]⟩:ByteArray)++decS x.fB).size≤22:=by rw[ByteArray.size_append,h32];omega
     have z2:(nm++((⟨#[32]⟩:ByteArray)++decS x.fB)).size≤28:=by rw[ByteArray.size_append];omega
     have HE:=hide (show (nm++((⟨#[32]⟩:ByteArray)++decS x.fB))=mkS (nodeL x) by
      apply str_is;unfold nodeL ofL
      rw[if_neg (show ¬ (kndF x.zC).low≤(kndF x.zC).high by have:=A0.out;omega),if_pos HBE.out,if_pos F0.out,←HNM.out]
      simp[dat_app,dat_dec,dat_mk,blankL])
     go_wp2
     go_ret
     exact⟨ret_str (by rw[←HE.out]),yH HB0.out HB0.out.size HBW2.out⟩
    ·
     have qc:(kk == 17)=false:=yO c0
     have HBE:=hide (show (kndF x.zC).hasB=false by rw[HB.out,HKK.out];exact decide_eq_false c0)
     clear c0
     have p0:W.cell? ⟨b,o,none⟩=some (.int .i64 x.zC):=(HBW.out.cell HL.out).trans (HCC.out 0 _ rfl)
     have p1:W.cell? ⟨b,o+1,none⟩=some (.int .i64 x.fA):=(HBW.out.cell HL.out).trans (HCC.out 1 _ rfl)
     have p2:W.cell? ⟨b,o+2,none⟩=some (.int .i64 x.fB):=(HBW.out.cell HL.out).trans (HCC.out 2 _ rfl)
     have p3:W.cell? ⟨b,o+3,none⟩=some (.slice va3 x.zG.length vc3):=(HBW.out.cell HL.out).trans (HCC.out 3 _ rfl)
     have lb:b<W.heap.size:=Nat.lt_of_lt_of_le HL.out HBW.out.size
     rw[HKK.out] at p0
     refine hK1 _ _ ?_
     go_wp2_with fail
     refine(c_l06HasA _ _).mono ?_;rintro e w1 ⟨rfl,hb⟩;rw[QA.out]
     have HBW1:=hide (yH HBW.out HBW.out.size hb);clear hb p0 p1 p2 p3 lb
     have p0:w1.cell? ⟨b,o,none⟩=some (.int .i64 x.zC):=(HBW1.out.cell HL.out).trans (HCC.out 0 _ rfl)
     have p1:w1.cell? ⟨b,o+1,none⟩=some (.int .i64 x.fA):=(HBW1.out.cell HL.out).trans (HCC.out 1 _ rfl)
     have p2:w1.cell? ⟨b,o+2,none⟩=some (.int .i64 x.fB):=(HBW1.out.cell HL.out).trans (HCC.out 2 _ rfl)
     have p3:w1.cell? ⟨b,o+3,none⟩=some (.slice va3 x.zG.length vc3):=(HBW1.out.cell HL.out).trans (HCC.out 3 _ rfl)
     have lb:b<w1.heap.size:=Nat.lt_of_lt_of_le HL.out HBW1.out.size
     rw[HKK.out] at p0
     have HE:=hide (show nm=mkS (nodeL x) by
      apply str_is;unfold nodeL ofL
      rw[if_neg (show ¬ (kndF x.zC).low≤(kndF x.zC).high by have:=A0.out;omega),if_neg (show ¬ (kndF x.zC).hasB=true by rw[HBE.out];simp),if_pos F0.out,←HNM.out]
      simp[dat_app,dat_dec,dat_mk,blankL])
     go_wp2
     go_ret
     exact⟨ret_str (by rw[←HE.out]),yH HB0.out HB0.out.size HBW1.out⟩
  ·
   have q0:decide (0<x.zG.length)=true:=decide_eq_true (List.length_pos_iff.2 f0)
   have F0:=hide f0;clear f0
   by_cases a0:(kndF x.zC).low≤(kndF x.zC).high
   ·
    have QA:=hide (show decide (kk ∈ ([1,2,5,6,10,11,12,13,14,17]:List Int))=true by rw[←HKK.out,HA.out];exact decide_eq_true a0)
    have A0:=hide a0;clear a0
    by_cases c0:kk=17
    ·
     have qc:(kk == 17)=true:=yP c0
     have HBE:=hide (show (kndF x.zC).hasB=true by rw[HB.out,HKK.out];exact decide_eq_true c0)
     clear c0
     have p0:W.cell? ⟨b,o,none⟩=some (.int .i64 x.zC):=(HBW.out.cell HL.out).trans (HCC.out 0 _ rfl)
     have p1:W.cell? ⟨b,o+1,none⟩=some (.int .i64 x.fA):=(HBW.out.cell HL.out).trans (HCC.out 1 _ rfl)
     have p2:W.cell? ⟨b,o+2,none⟩=some (.int .i64 x.fB):=(HBW.out.cell HL.out).trans (HCC.out 2 _ rfl)
     have p3:W.cell? ⟨b,o+3,none⟩=some (.slice va3 x.zG.length vc3):=(HBW.out.cell HL.out).trans (HCC.out 3 _ rfl)
     have lb:b<W.heap.size:=Nat.lt_of_lt_of_le HL.out HBW.out.size
     rw[HKK.out] at p0
     refine hK1 _ _ ?_
     go_wp2_with fail
     refine(c_l06HasA _ _).mono ?_;rintro e w1 ⟨rfl,hb⟩;rw[QA.out]
     have HBW1:=hide (yH HBW.out HBW.out.size hb);clear hb p0 p1 p2 p3 lb
     have p0:w1.cell? ⟨b,o,none⟩=some (.int .i64 x.zC):=(HBW1.out.cell HL.out).trans (HCC.out 0 _ rfl)
     have p1:w1.cell? ⟨b,o+1,none⟩=some (.int .i64 x.fA):=(HBW1.out.cell HL.out).trans (HCC.out 1 _ rfl)
     have p2:w1.cell? ⟨b,o+2,none⟩=some (.int .i64 x.fB):=(HBW1.out.cell HL.out).trans (HCC.out 2 _ rfl)
     have p3:w1.cell? ⟨b,o+3,none⟩=some (.slice va3 x.zG.length vc3):=(HBW1.out.cell HL.out).trans (HCC.out 3 _ rfl)
     have lb:b<w1.heap.size:=Nat.lt_of_lt_of_le HL.out HBW1.out.size
     rw[HKK.out] at p0
     go_wp2_with fail
     refine(c_sDec x.fA _ GA.out).mono ?_;rintro e w2 ⟨rfl,hb⟩
     have HBW2:=hide (yH HBW1.out HBW1.out.size hb);clear hb p0 p1 p2 p3 lb
     have p0:w2.cell? ⟨b,o,none⟩=some (.int .i64 x.zC):=(HBW2.out.cell HL.out).trans (HCC.out 0 _ rfl)
     have p1:w2.cell? ⟨b,o+1,none⟩=some (.int .i64 x.fA):=(HBW2.out.cell HL.out).trans (HCC.out 1 _ rfl)
     have p2:w2.cell? ⟨b,o+2,none⟩=some (.int .i64 x.fB):=(HBW2.out.cell HL.out).trans (HCC.out 2 _ rfl)
     have p3:w2.cell? ⟨b,o+3,none⟩=some (.slice va3 x.zG.length vc3):=(HBW2.out.cell HL.out).trans (HCC.out 3 _ rfl)
     have lb:b<w2.heap.size:=Nat.lt_of_lt_of_le HL.out HBW2.out.size
     rw[HKK.out] at p0
     have y2:((⟨#[32]⟩:ByteArray)++decS x.fA).size≤22:=by rw[ByteArray.size_append,h32];omega
     have z2:(nm++((⟨#[32]⟩:ByteArray)++decS x.fA)).size≤28:=by rw[ByteArray.size_append];omega
     go_wp2_with fail
     refine(c_sDec x.fB _ GB.out).mono ?_;rintro e w3 ⟨rfl,hb⟩
     have HBW3:=hide (yH HBW2.out HBW2.out.size hb);clear hb p0 p1 p2 p3 lb
     have p0:w3.cell? ⟨b,o,none⟩=some (.int .i64 x.zC):=(HBW3.out.cell HL.out).trans (HCC.out 0 _ rfl)
     have p1:w3.cell? ⟨b,o+1,none⟩=some (.int .i64 x.fA):=(HBW3.out.cell HL.out).trans (HCC.out 1 _ rfl)
     have p2:w3.cell? ⟨b,o+2,none⟩=some (.int .i64 x.fB):=(HBW3.out.cell HL.out).trans (HCC.out 2 _ rfl)
     have p3:w3.cell? ⟨b,o+3,none⟩=some (.slice va3 x.zG.length vc3):=(HBW3.out.cell HL.out).trans (HCC.out 3 _ rfl)
     have lb:b<w3.heap.size:=Nat.lt_of_lt_of_le HL.out HBW3.out.size
     rw[HKK.out] at p0
     have y3:((⟨#[32]⟩:ByteArray)++decS x.fB).size≤22:=by rw[ByteArray.size_append,h32];omega
     have z3:((nm++((⟨#[32]⟩:ByteArray)++decS x.fA))++((⟨#[32]⟩:ByteArray)++decS x.fB)).size≤50:=by rw[ByteArray.size_append];omega
     go_wp2_with fail
     refine(HNU.out _ (Rd.below R3.out (yH HB0.out HB0.out.size HBW3.out))).mono ?_;rintro e w4 ⟨rfl,hb⟩
     have HBW4:=hide (yH HBW3.out HBW3.out.size hb);clear hb p0 p1 p2 p3 lb
     have p0:w4.cell? ⟨b,o,none⟩=some (.int .i64 x.zC):=(HBW4.out.cell HL.out).trans (HCC.out 0 _ rfl)
     have p1:w4.cell? ⟨b,o+1,none⟩=some (.int .i64 x.fA):=(HBW4.out.cell HL.out).trans (HCC.out 1 _ rfl)
     have p2:w4.cell? ⟨b,o+2,none⟩=some (.int .i64 x.fB):=(HBW4.out.cell HL.out).trans (HCC.out 2 _ rfl)
     have p3:w4.cell? ⟨b,o+3,none⟩=some (.slice va3 x.zG.length vc3):=(HBW4.out.cell HL.out).trans (HCC.out 3 _ rfl)
     have lb:b<w4.heap.size:=Nat.lt_of_lt_of_le HL.out HBW4.out.size
     rw[HKK.out] at p0
     have y4:((⟨#[32,111,102,32]⟩:ByteArray)++nt).size≤604:=by rw[ByteArray.size_append,h4];omega
     have HE:=hide (show (((nm++((⟨#[32]⟩:ByteArray)++decS x.fA))++((⟨#[32]⟩:ByteArray)++decS x.fB))++((⟨#[32,111,102,32]⟩:ByteArray)++nt))=mkS (nodeL x) by
      apply str_is;unfold nodeL ofL
      rw[if_pos A0.out,if_pos HBE.out,if_neg F0.out,blanks_cons F0.out,←HNT.out,←HNM.out]
      simp[dat_app,dat_dec,dat_mk,blankL])
     go_wp2
     go_ret
     exact⟨ret_str (by rw[←HE.out]),yH HB0.out HB0.out.size HBW4.out⟩
    ·
     have qc:(kk == 17)=false:=yO c0
     have HBE:=hide (show (kndF x.zC).hasB=false by rw[HB.out,HKK.out];exact decide_eq_false c0)
     clear c0
     have p0:W.cell? ⟨b,o,none⟩=some (.int .i64 x.zC):=(HBW.out.cell HL.out).trans (HCC.out 0 _ rfl)
     have p1:W.cell? ⟨b,o+1,none⟩=some (.int .i64 x.fA):=(HBW.out.cell HL.out).trans (HCC.out 1 _ rfl)
     have p2:W.cell? ⟨b,o+2,none⟩=some (.int .i64 x.fB):=(HBW.out.cell HL.out).trans (HCC.out 2 _ rfl)
     have p3:W.cell? ⟨b,o+3,none⟩=some (.slice va3 x.zG.length vc3):=(HBW.out.cell HL.out).trans (HCC.out 3 _ rfl)
     have lb:b<W.heap.size:=Nat.lt_of_lt_of_le HL.out HBW.out.size
     rw[HKK.out] at p0
     refine hK1 _ _ ?_
     go_wp2_with fail
     refine(c_l06HasA _ _).mono ?_;rintro e w1 ⟨rfl,hb⟩;rw[QA.out]
     have HBW1:=hide (yH HBW.out HBW.out.size hb);clear hb p0 p1 p2 p3 lb
     have p0:w1.cell? ⟨b,o,none⟩=some (.int .i64 x.zC):=(HBW1.out.cell HL.out).trans (HCC.out 0 _ rfl)
     have p1:w1.cell? ⟨b,o+1,none⟩=some (.int .i64 x.fA):=(HBW1.out.cell HL.out).trans (HCC.out 1 _ rfl)
     have p2:w1.cell? ⟨b,o+2,none⟩=some (.int .i64 x.fB):=(HBW1.out.cell HL.out).trans (HCC.out 2 _ rfl)
     have p3:w1.cell? ⟨b,o+3,none⟩=some (.slice va3 x.zG.length vc3):=(HBW1.out.cell HL.out).trans (HCC.out 3 _ rfl)
     have lb:b<w1.heap.size:=Nat.lt_of_lt_of_le HL.out HBW1.out.size
     rw[HKK.out] at p0
     go_wp2_with fail
     refine(c_sDec x.fA _ GA.out).mono ?_;rintro e w2 ⟨rfl,hb⟩
     have HBW2:=hide (yH HBW1.out HBW1.out.size hb);clear hb p0 p1 p2 p3 lb
     have p0:w2.cell? ⟨b,o,none⟩=some (.int .i64 x.zC):=(HBW2.out.cell HL.out).trans (HCC.out 0 _ rfl)
     have p1:w2.cell? ⟨b,o+1,none⟩=some (.int .i64 x.fA):=(HBW2.out.cell HL.out).trans (HCC.out 1 _ rfl)
     have p2:w2.cell? ⟨b,o+2,none⟩=some (.int .i64 x.fB):=(HBW2.out.cell HL.out).trans (HCC.out 2 _ rfl)
     have p3:w2.cell? ⟨b,o+3,none⟩=some (.slice va3 x.zG.length vc3):=(HBW2.out.cell HL.out).trans (HCC.out 3 _ rfl)
     have lb:b<w2.heap.size:=Nat.lt_of_lt_of_le HL.out HBW2.out.size
     rw[HKK.out] at p0
     have y2:((⟨#[32]⟩:ByteArray)++decS x.fA).size≤22:=by rw[ByteArray.size_append,h32];omega
     have z2:(nm++((⟨#[32]⟩:ByteArray)++decS x.fA)).size≤28:=by rw[ByteArray.size_append];omega
     go_wp2_with fail
     refine(HNU.out _ (Rd.below R3.out (yH HB0.out HB0.out.size HBW2.out))).mono ?_;rintro e w3 ⟨rfl,hb⟩
     have HBW3:=hide (yH HBW2.out HBW2.out.size hb);clear hb p0 p1 p2 p3 lb
     have p0:w3.cell? ⟨b,o,none⟩=some (.int .i64 x.zC):=(HBW3.out.cell HL.out).trans (HCC.out 0 _ rfl)
     have p1:w3.cell? ⟨b,o+1,none⟩=some (.int .i64 x.fA):=(HBW3.out.cell HL.out).trans (HCC.out 1 _ rfl)
     have p2:w3.cell? ⟨b,o+2,none⟩=some (.int .i64 x.fB):=(HBW3.out.cell HL.out).trans (HCC.out 2 _ rfl)
     have p3:w3.cell? ⟨b,o+3,none⟩=some (.slice va3 x.zG.length vc3):=(HBW3.out.cell HL.out).trans (HCC.out 3 _ rfl)
     have lb:b<w3.heap.size:=Nat.lt_of_lt_of_le HL.out HBW3.out.size
     rw[HKK.out] at p0
     have y3:((⟨#[32,111,102,32]⟩:ByteArray)++nt).size≤604:=by rw[ByteArray.size_append,h4];omega
     have HE:=hide (show ((nm++((⟨#[32]⟩:ByteArray)++decS x.fA))++((⟨#[32,111,102,32]⟩:ByteArray)++nt))=mkS (nodeL x) by
      apply str_is;unfold nodeL ofL
      rw[if_pos A0.out,if_neg (show ¬ (kndF x.zC).hasB=true by rw[HBE.out];simp),if_neg F0.out,blanks_cons F0.out,←HNT.out,←HNM.out]
      simp[dat_app,dat_dec,dat_mk,blankL])
     go_wp2
     go_ret
     exact⟨ret_str (by rw[←HE.out]),yH HB0.out HB0.out.size HBW3.out⟩
   ·
    have QA:=hide (show decide (kk ∈ ([1,2,5,6,10,11,12,13,14,17]:List Int))=false by rw[←HKK.out,HA.out];exact decide_eq_false a0)
    have A0:=hide a0;clear a0
    by_cases c0:kk=17
    ·
     have qc:(kk == 17)=true:=yP c0
     have HBE:=hide (show (kndF x.zC).hasB=true by rw[HB.out,HKK.out];exact decide_eq_true c0)
     clear c0
     have p0:W.cell? ⟨b,o,none⟩=some (.int .i64 x.zC):=(HBW.out.cell HL.out).trans (HCC.out 0 _ rfl)
     have p1:W.cell? ⟨b,o+1,none⟩=some (.int .i64 x.fA):=(HBW.out.cell HL.out).trans (HCC.out 1 _ rfl)
     have p2:W.cell? ⟨b,o+2,none⟩=some (.int .i64 x.fB):=(HBW.out.cell HL.out).trans (HCC.out 2 _ rfl)
     have p3:W.cell? ⟨b,o+3,none⟩=some (.slice va3 x.zG.length vc3):=(HBW.out.cell HL.out).trans (HCC.out 3 _ rfl)
     have lb:b<W.heap.size:=Nat.lt_of_lt_of_le HL.out HBW.out.size
     rw[HKK.out] at p0
     refine hK1 _ _ ?_
     go_wp2_with fail
     refine(c_l06HasA _ _).mono ?_;rintro e w1 ⟨rfl,hb⟩;rw[QA.out]
     have HBW1:=hide (yH HBW.out HBW.out.size hb);clear hb p0 p1 p2 p3 lb
     have p0:w1.cell? ⟨b,o,none⟩=some (.int .i64 x.zC):=(HBW1.out.cell HL.out).trans (HCC.out 0 _ rfl)
     have p1:w1.cell? ⟨b,o+1,none⟩=some (.int .i64 x.fA):=(HBW1.out.cell HL.out).trans (HCC.out 1 _ rfl)
     have p2:w1.cell? ⟨b,o+2,none⟩=some (.int .i64 x.fB):=(HBW1.out.cell HL.out).trans (HCC.out 2 _ rfl)
     have p3:w1.cell? ⟨b,o+3,none⟩=some (.slice va3 x.zG.length vc3):=(HBW1.out.cell HL.out).trans (HCC.out 3 _ rfl)
     have lb:b<w1.heap.size:=Nat.lt_of_lt_of_le HL.out HBW1.out.size
     rw[HKK.out] at p0
     go_wp2_with fail
     refine(c_sDec x.fB _ GB.out).mono ?_;rintro e w2 ⟨rfl,hb⟩
     have HBW2:=hide (yH HBW1.out HBW1.out.size hb);clear hb p0 p1 p2 p3 lb
     have p0:w2.cell? ⟨b,o,none⟩=some (.int .i64 x.zC):=(HBW2.out.cell HL.out).trans (HCC.out 0 _ rfl)
     have p1:w2.cell? ⟨b,o+1,none⟩=some (.int .i64 x.fA):=(HBW2.out.cell HL.out).trans (HCC.out 1 _ rfl)
     have p2:w2.cell? ⟨b,o+2,none⟩=some (.int .i64 x.fB):=(HBW2.out.cell HL.out).trans (HCC.out 2 _ rfl)
     have p3:w2.cell? ⟨b,o+3,none⟩=some (.slice va3 x.zG.length vc3):=(HBW2.out.cell HL.out).trans (HCC.out 3 _ rfl)
     have lb:b<w2.heap.size:=Nat.lt_of_lt_of_le HL.out HBW2.out.size
     rw[HKK.out] at p0
     have y2:((⟨#[32]⟩:ByteArray)++decS x.fB).size≤22:=by rw[ByteArray.size_append,h32];omega
     have z2:(nm++((⟨#[32]⟩:ByteArray)++decS x.fB)).size≤28:=by rw[ByteArray.size_append];omega
     go_wp2_with fail
     refine(HNU.out _ (Rd.below R3.out (yH HB0.out HB0.out.size HBW2.out))).mono ?_;rintro e w3 ⟨rfl,hb⟩
     have HBW3:=hide (yH HBW2.out HBW2.out.size hb);clear hb p0 p1 p2 p3 lb
     have p0:w3.cell? ⟨b,o,none⟩=some (.int .i64 x.zC):=(HBW3.out.cell HL.out).trans (HCC.out 0 _ rfl)
     have p1:w3.cell? ⟨b,o+1,none⟩=some (.int .i64 x.fA):=(HBW3.out.cell HL.out).trans (HCC.out 1 _ rfl)
     have p2:w3.cell? ⟨b,o+2,none⟩=some (.int .i64 x.fB):=(HBW3.out.cell HL.out).trans (HCC.out 2 _ rfl)
     have p3:w3.cell? ⟨b,o+3,none⟩=some (.slice va3 x.zG.length vc3):=(HBW3.out.cell HL.out).trans (HCC.out 3 _ rfl)
     have lb:b<w3.heap.size:=Nat.lt_of_lt_of_le HL.out HBW3.out.size
     rw[HKK.out] at p0
     have y3:((⟨#[32,111,102,32]⟩:ByteArray)++nt).size≤604:=by rw[ByteArray.size_append,h4];omega
     have HE:=hide (show ((nm++((⟨#[32]⟩:ByteArray)++decS x.fB))++((⟨#[32,111,102,32]⟩:ByteArray)++nt))=mkS (nodeL x) by
      apply str_is;unfold nodeL ofL
      rw[if_neg (show ¬ (kndF x.zC).low≤(kndF x.zC).high by have:=A0.out;omega),if_pos HBE.out,if_neg F0.out,blanks_cons F0.out,←HNT.out,←HNM.out]
      simp[dat_app,dat_dec,dat_mk,blankL])
     go_wp2
     go_ret
     exact⟨ret_str (by rw[←HE.out]),yH HB0.out HB0.out.size HBW3.out⟩
    ·
     have qc:(kk == 17)=false:=yO c0
     have HBE:=hide (show (kndF x.zC).hasB=false by rw[HB.out,HKK.out];exact decide_eq_false c0)
     clear c0
     have p0:W.cell? ⟨b,o,none⟩=some (.int .i64 x.zC):=(HBW.out.cell HL.out).trans (HCC.out 0 _ rfl)
     have p1:W.cell? ⟨b,o+1,none⟩=some (.int .i64 x.fA):=(HBW.out.cell HL.out).trans (HCC.out 1 _ rfl)
     have p2:W.cell? ⟨b,o+2,none⟩=some (.int .i64 x.fB):=(HBW.out.cell HL.out).trans (HCC.out 2 _ rfl)
     have p3:W.cell? ⟨b,o+3,none⟩=some (.slice va3 x.zG.length vc3):=(HBW.out.cell HL.out).trans (HCC.out 3 _ rfl)
     have lb:b<W.heap.size:=Nat.lt_of_lt_of_le HL.out HBW.out.size
     rw[HKK.out] at p0
     refine hK1 _ _ ?_
     go_wp2_with fail
     refine(c_l06HasA _ _).mono ?_;rintro e w1 ⟨rfl,hb⟩;rw[QA.out]
     have HBW1:=hide (yH HBW.out HBW.out.size hb);clear hb p0 p1 p2 p3 lb
     have p0:w1.cell? ⟨b,o,none⟩=some (.int .i64 x.zC):=(HBW1.out.cell HL.out).trans (HCC.out 0 _ rfl)
     have p1:w1.cell? ⟨b,o+1,none⟩=some (.int .i64 x.fA):=(HBW1.out.cell HL.out).trans (HCC.out 1 _ rfl)
     have p2:w1.cell? ⟨b,o+2,none⟩=some (.int .i64 x.fB):=(HBW1.out.cell HL.out).trans (HCC.out 2 _ rfl)
     have p3:w1.cell? ⟨b,o+3,none⟩=some (.slice va3 x.zG.length vc3):=(HBW1.out.cell HL.out).trans (HCC.out 3 _ rfl)
     have lb:b<w1.heap.size:=Nat.lt_of_lt_of_le HL.out HBW1.out.size
     rw[HKK.out] at p0
     go_wp2_with fail
     refine(HNU.out _ (Rd.below R3.out (yH HB0.out HB0.out.size HBW1.out))).mono ?_;rintro e w2 ⟨rfl,hb⟩
     have HBW2:=hide (yH HBW1.out HBW1.out.size hb);clear hb p0 p1 p2 p3 lb
     have p0:w2.cell? ⟨b,o,none⟩=some (.int .i64 x.zC):=(HBW2.out.cell HL.out).trans (HCC.out 0 _ rfl)
     have p1:w2.cell? ⟨b,o+1,none⟩=some (.int .i64 x.fA):=(HBW2.out.cell HL.out).trans (HCC.out 1 _ rfl)
     have p2:w2.cell? ⟨b,o+2,none⟩=some (.int .i64 x.fB):=(HBW2.out.cell HL.out).trans (HCC.out 2 _ rfl)
     have p3:w2.cell? ⟨b,o+3,none⟩=some (.slice va3 x.zG.length vc3):=(HBW2.out.cell HL.out).trans (HCC.out 3 _ rfl)
     have lb:b<w2.heap.size:=Nat.lt_of_lt_of_le HL.out HBW2.out.size
     rw[HKK.out] at p0
     have y2:((⟨#[32,111,102,32]⟩:ByteArray)++nt).size≤604:=by rw[ByteArray.size_append,h4];omega
     have HE:=hide (show (nm++((⟨#[32,111,102,32]⟩:ByteArray)++nt))=mkS (nodeL x) by
      apply str_is;unfold nodeL ofL
      rw[if_neg (show ¬ (kndF x.zC).low≤(kndF x.zC).high by have:=A0.out;omega),if_neg (show ¬ (kndF x.zC).hasB=true by rw[HBE.out];simp),if_neg F0.out,blanks_cons F0.out,←HNT.out,←HNM.out]
      simp[dat_app,dat_dec,dat_mk,blankL])
     go_wp2
     go_ret
     exact⟨ret_str (by rw[←HE.out]),yH HB0.out HB0.out.size HBW2.out⟩
 go_region_with (go_at_call 134;refine(c_l06Names _).mono ?_;rintro e w' ⟨rfl,rfl⟩)
 all_goals exact REST _ _ ((Below.refl _ _).alloc (Nat.le_refl _) _).drew
end Go.Proofs.YtbgedljbgkcpiaaGreatDoor
