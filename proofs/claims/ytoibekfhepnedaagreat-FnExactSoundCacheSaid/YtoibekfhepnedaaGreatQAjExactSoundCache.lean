/- Contracts: what is valid, by the program: mixers. Contracts: what is valid, by the program: kinds, nodes. -/
import Derived.Test.YtoibekfhepnedaaGreatQAiExactSoundCache
import Derived.Test.YtoibekfhepnedaaGreatQAcExactSoundCache
import Derived.Maps.OwnOps
import Derived.Maps.Views
import Derived.Deep.RegionWith
set_option linter.unusedVariables false
set_option linter.unusedSimpArgs false
set_option maxHeartbeats 2000000
set_option maxRecDepth 20000
section
namespace Go.Proofs.YtoibekfhepnedaaGreat
open Go.RowKit Go.WideMaps Go.Maps
theorem lookup_bool {P:Program} {k e t:TypeId} {w:World} {b n:Nat} {D:DataW Unit} (h:w.ownsMap P k (plainElem (H:=Unit) P e) b n D) (K:Keyed P k) (ht:P.underlying t=some (.map k e)) (he:P.underlying e=some .bool) (hz:(zeroValue e).run P w= .ok (.bool false) w)
  {key:Value} {kl:Lit} (hkey:keyOf P k key=some kl): ∃ c,(Instr.lookup t (.map (some b)) key false).run P w= .ok (.bool c) w∧D.atKey kl (.lit (.bool false))= .lit (.bool c):=by
 obtain⟨v,ps,hrun,hv⟩:=h.lookup K ht hz (plainElem_bool he false) hkey
 unfold plainElem at hv
 rw[he] at hv
 cases v<;>simp at hv
 exact⟨_,hrun,hv.1.symm⟩
theorem key_s:Keyed Tryz.prog 9:=string_keyed Tryz.underlying9
theorem grown_of_below {w w':World} (h:Below w.heap.size w w') (row:Option Nat):w.grownBy w' row:=⟨h.os,h.tape,h.output,h.size,fun k hk _=>h.block k hk⟩
theorem lit_s_ne {s t:ByteArray} (h:s≠t):(Lit.string s.data.toList)≠Lit.string t.data.toList:=by
 intro e
 injection e with e
 exact h (ByteArray.ext (Array.toList_inj.1 e))
/-- The names of the first strips. -/
def Nms (xs:List GStrip) (k:Nat) (D:DataW Unit):Prop:=IsMap D∧ ∀ s:ByteArray,D.atKey (.string s.data.toList) (.lit (.bool false))= .lit (.bool (tf (∃ j y,j<k∧xs[j]?=some y∧y.zU=s)))
theorem Nms.zero (xs:List GStrip):Nms xs 0 (.map []):=by
 refine⟨isMap_empty,fun s=>?_⟩
 rw[yW (by rintro⟨j,y,h,_⟩;omega)]
 rfl
theorem Nms.step {xs:List GStrip} {k:Nat} {D:DataW Unit} {x:GStrip} (h:Nms xs k D) (hx:xs[k]?=some x) (hk:WideAt.IsKeyLit (.string x.zU.data.toList)):Nms xs (k+1) (D.put (.string x.zU.data.toList) (.lit (.bool true))):=by
 refine⟨h.1.put _ _,fun s=>?_⟩
 by_cases e:s=x.zU
 ·subst e
  rw[atKey_put_same h.1 hk,yX ⟨k,x,by omega,hx,rfl⟩]
 ·rw[atKey_put_other (lit_s_ne e),h.2 s]
  refine congrArg (fun b=>DataW.lit (Lit.bool b)) ?_
  apply tf_iff
  constructor
  ·rintro⟨j,y,h1,h2,h3⟩;exact⟨j,y,by omega,h2,h3⟩
  ·rintro⟨j,y,h1,h2,h3⟩
   by_cases ej:j=k
   ·subst ej
    rw[hx] at h2
    injection h2 with h2
    subst h2
    exact absurd h3.symm e
   ·exact⟨j,y,by omega,h2,h3⟩
theorem c_isMixer (x:GMixer) (cs:List Value) (w:World) (hn:x.zC.length≤1048576) (h:T.rds w x.fs cs):Calls Tryz.prog 104 #[.agg cs.toArray] w fun e w'=>e= .returned (.bool (tf (MixerOk x)))∧Below w.heap.size w w':=by
 obtain⟨v0,rfl,h0⟩:=GMixer.yN h
 clear h
 have R0:=hide h0;obtain⟨va0,vc0,rfl,vl0,vm0,vx0⟩:=T.yM h0
 have HX0:=hide vx0;clear vx0 h0
 have HB0:=hide (show Below w.heap.size w (w.alloc (.cells #[(.slice va0 x.zC.length vc0)] 30)) from(Below.refl _ _).alloc (Nat.le_refl _) _)
 have HK0:=hide (Bk.born w 30 #[(.slice va0 x.zC.length vc0)])
 have hmm:= @run_makeMap Tryz.prog
 have HB1:=hide (show Below w.heap.size w ((w.alloc (.cells #[(.slice va0 x.zC.length vc0)] 30)).alloc (.map #[] 0)) from HB0.out.alloc (by simp) _)
 have HK1:=hide (HK0.out.alloc (.map #[] 0))
 have e1:(w.alloc (.cells #[(.slice va0 x.zC.length vc0)] 30)).heap.size=w.heap.size+1:=by simp
 have hm1:((w.alloc (.cells #[(.slice va0 x.zC.length vc0)] 30)).alloc (.map #[] 0)).ownsMap Tryz.prog 9 (plainElem (H:=Unit) Tryz.prog 4) (w.heap.size+1) 0 (.map []):=by have:=World.ownsMap_made (w.alloc (.cells #[(.slice va0 x.zC.length vc0)] 30)) Tryz.prog 9 (plainElem (H:=Unit) Tryz.prog 4);rwa [e1] at this
 have HM1:=hide hm1;clear hm1 e1
 go_enter Tryz.func104,Tryz.ntmps104
 go_wp2_with (go_at_call 102;refine(c_sizeStrip _ _ _ _ (by omega)).mono ?_;rintro e w' ⟨rfl,rfl⟩)
 go_loopw [14] (fun i wr=> ∃ (k:Nat) (D:DataW Unit),k≤x.zC.length∧i= .int .i64 k∧wr.ownsMap Tryz.prog 9 (plainElem (H:=Unit) Tryz.prog 4) (w.heap.size+1) k D∧Nms x.zC k D∧Upto x.zC (fun i x_1=>StripOk x_1 (i:Int) (x.zC.length:Int)∧ ∀ j y,j<i→x.zC[j]?=some y→y.zU≠x_1.zU) k∧Bk wr w.heap.size 30 #[(.slice va0 x.zC.length vc0)]∧Below w.heap.size w wr) (fun i _=>x.zC.length - (intOf i).toNat)
 case atStart=>exact⟨0,_,Nat.zero_le _,rfl,HM1.out,Nms.zero _,Upto.zero,HK1.out,HB1.out⟩
 case round=>
  obtain⟨k,D,hk,rfl,hm,hnm,hs,hbk,hbw⟩:=hrel
  have HM:=hide hm;have HN:=hide hnm;have HS:=hide hs;have HK:=hide hbk;have HB:=hide hbw;clear hm hnm hs hbk hbw
  have ka:=HK.out.cell;have la:=HK.out.lt;have hsz:=HB.out.size;have lm:=HM.out.lt
  by_cases hlt:k<x.zC.length
  rotate_left
  ·have hall:=hide (HS.out.all (by omega));clear HS
   go_wp2_with (go_at_call 89;refine(c_within _ _ _ _).mono ?_;rintro e w' ⟨rfl,rfl⟩)
   go_ret
   exact⟨yH (by
   by_cases h:1≤x.zC.length∧x.zC.length≤8
   ·rw[yX ⟨h.1,h.2,hall.out⟩];exact yZ.2 (by omega)
   ·rw[yW fun hh=>h ⟨hh.some_,hh.few⟩];exact inB_false.2 (by omega)),HB.out⟩
  have hgk:=List.getElem?_eq_getElem hlt
  obtain⟨b1,off,cs1,hA,hb1,hcs,hcell⟩:=HX0.out k x.zC[k] hgk
  subst hA
  generalize x.zC[k]=y at *
  have HG:=hide hgk;clear hgk
  obtain⟨u2,rfl,hRY2⟩:=GStrip.yN (show T.rds _ _ _ by simpa only[GStrip.t,T.rd] using hcs)
  have d0:=(HB.out.cell hb1).trans (hcell 0 (.string y.zU) rfl)
  have d1:=(HB.out.cell hb1).trans (hcell 1 (.int .i64 y.zI) rfl)
  have d2:=(HB.out.cell hb1).trans (hcell 2 (u2) rfl)
  rw[show off+(k * 3+0)=off+k * 3 by omega] at d0
  rw[show off+(k * 3+1)=off+k * 3+1 by omega] at d1
  rw[show off+(k * 3+2)=off+k * 3+2 by omega] at d2
  have RY2:=hide (T.yE hRY2 HB.out);clear hRY2
  clear hcs hcell
  obtain⟨ua2,ul2,uc2,rfl⟩:=T.yT RY2.out
  have hq1:b1<wr.heap.size:=Nat.lt_of_lt_of_le hb1 HB.out.size
  have HW:=hide (show Below wr.heap.size wr (wr.alloc (.cells #[.string y.zU,.int .i64 y.zI,.slice ua2 ul2 uc2] 101)) from(Below.refl _ _).alloc (Nat.le_refl _) _)
  have HBW:=hide (yI HB.out HB.out.size HW.out)
  by_cases q1:NameOk y.zU
  rotate_left
  ·have a1:=yW q1;have Q1:=hide q1;clear q1
   go_wp2_with (go_at_call 160;refine(c_IsName _ _).mono ?_;rintro e w' ⟨rfl,rfl⟩;rw[a1])
   go_ret
   exact⟨yH (yW fun h=>Q1.out (h.each k y HG.out).1.name).symm,HBW.out⟩
  have a1:=yX q1;have Q1:=hide q1;clear q1
  have hz:(zeroValue 4).run Tryz.prog (wr.alloc (.cells #[.string y.zU,.int .i64 y.zI,.slice ua2 ul2 uc2] 101))= .ok (.bool false) (wr.alloc (.cells #[.string y.zU,.int .i64 y.zI,.slice ua2 ul2 uc2] 101)):=by kernel_rfl
  have hsn:y.zU.size≤maxLen:=by have:=Q1.out.few;unfold maxLen;omega
  have hkey:=keyOf_string_mk Tryz.underlying9 hsn
  obtain⟨c,hrun,hat⟩:=lookup_bool (HM.out.alloc (.cells #[.string y.zU,.int .i64 y.zI,.slice ua2 ul2 uc2] 101)) key_s Tryz.underlying207 Tryz.underlying4 hz hkey
  rw[HN.out.2 y.zU] at hat
  injection hat with hat;injection hat with hat
  have HKEY:=hide hkey;clear hkey hz hsn
  by_cases q2: ∃ j z,j<k∧x.zC[j]?=some z∧z.zU=y.zU
  ·rw[yX q2] at hat;subst hat
   have Q2:=hide q2;clear q2
   go_wp2_with (go_at_call 160;refine(c_IsName _ _).mono ?_;rintro e w' ⟨rfl,rfl⟩;rw[a1])
   go_ret
   exact⟨yH (yW fun h=>by obtain⟨j,z,h1,h2,h3⟩:=Q2.out;exact(h.each k y HG.out).2 j z h1 h2 h3).symm,HBW.out⟩
  rw[yW q2] at hat;subst hat;have Q2:=hide q2;clear q2
  by_cases q3:inB y.zI 0 32=true
  rotate_left
  ·have q3':inB y.zI 0 32=false:=by simpa using q3
   go_wp2_with (first|(go_at_call 160;refine(c_IsName _ _).mono ?_;rintro e w' ⟨rfl,rfl⟩;rw[a1])|(go_at_call 89;refine(c_within _ _ _ _).mono ?_;rintro e w' ⟨rfl,rfl⟩))
   go_ret
   exact⟨yH (yW fun h=>q3 (h.each k y HG.out).1.latency).symm,HBW.out⟩
  go_wp2_with (first|(go_at_call 160;refine(c_IsName _ _).mono ?_;rintro e w' ⟨rfl,rfl⟩;rw[a1])|(go_at_call 89;refine(c_within _ _ _ _).mono ?_;rintro e w' ⟨rfl,rfl⟩))
  refine(c_areSends _ y.zJ (k:Int) (x.zC.length:Int) _ (by omega) (by omega) (by omega) (by omega) (T.yE RY2.out HW.out)).mono ?_;rintro e w3 ⟨rfl,hb3⟩
  have HM3:=hide ((HM.out.alloc (.cells #[.string y.zU,.int .i64 y.zI,.slice ua2 ul2 uc2] 101)).kept (grown_of_below hb3 none) (by simp))
  have HK3:=hide ((HK.out.alloc (.cells #[.string y.zU,.int .i64 y.zI,.slice ua2 ul2 uc2] 101)).below hb3 (by simp;omega))
  have HN3:=hide ((Bk.born wr 101 #[.string y.zU,.int .i64 y.zI,.slice ua2 ul2 uc2]).below hb3 (by simp))
  have HB3:=hide (yI HBW.out HBW.out.size hb3);clear hb3 ka la lm hsz hrun
  have ka:=HK3.out.cell;have kn:=HN3.out.cell;have hsz:=HB3.out.size
  by_cases q4:SendsOk y.zJ (k:Int) (x.zC.length:Int)
  rotate_left
  ·rw[yW q4];have Q4:=hide q4;clear q4
   go_wp2
   go_ret
   exact⟨yH (yW fun h=>Q4.out (h.each k y HG.out).1.sends).symm,HB3.out⟩
  rw[yX q4];have Q4:=hide q4;have Q3:=hide q3;clear q4 q3
  go_wp2_with (at_mapUpdate;refine wpList_mapUpdate_own _ rfl _ _ _ _ rfl _ _ key_s Tryz.underlying207 _ _ _ _ rfl HM3.out (by unfold maxLen;omega) _ _ _ rfl rfl HKEY.out _ [] (plainElem_bool Tryz.underlying4 true) ?_;intro w5 hown5 hg5;have HM5:=hide hown5;have HK5:=hide (HK3.out.grown hg5 (by simp));have HB5:=hide (HB3.out.grown hg5 HB3.out.size (fun j hj=>by cases hj;omega));clear hown5 hg5)
  go_roundw
  case rel=>exact⟨k+1,_,by omega,by go_num,HM5.out,HN.out.step HG.out trivial,HS.out.step HG.out ⟨⟨Q1.out,Q3.out,Q4.out⟩,fun j z h1 h2 h3=>Q2.out ⟨j,z,h1,h2,h3⟩⟩,HK5.out,HB5.out⟩
  case measure=>simp[intOf];omega
end Go.Proofs.YtoibekfhepnedaaGreat
end
section
namespace Go.Proofs.YtoibekfhepnedaaGreat
open Go.RowKit
def kndNames:List (List UInt8):= [[105,110,112,117,116],[99,111,110,115,116],[97,100,100],[115,117,98],[103,97,105,110],[100,101,108,97,121],[115,117,109],[100,105,102,102],[109,117,108],[115,104,105,102,116],[99,108,105,112],[112,104,97,115,101],[116,97,98,108,101],[110,111,105,115,101],[115,101,108,101,99,116],[104,111,108,100],[99,111,109,98]]
def kndName (i:Nat):ByteArray:=⟨(kndNames.getD i []).toArray⟩
def kndCells:Array Value:= #[.string ⟨#[105,110,112,117,116]⟩,.int .i64 0,.int .i64 0,.int .i64 3,.bool true,.bool false,.string ⟨#[99,111,110,115,116]⟩,.int .i64 0,.int .i64 (-2147483648),.int .i64 2147483647,.bool false,.bool false,.string ⟨#[97,100,100]⟩,.int .i64 2,.int .i64 1,.int .i64 0,.bool true,.bool false,.string ⟨#[115,117,98]⟩,.int .i64 2,.int .i64 1,.int .i64 0,.bool true,.bool false,.string ⟨#[103,97,105,110]⟩,.int .i64 1,.int .i64 (-2147483648),.int .i64 2147483647,.bool true,.bool false,.string ⟨#[100,101,108,97,121]⟩,.int .i64 1,.int .i64 1,.int .i64 16,.bool true,.bool false,.string ⟨#[115,117,109]⟩,.int .i64 1,.int .i64 1,.int .i64 0,.bool true,.bool false,.string ⟨#[100,105,102,102]⟩,.int .i64 1,.int .i64 1,.int .i64 0,.bool true,.bool false,.string ⟨#[109,117,108]⟩,.int .i64 2,.int .i64 1,.int .i64 0,.bool false,.bool false,.string ⟨#[115,104,105,102,116]⟩,.int .i64 1,.int .i64 0,.int .i64 31,.bool false,.bool false,.string ⟨#[99,108,105,112]⟩,.int .i64 1,.int .i64 0,.int .i64 2147483647,.bool false,.bool false,.string ⟨#[112,104,97,115,101]⟩,.int .i64 1,.int .i64 (-2147483648),.int .i64 2147483647,.bool false,.bool false,.string ⟨#[116,97,98,108,101]⟩,.int .i64 1,.int .i64 0,.int .i64 3,.bool false,.bool false,.string ⟨#[110,111,105,115,101]⟩,.int .i64 0,.int .i64 (-2147483648),.int .i64 2147483647,.bool false,.bool false,.string ⟨#[115,101,108,101,99,116]⟩,.int .i64 3,.int .i64 1,.int .i64 0,.bool false,.bool false,.string ⟨#[104,111,108,100]⟩,.int .i64 2,.int .i64 1,.int .i64 0,.bool false,.bool false,.string ⟨#[99,111,109,98]⟩,.int .i64 1,.int .i64 (-2147483648),.int .i64 2147483647,.bool true,.bool true]
theorem c_kinds (w:World):Calls Tryz.prog 279 #[] w fun e w'=>e= .returned (.slice (some ⟨w.heap.size,0,none⟩) 17 17)∧w'=w.alloc (.cells kndCells 306):=by
 go_enter Tryz.func279,Tryz.ntmps279
 go_wp2
 go_ret
 exact⟨rfl,rfl⟩
theorem kndCells_at {i:Nat} (h:i<17):kndCells[i * 6]?=some (.string (kndName i))∧kndCells[i * 6+1]?=some (.int .i64 (kndL.getD i ⟨0,0,0,false,false⟩).inputs)∧kndCells[i * 6+2]?=some (.int .i64 (kndL.getD i ⟨0,0,0,false,false⟩).low)∧kndCells[i * 6+3]?=some (.int .i64 (kndL.getD i ⟨0,0,0,false,false⟩).high)∧kndCells[i * 6+4]?=some (.bool (kndL.getD i ⟨0,0,0,false,false⟩).linear)∧kndCells[i * 6+5]?=some (.bool (kndL.getD i ⟨0,0,0,false,false⟩).hasB):=by
 have:i=0∨i=1∨i=2∨i=3∨i=4∨i=5∨i=6∨i=7∨i=8∨i=9∨i=10∨i=11∨i=12∨i=13∨i=14∨i=15∨i=16:=by omega
 rcases this with rfl|rfl|rfl|rfl|rfl|rfl|rfl|rfl|rfl|rfl|rfl|rfl|rfl|rfl|rfl|rfl|rfl
 all_goals exact⟨rfl,rfl,rfl,rfl,rfl,rfl⟩
theorem c_isKind (n:Int) (w:World):Calls Tryz.prog 278 #[.int .i64 n] w fun e w'=>e= .returned (.bool (inB n 1 17))∧w=w':=by
 go_enter Tryz.func278,Tryz.ntmps278
 go_wp2_with (go_at_call 89;refine(c_within _ _ _ _).mono ?_;rintro e w' ⟨rfl,rfl⟩)
 go_ret
 exact⟨rfl,rfl⟩
theorem c_hasA (s:ByteArray) (a lo hi:Int) (l hb:Bool) (w:World):Calls Tryz.prog 280 #[.agg #[.string s,.int .i64 a,.int .i64 lo,.int .i64 hi,.bool l,.bool hb]] w fun e w'=>e= .returned (.bool (decide (lo≤hi)))∧Below w.heap.size w w':=by
 have HB:=hide (show Below w.heap.size w (w.alloc (.cells #[.string s,.int .i64 a,.int .i64 lo,.int .i64 hi,.bool l,.bool hb] 306)) from(Below.refl _ _).alloc (Nat.le_refl _) _)
 go_enter Tryz.func280,Tryz.ntmps280
 go_wp2
 go_ret
 exact⟨rfl,HB.out⟩
end Go.Proofs.YtoibekfhepnedaaGreat
end
