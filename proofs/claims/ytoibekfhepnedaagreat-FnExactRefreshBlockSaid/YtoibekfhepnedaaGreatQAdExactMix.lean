/- Contracts: what is valid, by the program: mixers. Contracts: what is valid, by the program: kinds, nodes. Contracts: what is valid, by the program: nodes. -/
import Derived.Test.YtoibekfhepnedaaGreatQAcExactMix
import Derived.Maps.OwnOps
import Derived.Maps.Views
import Derived.Deep.RegionWith
set_option linter.unusedVariables false
set_option linter.unusedSimpArgs false
set_option maxHeartbeats 2000000
set_option maxRecDepth 20000
namespace Go.Proofs.YtoibekfhepnedaaGreat
section
open Go.RowKit Go.WideMaps Go.Maps
theorem lookup_bool {P:Program} {k e t:TypeId} {w:World} {b n:Nat} {D:DataW Unit} (h:w.ownsMap P k (plainElem (H:=Unit) P e) b n D) (K:Keyed P k) (ht:P.underlying t=some (.map k e)) (he:P.underlying e=some .bool) (hz:(zeroValue e).run P w= .ok (.bool false) w)
  {key:Value} {kl:Lit} (hkey:keyOf P k key=some kl): ∃ c,(Instr.lookup t (.map (some b)) key false).run P w= .ok (.bool c) w∧D.atKey kl (.lit (.bool false))= .lit (.bool c):=by
 obtain⟨v,ps,hrun,hv⟩:=h.lookup K ht hz (plainElem_bool he false) hkey;unfold plainElem at hv;rw[he] at hv
 cases v<;>simp at hv
 exact⟨_,hrun,hv.1.symm⟩
theorem key_s:Keyed Tryz.prog 9:=string_keyed Tryz.underlying9
theorem grown_of_below {w w':World} (h:Below w.heap.size w w') (row:Option Nat):w.grownBy w' row:=⟨h.os,h.tape,h.output,h.size,fun k hk _=>h.block k hk⟩
theorem lit_s_ne {s t:ByteArray} (h:s≠t):(Lit.string s.data.toList)≠Lit.string t.data.toList:=by
 intro e;injection e with e;exact h (ByteArray.ext (Array.toList_inj.1 e))
def Nms (xs:List xP) (k:Nat) (D:DataW Unit):Prop:=IsMap D∧ ∀ s:ByteArray,D.atKey (.string s.data.toList) (.lit (.bool false))= .lit (.bool (tf (∃ j y,j<k∧xs[j]?=some y∧y.yE=s)))
theorem Nms.zero (xs:List xP):Nms xs 0 (.map []):=by
 refine⟨isMap_empty,fun s=>?_⟩;rw[xH (by rintro⟨j,y,h,_⟩;omega)]
 rfl
theorem Nms.step {xs:List xP} {k:Nat} {D:DataW Unit} {x:xP} (h:Nms xs k D) (hx:xs[k]?=some x) (hk:WideAt.IsKeyLit (.string x.yE.data.toList)):Nms xs (k+1) (D.put (.string x.yE.data.toList) (.lit (.bool true))):=by
 refine⟨h.1.put _ _,fun s=>?_⟩;by_cases e:s=x.yE
 ·subst e
  rw[atKey_put_same h.1 hk,xI ⟨k,x,by omega,hx,rfl⟩]
 ·rw[atKey_put_other (lit_s_ne e),h.2 s]
  refine congrArg (fun b=>DataW.lit (Lit.bool b)) ?_
  apply tf_iff
  constructor
  ·rintro⟨j,y,h1,h2,h3⟩;exact⟨j,y,by omega,h2,h3⟩
  ·rintro⟨j,y,h1,h2,h3⟩
   by_cases ej:j=k
   ·subst ej
    rw[hx] at h2;injection h2 with h2;subst h2;exact absurd h3.symm e
   ·exact⟨j,y,by omega,h2,h3⟩
theorem c_isMixer (x:wG) (cs:List Value) (w:World) (hn:x.zD.length≤1048576) (h:T.rds w x.fs cs):Calls Tryz.prog 104 #[.agg cs.toArray] w fun e w'=>e= .returned (.bool (tf (uP x)))∧Below w.heap.size w w':=by
 obtain⟨v0,rfl,h0⟩:=wG.yV h;clear h;obtain⟨va0,vc0,rfl,vl0,vm0,R0,HX0⟩:=oG h0;clear h0;have HB0:=xN (show Below w.heap.size w (w.alloc (.cells #[(.slice va0 x.zD.length vc0)] 30)) from zR.alloc zJ _);have HK0:=xN (Bk.born w 30 #[(.slice va0 x.zD.length vc0)]);have hmm:= @run_makeMap Tryz.prog;have HB1:=xN (show Below w.heap.size w ((w.alloc (.cells #[(.slice va0 x.zD.length vc0)] 30)).alloc (.map #[] 0)) from HB0.out.alloc (by simp) _);have HK1:=xN (HK0.out.alloc (.map #[] 0));have e1:(w.alloc (.cells #[(.slice va0 x.zD.length vc0)] 30)).heap.size=w.heap.size+1:=by simp
 have hm1:((w.alloc (.cells #[(.slice va0 x.zD.length vc0)] 30)).alloc (.map #[] 0)).ownsMap Tryz.prog 9 (plainElem (H:=Unit) Tryz.prog 4) (w.heap.size+1) 0 (.map []):=by have:=World.ownsMap_made (w.alloc (.cells #[(.slice va0 x.zD.length vc0)] 30)) Tryz.prog 9 (plainElem (H:=Unit) Tryz.prog 4);rwa [e1] at this
 have HM1:=xN hm1;clear hm1 e1
 go_enter Tryz.func104,Tryz.ntmps104
 go_wp2_with (go_at_call 102;refine(uT _ _ _ _ zM).mono ?_;rintro e w' ⟨rfl,rfl⟩)
 go_loopw [14] (fun i wr=> ∃ (k:Nat) (D:DataW Unit),k≤x.zD.length∧i= .int .i64 k∧wr.ownsMap Tryz.prog 9 (plainElem (H:=Unit) Tryz.prog 4) (w.heap.size+1) k D∧Nms x.zD k D∧vP x.zD (fun i x_1=>StripOk x_1 (i:Int) (x.zD.length:Int)∧ ∀ j y,j<i→x.zD[j]?=some y→y.yE≠x_1.yE) k∧Bk wr w.heap.size 30 #[(.slice va0 x.zD.length vc0)]∧Below w.heap.size w wr) (fun i _=>x.zD.length - (intOf i).toNat)
 case atStart=>exact⟨0,_,Nat.zero_le _,rfl,HM1.out,Nms.zero _,vP.zero,HK1.out,HB1.out⟩
 case round=>
  obtain⟨k,D,hk,rfl,hm,hnm,hs,hbk,hbw⟩:=hrel;have HM:=xN hm;have HN:=xN hnm;have HS:=xN hs;have HK:=xN hbk;have HB:=xN hbw;clear hm hnm hs hbk hbw;have ka:=HK.out.cell;have la:=HK.out.lt;have hsz:=HB.out.size;have lm:=HM.out.lt;by_cases hlt:k<x.zD.length
  rotate_left
  ·have hall:=xN (HS.out.all zM);clear HS
   go_wp2_with (go_at_call 89;refine(wF _ _ _ _).mono ?_;rintro e w' ⟨rfl,rfl⟩)
   go_ret
   exact⟨yP (by
   by_cases h:1≤x.zD.length∧x.zD.length≤8
   ·rw[xI ⟨h.1,h.2,hall.out⟩];exact xK.2 zM
   ·rw[xH fun hh=>h ⟨hh.some_,hh.few⟩];exact zEy.2 zM),HB.out⟩
  have hgk:=gE hlt;obtain⟨b1,off,cs1,hA,hb1,hcs,hcell⟩:=HX0.out k x.zD[k] hgk;subst hA;generalize x.zD[k]=y at *;have HG:=xN hgk;clear hgk;obtain⟨u2,rfl,hRY2⟩:=xP.yV (show T.rds _ _ _ by simpa only[xP.t,T.rd] using hcs);have d0:=(HB.out.cell hb1).trans (hcell 0 (.string y.yE) rfl);have d1:=(HB.out.cell hb1).trans (hcell 1 (.int .i64 y.zU) rfl);have d2:=(HB.out.cell hb1).trans (hcell 2 (u2) rfl);rw[show off+(k * 3+0)=off+k * 3 by omega] at d0;rw[show off+(k * 3+1)=off+k * 3+1 by omega] at d1;rw[show off+(k * 3+2)=off+k * 3+2 by omega] at d2;have RY2:=xN (T.yM hRY2 HB.out);clear hRY2;clear hcs hcell;obtain⟨ua2,ul2,uc2,rfl⟩:=T.xD RY2.out;have hq1:b1<wr.heap.size:=zW hb1 HB.out.size;have HW:=xN (show Below wr.heap.size wr (wr.alloc (.cells #[.string y.yE,.int .i64 y.zU,.slice ua2 ul2 uc2] 101)) from zR.alloc zJ _);have HBW:=xN (yQ HB.out HB.out.size HW.out);by_cases q1:NameOk y.yE
  rotate_left
  ·have a1:=xH q1;have Q1:=xN q1;clear q1
   go_wp2_with (go_at_call 160;refine(yNy _ _).mono ?_;rintro e w' ⟨rfl,rfl⟩;rw[a1])
   go_ret
   exact⟨yP (xH fun h=>Q1.out (h.each k y HG.out).1.name).symm,HBW.out⟩
  have a1:=xI q1;have Q1:=xN q1;clear q1;have hz:(zeroValue 4).run Tryz.prog (wr.alloc (.cells #[.string y.yE,.int .i64 y.zU,.slice ua2 ul2 uc2] 101))= .ok (.bool false) (wr.alloc (.cells #[.string y.yE,.int .i64 y.zU,.slice ua2 ul2 uc2] 101)):=by kernel_rfl
  have hsn:y.yE.size≤maxLen:=by have:=Q1.out.few;unfold maxLen;omega
  have hkey:=keyOf_string_mk Tryz.underlying9 hsn;obtain⟨c,hrun,hat⟩:=lookup_bool (HM.out.alloc (.cells #[.string y.yE,.int .i64 y.zU,.slice ua2 ul2 uc2] 101)) key_s Tryz.underlying207 Tryz.underlying4 hz hkey;rw[HN.out.2 y.yE] at hat;injection hat with hat;injection hat with hat;have HKEY:=xN hkey;clear hkey hz hsn;by_cases q2: ∃ j z,j<k∧x.zD[j]?=some z∧z.yE=y.yE
  ·rw[xI q2] at hat;subst hat
   have Q2:=xN q2;clear q2;go_wp2_with (go_at_call 160;refine(yNy _ _).mono ?_;rintro e w' ⟨rfl,rfl⟩;rw[a1])
   go_ret
   exact⟨yP (xH fun h=>by obtain⟨j,z,h1,h2,h3⟩:=Q2.out;exact(h.each k y HG.out).2 j z h1 h2 h3).symm,HBW.out⟩
  rw[xH q2] at hat;subst hat;have Q2:=xN q2;clear q2;by_cases q3:inB y.zU 0 32=true
  rotate_left
  ·have q3':inB y.zU 0 32=false:=by simpa using q3
   go_wp2_with (first|(go_at_call 160;refine(yNy _ _).mono ?_;rintro e w' ⟨rfl,rfl⟩;rw[a1])|(go_at_call 89;refine(wF _ _ _ _).mono ?_;rintro e w' ⟨rfl,rfl⟩))
   go_ret
   exact⟨yP (xH fun h=>q3 (h.each k y HG.out).1.latency).symm,HBW.out⟩
  go_wp2_with (first|(go_at_call 160;refine(yNy _ _).mono ?_;rintro e w' ⟨rfl,rfl⟩;rw[a1])|(go_at_call 89;refine(wF _ _ _ _).mono ?_;rintro e w' ⟨rfl,rfl⟩))
  refine(c_areSends _ y.zY (k:Int) (x.zD.length:Int) _ zM zM zM zM (T.yM RY2.out HW.out)).mono ?_;rintro e w3 ⟨rfl,hb3⟩;have HM3:=xN ((HM.out.alloc (.cells #[.string y.yE,.int .i64 y.zU,.slice ua2 ul2 uc2] 101)).kept (grown_of_below hb3 none) (by simp));have HK3:=xN ((HK.out.alloc (.cells #[.string y.yE,.int .i64 y.zU,.slice ua2 ul2 uc2] 101)).below hb3 (by simp;omega));have HN3:=xN ((Bk.born wr 101 #[.string y.yE,.int .i64 y.zU,.slice ua2 ul2 uc2]).below hb3 (by simp));have HB3:=xN (yQ HBW.out HBW.out.size hb3);clear hb3 ka la lm hsz hrun;have ka:=HK3.out.cell;have kn:=HN3.out.cell;have hsz:=HB3.out.size;by_cases q4:SendsOk y.zY (k:Int) (x.zD.length:Int)
  rotate_left
  ·rw[xH q4];have Q4:=xN q4;clear q4
   go_wp2;go_ret
   exact⟨yP (xH fun h=>Q4.out (h.each k y HG.out).1.sends).symm,HB3.out⟩
  rw[xI q4];have Q4:=xN q4;have Q3:=xN q3;clear q4 q3;go_wp2_with (at_mapUpdate;refine wpList_mapUpdate_own _ rfl _ _ _ _ rfl _ _ key_s Tryz.underlying207 _ _ _ _ rfl HM3.out (by unfold maxLen;omega) _ _ _ rfl rfl HKEY.out _ [] (plainElem_bool Tryz.underlying4 true) ?_;intro w5 hown5 hg5;have HM5:=xN hown5;have HK5:=xN (HK3.out.grown hg5 (by simp));have HB5:=xN (HB3.out.grown hg5 HB3.out.size (fun j hj=>by cases hj;omega));clear hown5 hg5)
  go_roundw
  case rel=>exact⟨k+1,_,by omega,by go_num,HM5.out,HN.out.step HG.out trivial,HS.out.step HG.out ⟨⟨Q1.out,Q3.out,Q4.out⟩,fun j z h1 h2 h3=>Q2.out ⟨j,z,h1,h2,h3⟩⟩,HK5.out,HB5.out⟩
  case measure=>simp[intOf];omega
end
section
open Go.RowKit
def kndNames:List (List UInt8):= [[105,110,112,117,116],[99,111,110,115,116],[97,100,100],[115,117,98],[103,97,105,110],[100,101,108,97,121],[115,117,109],[100,105,102,102],[109,117,108],[115,104,105,102,116],[99,108,105,112],[112,104,97,115,101],[116,97,98,108,101],[110,111,105,115,101],[115,101,108,101,99,116],[104,111,108,100],[99,111,109,98]]
def kndName (i:Nat):ByteArray:=⟨(kndNames.getD i []).toArray⟩
def xFz:Array Value:= #[.string ⟨#[105,110,112,117,116]⟩,.int .i64 0,.int .i64 0,.int .i64 3,.bool true,.bool false,.string ⟨#[99,111,110,115,116]⟩,.int .i64 0,.int .i64 (-2147483648),.int .i64 2147483647,.bool false,.bool false,.string ⟨#[97,100,100]⟩,.int .i64 2,.int .i64 1,.int .i64 0,.bool true,.bool false,.string ⟨#[115,117,98]⟩,.int .i64 2,.int .i64 1,.int .i64 0,.bool true,.bool false,.string ⟨#[103,97,105,110]⟩,.int .i64 1,.int .i64 (-2147483648),.int .i64 2147483647,.bool true,.bool false,.string ⟨#[100,101,108,97,121]⟩,.int .i64 1,.int .i64 1,.int .i64 16,.bool true,.bool false,.string ⟨#[115,117,109]⟩,.int .i64 1,.int .i64 1,.int .i64 0,.bool true,.bool false,.string ⟨#[100,105,102,102]⟩,.int .i64 1,.int .i64 1,.int .i64 0,.bool true,.bool false,.string ⟨#[109,117,108]⟩,.int .i64 2,.int .i64 1,.int .i64 0,.bool false,.bool false,.string ⟨#[115,104,105,102,116]⟩,.int .i64 1,.int .i64 0,.int .i64 31,.bool false,.bool false,.string ⟨#[99,108,105,112]⟩,.int .i64 1,.int .i64 0,.int .i64 2147483647,.bool false,.bool false,.string ⟨#[112,104,97,115,101]⟩,.int .i64 1,.int .i64 (-2147483648),.int .i64 2147483647,.bool false,.bool false,.string ⟨#[116,97,98,108,101]⟩,.int .i64 1,.int .i64 0,.int .i64 3,.bool false,.bool false,.string ⟨#[110,111,105,115,101]⟩,.int .i64 0,.int .i64 (-2147483648),.int .i64 2147483647,.bool false,.bool false,.string ⟨#[115,101,108,101,99,116]⟩,.int .i64 3,.int .i64 1,.int .i64 0,.bool false,.bool false,.string ⟨#[104,111,108,100]⟩,.int .i64 2,.int .i64 1,.int .i64 0,.bool false,.bool false,.string ⟨#[99,111,109,98]⟩,.int .i64 1,.int .i64 (-2147483648),.int .i64 2147483647,.bool true,.bool true]
theorem c_kinds (w:World):Calls Tryz.prog 279 #[] w fun e w'=>e= .returned (.slice (some ⟨w.heap.size,0,none⟩) 17 17)∧w'=w.alloc (.cells xFz 306):=by
 go_enter Tryz.func279,Tryz.ntmps279
 go_wp2;go_ret
 exact⟨rfl,rfl⟩
theorem kndCells_at {i:Nat} (h:i<17):xFz[i * 6]?=some (.string (kndName i))∧xFz[i * 6+1]?=some (.int .i64 (kndL.getD i ⟨0,0,0,false,false⟩).inputs)∧xFz[i * 6+2]?=some (.int .i64 (kndL.getD i ⟨0,0,0,false,false⟩).low)∧xFz[i * 6+3]?=some (.int .i64 (kndL.getD i ⟨0,0,0,false,false⟩).high)∧xFz[i * 6+4]?=some (.bool (kndL.getD i ⟨0,0,0,false,false⟩).linear)∧xFz[i * 6+5]?=some (.bool (kndL.getD i ⟨0,0,0,false,false⟩).hasB):=by
 have:i=0∨i=1∨i=2∨i=3∨i=4∨i=5∨i=6∨i=7∨i=8∨i=9∨i=10∨i=11∨i=12∨i=13∨i=14∨i=15∨i=16:=by omega
 rcases this with rfl|rfl|rfl|rfl|rfl|rfl|rfl|rfl|rfl|rfl|rfl|rfl|rfl|rfl|rfl|rfl|rfl
 all_goals exact⟨rfl,rfl,rfl,rfl,rfl,rfl⟩
theorem c_isKind (n:Int) (w:World):Calls Tryz.prog 278 #[.int .i64 n] w fun e w'=>e= .returned (.bool (inB n 1 17))∧w=w':=by
 go_enter Tryz.func278,Tryz.ntmps278
 go_wp2_with (go_at_call 89;refine(wF _ _ _ _).mono ?_;rintro e w' ⟨rfl,rfl⟩)
 go_ret
 exact⟨rfl,rfl⟩
theorem c_hasA (s:ByteArray) (a lo hi:Int) (l hb:Bool) (w:World):Calls Tryz.prog 280 #[.agg #[.string s,.int .i64 a,.int .i64 lo,.int .i64 hi,.bool l,.bool hb]] w fun e w'=>e= .returned (.bool (decide (lo≤hi)))∧Below w.heap.size w w':=by
 have HB:=xN (show Below w.heap.size w (w.alloc (.cells #[.string s,.int .i64 a,.int .i64 lo,.int .i64 hi,.bool l,.bool hb] 306)) from zR.alloc zJ _)
 go_enter Tryz.func280,Tryz.ntmps280
 go_wp2;go_ret
 exact⟨rfl,HB.out⟩
end
section
open Go.RowKit
theorem uLz (x:xR) (cs:List Value) (tables:Int) (w:World) (h:T.rds w x.fs cs):Calls Tryz.prog 262 #[.agg cs.toArray,.int .i64 tables] w fun e w'=>e= .returned (.bool (tf (yPz x tables)))∧Below w.heap.size w w':=by
 obtain⟨v3,rfl,h3⟩:=xR.yV h;clear h;obtain⟨va3,vc3,rfl,vl3,vm3,R3,HX3⟩:=oI h3;clear h3;have HB0:=xN (show Below w.heap.size w (w.alloc (.cells #[.int .i64 x.zG,.int .i64 x.fA,.int .i64 x.fB,(.slice va3 x.zK.length vc3)] 167)) from zR.alloc zJ _);have HK0:=xN (Bk.born w 167 #[.int .i64 x.zG,.int .i64 x.fA,.int .i64 x.fB,(.slice va3 x.zK.length vc3)]);have hB0:=HB0.out;have ka0:=HK0.out.cell
 go_enter Tryz.func262,Tryz.ntmps262
 by_cases q0:inB x.zG 1 17=true
 rotate_left
 ·have q0':inB x.zG 1 17=false:=by simpa using q0
  go_wp2_with (go_at_call 278;refine(c_isKind _ _).mono ?_;rintro e w' ⟨rfl,rfl⟩)
  go_ret
  exact⟨yP (xH fun h=>q0 h.kind).symm,HB0.out⟩
 have hk:=xK.1 q0;obtain⟨i,hi,hki⟩: ∃ i:Nat,i<17∧x.zG=(i:Int)+1:=⟨(x.zG - 1).toNat,by omega,by omega⟩;obtain⟨r0,r1,r2,r3,r4,r5⟩:=kndCells_at hi;generalize hK:kndL.getD i ⟨0,0,0,false,false⟩=K at *;generalize kndName i=nm at *;have e1:IntKind.i64.wrap (x.zG - 1)=(i:Int):=by rw[IntWalk.i64_in _ zM];omega
 have HF:uX x.zG=K:=by rw[←hK,hki];unfold uX;congr 1;omega
 have HKF:=xN HF;have HKI:=xN hki;clear HF hki hK hk;have n0:(0:Int)≤(i:Int):=by omega
 have n1:(i:Int)<17:=by omega
 go_wp2_with (go_at_call 278;refine(c_isKind _ _).mono ?_;rintro e w' ⟨rfl,rfl⟩)
 rename_i Q1 K1 hK1
 have REST: ∀ (p g:Nat) (W:World),Bk W w.heap.size 167 #[.int .i64 x.zG,.int .i64 x.fA,.int .i64 x.fB,(.slice va3 x.zK.length vc3)]→Bk W p 306 #[.string nm,.int .i64 K.inputs,.int .i64 K.low,.int .i64 K.high,.bool K.linear,.bool K.hasB]→Below w.heap.size w W→K1 { tmps:= #[.agg #[.int .i64 x.zG,.int .i64 x.fA,.int .i64 x.fB,(.slice va3 x.zK.length vc3)],.int .i64 tables,.pointer (some ⟨w.heap.size,0,none⟩),undef,.bool false,.pointer (some ⟨p,0,none⟩),undef,undef,.pointer (some ⟨w.heap.size,0,none⟩),.int .i64 x.zG,.bool true,.bool false,.slice (some ⟨g,0,none⟩) 17 17,.pointer (some ⟨w.heap.size,0,none⟩),.int .i64 x.zG,.int .i64 (i:Int),.pointer (some ⟨g,i * 6,none⟩),.agg #[.string nm,.int .i64 K.inputs,.int .i64 K.low,.int .i64 K.high,.bool K.linear,.bool K.hasB],undef,undef,undef,undef,undef,undef,undef,undef,undef,undef,undef,undef,undef,undef,undef,undef,undef,undef,undef,undef,undef,undef,undef,undef,undef,undef,undef,undef,undef,undef,undef,undef,undef,undef,undef,undef,undef,undef,undef,undef,undef,undef,undef,undef,undef,undef,undef,undef,undef,undef,undef,undef,undef,undef,undef,undef,undef,undef,undef,undef,undef,undef,undef,undef,undef,undef,undef,undef,undef,undef],defers:= [] } W:=by
  intro p g W hbk hbp hbw;have HK:=xN hbk;have HP:=xN hbp;have HB:=xN hbw;clear hbk hbp hbw r0 r1 r2 r3 r4 r5 hB0 ka0;have ka:=HK.out.cell;have kp:=HP.out.cell;have hsz:=HB.out.size;have la:=HK.out.lt;have lp:=HP.out.lt;refine hK1 _ _ ?_;by_cases a0:K.low≤K.high
  ·have a1:decide (K.low≤K.high)=true:=decide_eq_true a0
   go_wp2_with (go_at_call 89;refine(wF _ _ _ _).mono ?_;rintro e w' ⟨rfl,rfl⟩)
   refine(c_hasA _ _ _ _ _ _ _).mono ?_;rintro e w3 ⟨rfl,hb⟩;rw[a1];replace HK:=xN (HK.out.below hb la);replace HP:=xN (HP.out.below hb lp);replace HB:=xN (yQ HB.out HB.out.size hb);clear hb ka kp la lp hsz;have ka:=HK.out.cell;have kp:=HP.out.cell;have hsz:=HB.out.size;have la:=HK.out.lt;have lp:=HP.out.lt;by_cases q1:inB x.fA K.low K.high=true
   rotate_left
   ·have q1':inB x.fA K.low K.high=false:=by simpa using q1
    go_wp2_with (go_at_call 89;refine(wF _ _ _ _).mono ?_;rintro e w' ⟨rfl,rfl⟩)
    go_ret
    exact⟨yP (xH fun h=>by have h1:=h.a;rw[HKF.out,if_pos a0] at h1;exact q1 h1).symm,HB.out⟩
   have HA:=xN (show if K.low≤K.high then inB x.fA K.low K.high=true else x.fA=0 by rw[if_pos a0];exact q1);go_wp2_with (go_at_call 89;refine(wF _ _ _ _).mono ?_;rintro e w' ⟨rfl,rfl⟩)
   refine(c_hasA _ _ _ _ _ _ _).mono ?_;rintro e w4 ⟨rfl,hb⟩;rw[a1];replace HK:=xN (HK.out.below hb la);replace HP:=xN (HP.out.below hb lp);replace HB:=xN (yQ HB.out HB.out.size hb);clear hb ka kp la lp hsz;have ka:=HK.out.cell;have kp:=HP.out.cell;have hsz:=HB.out.size;have la:=HK.out.lt;have lp:=HP.out.lt
   cases hB:K.hasB
   ·have hbq:=hB
    by_cases q2:x.fB=0
    rotate_left
    ·have q2':(x.fB != 0)=true:=yQz q2;have Q2:=xN q2;clear q2
     go_wp2_with (go_at_call 89;refine(wF _ _ _ _).mono ?_;rintro e w' ⟨rfl,rfl⟩)
     go_ret
     exact⟨yP (xH fun h=>by have h1:=h.b;rw[HKF.out,hB] at h1;exact Q2.out h1).symm,HB.out⟩
    have q2':(x.fB != 0)=false:=yRz q2;have Q2:=xN q2;clear q2;go_wp2_with (go_at_call 89;refine(wF _ _ _ _).mono ?_;rintro e w' ⟨rfl,rfl⟩)
    go_loop [63] (fun i=> ∃ k:Nat,k≤x.zK.length∧i= .int .i64 k∧vP x.zK (fun _ f=>inB f 0 23=true) k) (fun i=>x.zK.length - (intOf i).toNat)
    case atStart=>exact⟨0,Nat.zero_le _,rfl,vP.zero⟩
    case round=>
     obtain⟨k,hk,rfl,hs⟩:=hrel;have HS:=xN hs;clear hs;by_cases hlt:k<x.zK.length
     ·have hgk:=gE hlt
      obtain⟨b1,off,hA,hb1,hc0⟩:=HX3.out k x.zK[k] hgk;subst hA;generalize x.zK[k]=y at *;have HG:=xN hgk;have hcell:=(HB.out.cell hb1).trans hc0;have hq1:b1<w4.heap.size:=zW hb1 HB.out.size;clear hgk hc0;by_cases q3:inB y 0 23=true
      ·go_wp2_with (go_at_call 89;refine(wF _ _ _ _).mono ?_;rintro e w' ⟨rfl,rfl⟩)
       go_round
       case rel=>exact⟨k+1,by omega,by go_num,HS.out.step HG.out q3⟩
       case measure=>simp[intOf];omega
      ·have q3':inB y 0 23=false:=by simpa using q3
       go_wp2_with (go_at_call 89;refine(wF _ _ _ _).mono ?_;rintro e w' ⟨rfl,rfl⟩)
       go_ret
       exact⟨yP (xH fun h=>q3 (h.from_ k y HG.out)).symm,HB.out⟩
     have hall:=xN (HS.out.all zM);clear HS;go_wp2;have HW:=xN (Below.refl w4.heap.size w4);by_cases c1:(x.zK.length:Int)=K.inputs
     rotate_left
     ·have c1':((x.zK.length:Int) == K.inputs)=false:=yZ c1;have C1:=xN c1;clear c1
      have g0:=xM HK.out;have g1:=xM HP.out;refine rB ?_
      repeat(first|go_big_quiet_skip|(go_big_quiet_want;go_big_quiet_op;first|go_big_quiet_on|(apply Exists.intro;refine⟨fun _=>?_,?_⟩;(· (go_at_call 86;exact Calls.yR (vZ _ x.zK _ (Rd.below R3.out (yQ HB.out HB.out.size (yO w4 _))))));go_big_quiet_on)))
      refine wpQuiet_nil ?_;rintro w9 ⟨uu,rfl⟩;have hb9:=yO w4 uu;generalize bel w4 uu=w9 at *;have HB9:=xN (yQ HB.out HB.out.size hb9);clear hb9 g0 g1;go_wp2;go_ret
      exact⟨yP (xH fun h=>C1.out (by have:=h.arity;rwa [HKF.out] at this)).symm,HB9.out⟩
     have c1':((x.zK.length:Int) == K.inputs)=true:=xA c1;have C1:=xN c1;clear c1
     skip
     by_cases c2:x.zG=13
     ·have c2':(x.zG != 13)=false:=yRz c2;have C2:=xN c2;clear c2
      by_cases c3:x.fA<tables
      ·have c3':decide (x.fA<tables)=true:=decide_eq_true c3;have C3:=xN c3
       have g0:=xM HK.out;have g1:=xM HP.out;refine rB ?_
       repeat(first|go_big_quiet_skip|(go_big_quiet_want;go_big_quiet_op;first|go_big_quiet_on|(apply Exists.intro;refine⟨fun _=>?_,?_⟩;(· (go_at_call 86;exact Calls.yR (vZ _ x.zK _ (Rd.below R3.out (yQ HB.out HB.out.size (yO w4 _))))));go_big_quiet_on)))
       refine wpQuiet_nil ?_;rintro w9 ⟨uu,rfl⟩;have hb9:=yO w4 uu;generalize bel w4 uu=w9 at *;have HB9:=xN (yQ HB.out HB.out.size hb9);clear hb9 g0 g1;go_wp2;go_ret
       exact⟨yP (xI ⟨q0,by rw[HKF.out];exact HA.out,by rw[HKF.out,hB];exact Q2.out,hall.out,by rw[HKF.out];exact C1.out,fun _=>C3.out⟩).symm,HB9.out⟩
      ·have c3':decide (x.fA<tables)=false:=decide_eq_false c3;have C3:=xN c3
       have g0:=xM HK.out;have g1:=xM HP.out;refine rB ?_
       repeat(first|go_big_quiet_skip|(go_big_quiet_want;go_big_quiet_op;first|go_big_quiet_on|(apply Exists.intro;refine⟨fun _=>?_,?_⟩;(· (go_at_call 86;exact Calls.yR (vZ _ x.zK _ (Rd.below R3.out (yQ HB.out HB.out.size (yO w4 _))))));go_big_quiet_on)))
       refine wpQuiet_nil ?_;rintro w9 ⟨uu,rfl⟩;have hb9:=yO w4 uu;generalize bel w4 uu=w9 at *;have HB9:=xN (yQ HB.out HB.out.size hb9);clear hb9 g0 g1;go_wp2;go_ret
       exact⟨yP (xH fun h=>by have:=C3.out;have:=h.table C2.out;omega).symm,HB9.out⟩
     have c2':(x.zG != 13)=true:=yQz c2;have C2:=xN c2;clear c2;have g0:=xM HK.out;have g1:=xM HP.out;refine rB ?_
     repeat(first|go_big_quiet_skip|(go_big_quiet_want;go_big_quiet_op;first|go_big_quiet_on|(apply Exists.intro;refine⟨fun _=>?_,?_⟩;(· (go_at_call 86;exact Calls.yR (vZ _ x.zK _ (Rd.below R3.out (yQ HB.out HB.out.size (yO w4 _))))));go_big_quiet_on)))
     refine wpQuiet_nil ?_;rintro w9 ⟨uu,rfl⟩;have hb9:=yO w4 uu;generalize bel w4 uu=w9 at *;have HB9:=xN (yQ HB.out HB.out.size hb9);clear hb9 g0 g1;go_wp2;go_ret
     exact⟨yP (xI ⟨q0,by rw[HKF.out];exact HA.out,by rw[HKF.out,hB];exact Q2.out,hall.out,by rw[HKF.out];exact C1.out,fun h=>absurd h C2.out⟩).symm,HB9.out⟩
   ·have hbq:=hB
    by_cases q2:inB x.fB 1 16=true
    rotate_left
    ·have q2':inB x.fB 1 16=false:=(by simpa using q2);have Q2:=xN q2
     go_wp2_with (go_at_call 89;refine(wF _ _ _ _).mono ?_;rintro e w' ⟨rfl,rfl⟩)
     go_ret
     exact⟨yP (xH fun h=>by have h1:=h.b;rw[HKF.out,hB] at h1;exact q2 h1).symm,HB.out⟩
    have Q2:=xN q2;go_wp2_with (go_at_call 89;refine(wF _ _ _ _).mono ?_;rintro e w' ⟨rfl,rfl⟩)
    go_loop [63] (fun i=> ∃ k:Nat,k≤x.zK.length∧i= .int .i64 k∧vP x.zK (fun _ f=>inB f 0 23=true) k) (fun i=>x.zK.length - (intOf i).toNat)
    case atStart=>exact⟨0,Nat.zero_le _,rfl,vP.zero⟩
    case round=>
     obtain⟨k,hk,rfl,hs⟩:=hrel;have HS:=xN hs;clear hs;by_cases hlt:k<x.zK.length
     ·have hgk:=gE hlt
      obtain⟨b1,off,hA,hb1,hc0⟩:=HX3.out k x.zK[k] hgk;subst hA;generalize x.zK[k]=y at *;have HG:=xN hgk;have hcell:=(HB.out.cell hb1).trans hc0;have hq1:b1<w4.heap.size:=zW hb1 HB.out.size;clear hgk hc0;by_cases q3:inB y 0 23=true
      ·go_wp2_with (go_at_call 89;refine(wF _ _ _ _).mono ?_;rintro e w' ⟨rfl,rfl⟩)
       go_round
       case rel=>exact⟨k+1,by omega,by go_num,HS.out.step HG.out q3⟩
       case measure=>simp[intOf];omega
      ·have q3':inB y 0 23=false:=by simpa using q3
       go_wp2_with (go_at_call 89;refine(wF _ _ _ _).mono ?_;rintro e w' ⟨rfl,rfl⟩)
       go_ret
       exact⟨yP (xH fun h=>q3 (h.from_ k y HG.out)).symm,HB.out⟩
     have hall:=xN (HS.out.all zM);clear HS;go_wp2;have HW:=xN (Below.refl w4.heap.size w4);by_cases c1:(x.zK.length:Int)=K.inputs
     rotate_left
     ·have c1':((x.zK.length:Int) == K.inputs)=false:=yZ c1;have C1:=xN c1;clear c1
      have g0:=xM HK.out;have g1:=xM HP.out;refine rB ?_
      repeat(first|go_big_quiet_skip|(go_big_quiet_want;go_big_quiet_op;first|go_big_quiet_on|(apply Exists.intro;refine⟨fun _=>?_,?_⟩;(· (go_at_call 86;exact Calls.yR (vZ _ x.zK _ (Rd.below R3.out (yQ HB.out HB.out.size (yO w4 _))))));go_big_quiet_on)))
      refine wpQuiet_nil ?_;rintro w9 ⟨uu,rfl⟩;have hb9:=yO w4 uu;generalize bel w4 uu=w9 at *;have HB9:=xN (yQ HB.out HB.out.size hb9);clear hb9 g0 g1;go_wp2;go_ret
      exact⟨yP (xH fun h=>C1.out (by have:=h.arity;rwa [HKF.out] at this)).symm,HB9.out⟩
     have c1':((x.zK.length:Int) == K.inputs)=true:=xA c1;have C1:=xN c1;clear c1
     skip
     by_cases c2:x.zG=13
     ·have c2':(x.zG != 13)=false:=yRz c2;have C2:=xN c2;clear c2
      by_cases c3:x.fA<tables
      ·have c3':decide (x.fA<tables)=true:=decide_eq_true c3;have C3:=xN c3
       have g0:=xM HK.out;have g1:=xM HP.out;refine rB ?_
       repeat(first|go_big_quiet_skip|(go_big_quiet_want;go_big_quiet_op;first|go_big_quiet_on|(apply Exists.intro;refine⟨fun _=>?_,?_⟩;(· (go_at_call 86;exact Calls.yR (vZ _ x.zK _ (Rd.below R3.out (yQ HB.out HB.out.size (yO w4 _))))));go_big_quiet_on)))
       refine wpQuiet_nil ?_;rintro w9 ⟨uu,rfl⟩;have hb9:=yO w4 uu;generalize bel w4 uu=w9 at *;have HB9:=xN (yQ HB.out HB.out.size hb9);clear hb9 g0 g1;go_wp2;go_ret
       exact⟨yP (xI ⟨q0,by rw[HKF.out];exact HA.out,by rw[HKF.out,hB];exact Q2.out,hall.out,by rw[HKF.out];exact C1.out,fun _=>C3.out⟩).symm,HB9.out⟩
      ·have c3':decide (x.fA<tables)=false:=decide_eq_false c3;have C3:=xN c3
       have g0:=xM HK.out;have g1:=xM HP.out;refine rB ?_
       repeat(first|go_big_quiet_skip|(go_big_quiet_want;go_big_quiet_op;first|go_big_quiet_on|(apply Exists.intro;refine⟨fun _=>?_,?_⟩;(· (go_at_call 86;exact Calls.yR (vZ _ x.zK _ (Rd.below R3.out (yQ HB.out HB.out.size (yO w4 _))))));go_big_quiet_on)))
       refine wpQuiet_nil ?_;rintro w9 ⟨uu,rfl⟩;have hb9:=yO w4 uu;generalize bel w4 uu=w9 at *;have HB9:=xN (yQ HB.out HB.out.size hb9);clear hb9 g0 g1;go_wp2;go_ret
       exact⟨yP (xH fun h=>by have:=C3.out;have:=h.table C2.out;omega).symm,HB9.out⟩
     have c2':(x.zG != 13)=true:=yQz c2;have C2:=xN c2;clear c2;have g0:=xM HK.out;have g1:=xM HP.out;refine rB ?_
     repeat(first|go_big_quiet_skip|(go_big_quiet_want;go_big_quiet_op;first|go_big_quiet_on|(apply Exists.intro;refine⟨fun _=>?_,?_⟩;(· (go_at_call 86;exact Calls.yR (vZ _ x.zK _ (Rd.below R3.out (yQ HB.out HB.out.size (yO w4 _))))));go_big_quiet_on)))
     refine wpQuiet_nil ?_;rintro w9 ⟨uu,rfl⟩;have hb9:=yO w4 uu;generalize bel w4 uu=w9 at *;have HB9:=xN (yQ HB.out HB.out.size hb9);clear hb9 g0 g1;go_wp2;go_ret
     exact⟨yP (xI ⟨q0,by rw[HKF.out];exact HA.out,by rw[HKF.out,hB];exact Q2.out,hall.out,by rw[HKF.out];exact C1.out,fun h=>absurd h C2.out⟩).symm,HB9.out⟩
  have a1:decide (K.low≤K.high)=false:=decide_eq_false a0;have A0:=xN a0;clear a0;go_wp2_with (go_at_call 89;refine(wF _ _ _ _).mono ?_;rintro e w' ⟨rfl,rfl⟩)
  refine(c_hasA _ _ _ _ _ _ _).mono ?_;rintro e w3 ⟨rfl,hb⟩;rw[a1];replace HK:=xN (HK.out.below hb la);replace HP:=xN (HP.out.below hb lp);replace HB:=xN (yQ HB.out HB.out.size hb);clear hb ka kp la lp hsz;have ka:=HK.out.cell;have kp:=HP.out.cell;have hsz:=HB.out.size;have la:=HK.out.lt;have lp:=HP.out.lt;go_wp2_with (go_at_call 89;refine(wF _ _ _ _).mono ?_;rintro e w' ⟨rfl,rfl⟩)
  refine(c_hasA _ _ _ _ _ _ _).mono ?_;rintro e w4 ⟨rfl,hb⟩;rw[a1];replace HK:=xN (HK.out.below hb la);replace HP:=xN (HP.out.below hb lp);replace HB:=xN (yQ HB.out HB.out.size hb);clear hb ka kp la lp hsz;have ka:=HK.out.cell;have kp:=HP.out.cell;have hsz:=HB.out.size;have la:=HK.out.lt;have lp:=HP.out.lt;by_cases q1:x.fA=0
  rotate_left
  ·have q1':(x.fA != 0)=true:=yQz q1;have Q1:=xN q1;clear q1
   go_wp2_with (go_at_call 89;refine(wF _ _ _ _).mono ?_;rintro e w' ⟨rfl,rfl⟩)
   go_ret
   exact⟨yP (xH fun h=>by have h1:=h.a;rw[HKF.out,if_neg (by have:=A0.out;omega)] at h1;exact Q1.out h1).symm,HB.out⟩
  have q1':(x.fA != 0)=false:=yRz q1;have HA:=xN (show if K.low≤K.high then inB x.fA K.low K.high=true else x.fA=0 by rw[if_neg (by have:=A0.out;omega)];exact q1);clear q1
  cases hB:K.hasB
  ·have hbq:=hB
   by_cases q2:x.fB=0
   rotate_left
   ·have q2':(x.fB != 0)=true:=yQz q2;have Q2:=xN q2;clear q2
    go_wp2_with (go_at_call 89;refine(wF _ _ _ _).mono ?_;rintro e w' ⟨rfl,rfl⟩)
    go_ret
    exact⟨yP (xH fun h=>by have h1:=h.b;rw[HKF.out,hB] at h1;exact Q2.out h1).symm,HB.out⟩
   have q2':(x.fB != 0)=false:=yRz q2;have Q2:=xN q2;clear q2;go_wp2_with (go_at_call 89;refine(wF _ _ _ _).mono ?_;rintro e w' ⟨rfl,rfl⟩)
   go_loop [63] (fun i=> ∃ k:Nat,k≤x.zK.length∧i= .int .i64 k∧vP x.zK (fun _ f=>inB f 0 23=true) k) (fun i=>x.zK.length - (intOf i).toNat)
   case atStart=>exact⟨0,Nat.zero_le _,rfl,vP.zero⟩
   case round=>
    obtain⟨k,hk,rfl,hs⟩:=hrel;have HS:=xN hs;clear hs;by_cases hlt:k<x.zK.length
    ·have hgk:=gE hlt
     obtain⟨b1,off,hA,hb1,hc0⟩:=HX3.out k x.zK[k] hgk;subst hA;generalize x.zK[k]=y at *;have HG:=xN hgk;have hcell:=(HB.out.cell hb1).trans hc0;have hq1:b1<w4.heap.size:=zW hb1 HB.out.size;clear hgk hc0;by_cases q3:inB y 0 23=true
     ·go_wp2_with (go_at_call 89;refine(wF _ _ _ _).mono ?_;rintro e w' ⟨rfl,rfl⟩)
      go_round
      case rel=>exact⟨k+1,by omega,by go_num,HS.out.step HG.out q3⟩
      case measure=>simp[intOf];omega
     ·have q3':inB y 0 23=false:=by simpa using q3
      go_wp2_with (go_at_call 89;refine(wF _ _ _ _).mono ?_;rintro e w' ⟨rfl,rfl⟩)
      go_ret
      exact⟨yP (xH fun h=>q3 (h.from_ k y HG.out)).symm,HB.out⟩
    have hall:=xN (HS.out.all zM);clear HS;go_wp2;have HW:=xN (Below.refl w4.heap.size w4);by_cases c1:(x.zK.length:Int)=K.inputs
    rotate_left
    ·have c1':((x.zK.length:Int) == K.inputs)=false:=yZ c1;have C1:=xN c1;clear c1
     have g0:=xM HK.out;have g1:=xM HP.out;refine rB ?_
     repeat(first|go_big_quiet_skip|(go_big_quiet_want;go_big_quiet_op;first|go_big_quiet_on|(apply Exists.intro;refine⟨fun _=>?_,?_⟩;(· (go_at_call 86;exact Calls.yR (vZ _ x.zK _ (Rd.below R3.out (yQ HB.out HB.out.size (yO w4 _))))));go_big_quiet_on)))
     refine wpQuiet_nil ?_;rintro w9 ⟨uu,rfl⟩;have hb9:=yO w4 uu;generalize bel w4 uu=w9 at *;have HB9:=xN (yQ HB.out HB.out.size hb9);clear hb9 g0 g1;go_wp2;go_ret
     exact⟨yP (xH fun h=>C1.out (by have:=h.arity;rwa [HKF.out] at this)).symm,HB9.out⟩
    have c1':((x.zK.length:Int) == K.inputs)=true:=xA c1;have C1:=xN c1;clear c1
    skip
    by_cases c2:x.zG=13
    ·have c2':(x.zG != 13)=false:=yRz c2;have C2:=xN c2;clear c2
     by_cases c3:x.fA<tables
     ·have c3':decide (x.fA<tables)=true:=decide_eq_true c3;have C3:=xN c3
      have g0:=xM HK.out;have g1:=xM HP.out;refine rB ?_
      repeat(first|go_big_quiet_skip|(go_big_quiet_want;go_big_quiet_op;first|go_big_quiet_on|(apply Exists.intro;refine⟨fun _=>?_,?_⟩;(· (go_at_call 86;exact Calls.yR (vZ _ x.zK _ (Rd.below R3.out (yQ HB.out HB.out.size (yO w4 _))))));go_big_quiet_on)))
      refine wpQuiet_nil ?_;rintro w9 ⟨uu,rfl⟩;have hb9:=yO w4 uu;generalize bel w4 uu=w9 at *;have HB9:=xN (yQ HB.out HB.out.size hb9);clear hb9 g0 g1;go_wp2;go_ret
      exact⟨yP (xI ⟨q0,by rw[HKF.out];exact HA.out,by rw[HKF.out,hB];exact Q2.out,hall.out,by rw[HKF.out];exact C1.out,fun _=>C3.out⟩).symm,HB9.out⟩
     ·have c3':decide (x.fA<tables)=false:=decide_eq_false c3;have C3:=xN c3
      have g0:=xM HK.out;have g1:=xM HP.out;refine rB ?_
      repeat(first|go_big_quiet_skip|(go_big_quiet_want;go_big_quiet_op;first|go_big_quiet_on|(apply Exists.intro;refine⟨fun _=>?_,?_⟩;(· (go_at_call 86;exact Calls.yR (vZ _ x.zK _ (Rd.below R3.out (yQ HB.out HB.out.size (yO w4 _))))));go_big_quiet_on)))
      refine wpQuiet_nil ?_;rintro w9 ⟨uu,rfl⟩;have hb9:=yO w4 uu;generalize bel w4 uu=w9 at *;have HB9:=xN (yQ HB.out HB.out.size hb9);clear hb9 g0 g1;go_wp2;go_ret
      exact⟨yP (xH fun h=>by have:=C3.out;have:=h.table C2.out;omega).symm,HB9.out⟩
    have c2':(x.zG != 13)=true:=yQz c2;have C2:=xN c2;clear c2;have g0:=xM HK.out;have g1:=xM HP.out;refine rB ?_
    repeat(first|go_big_quiet_skip|(go_big_quiet_want;go_big_quiet_op;first|go_big_quiet_on|(apply Exists.intro;refine⟨fun _=>?_,?_⟩;(· (go_at_call 86;exact Calls.yR (vZ _ x.zK _ (Rd.below R3.out (yQ HB.out HB.out.size (yO w4 _))))));go_big_quiet_on)))
    refine wpQuiet_nil ?_;rintro w9 ⟨uu,rfl⟩;have hb9:=yO w4 uu;generalize bel w4 uu=w9 at *;have HB9:=xN (yQ HB.out HB.out.size hb9);clear hb9 g0 g1;go_wp2;go_ret
    exact⟨yP (xI ⟨q0,by rw[HKF.out];exact HA.out,by rw[HKF.out,hB];exact Q2.out,hall.out,by rw[HKF.out];exact C1.out,fun h=>absurd h C2.out⟩).symm,HB9.out⟩
  ·have hbq:=hB
   by_cases q2:inB x.fB 1 16=true
   rotate_left
   ·have q2':inB x.fB 1 16=false:=(by simpa using q2);have Q2:=xN q2
    go_wp2_with (go_at_call 89;refine(wF _ _ _ _).mono ?_;rintro e w' ⟨rfl,rfl⟩)
    go_ret
    exact⟨yP (xH fun h=>by have h1:=h.b;rw[HKF.out,hB] at h1;exact q2 h1).symm,HB.out⟩
   have Q2:=xN q2;go_wp2_with (go_at_call 89;refine(wF _ _ _ _).mono ?_;rintro e w' ⟨rfl,rfl⟩)
   go_loop [63] (fun i=> ∃ k:Nat,k≤x.zK.length∧i= .int .i64 k∧vP x.zK (fun _ f=>inB f 0 23=true) k) (fun i=>x.zK.length - (intOf i).toNat)
   case atStart=>exact⟨0,Nat.zero_le _,rfl,vP.zero⟩
   case round=>
    obtain⟨k,hk,rfl,hs⟩:=hrel;have HS:=xN hs;clear hs;by_cases hlt:k<x.zK.length
    ·have hgk:=gE hlt
     obtain⟨b1,off,hA,hb1,hc0⟩:=HX3.out k x.zK[k] hgk;subst hA;generalize x.zK[k]=y at *;have HG:=xN hgk;have hcell:=(HB.out.cell hb1).trans hc0;have hq1:b1<w4.heap.size:=zW hb1 HB.out.size;clear hgk hc0;by_cases q3:inB y 0 23=true
     ·go_wp2_with (go_at_call 89;refine(wF _ _ _ _).mono ?_;rintro e w' ⟨rfl,rfl⟩)
      go_round
      case rel=>exact⟨k+1,by omega,by go_num,HS.out.step HG.out q3⟩
      case measure=>simp[intOf];omega
     ·have q3':inB y 0 23=false:=by simpa using q3
      go_wp2_with (go_at_call 89;refine(wF _ _ _ _).mono ?_;rintro e w' ⟨rfl,rfl⟩)
      go_ret
      exact⟨yP (xH fun h=>q3 (h.from_ k y HG.out)).symm,HB.out⟩
    have hall:=xN (HS.out.all zM);clear HS;go_wp2;have HW:=xN (Below.refl w4.heap.size w4);by_cases c1:(x.zK.length:Int)=K.inputs
    rotate_left
    ·have c1':((x.zK.length:Int) == K.inputs)=false:=yZ c1;have C1:=xN c1;clear c1
     have g0:=xM HK.out;have g1:=xM HP.out;refine rB ?_
     repeat(first|go_big_quiet_skip|(go_big_quiet_want;go_big_quiet_op;first|go_big_quiet_on|(apply Exists.intro;refine⟨fun _=>?_,?_⟩;(· (go_at_call 86;exact Calls.yR (vZ _ x.zK _ (Rd.below R3.out (yQ HB.out HB.out.size (yO w4 _))))));go_big_quiet_on)))
     refine wpQuiet_nil ?_;rintro w9 ⟨uu,rfl⟩;have hb9:=yO w4 uu;generalize bel w4 uu=w9 at *;have HB9:=xN (yQ HB.out HB.out.size hb9);clear hb9 g0 g1;go_wp2;go_ret
     exact⟨yP (xH fun h=>C1.out (by have:=h.arity;rwa [HKF.out] at this)).symm,HB9.out⟩
    have c1':((x.zK.length:Int) == K.inputs)=true:=xA c1;have C1:=xN c1;clear c1
    skip
    by_cases c2:x.zG=13
    ·have c2':(x.zG != 13)=false:=yRz c2;have C2:=xN c2;clear c2
     by_cases c3:x.fA<tables
     ·have c3':decide (x.fA<tables)=true:=decide_eq_true c3;have C3:=xN c3
      have g0:=xM HK.out;have g1:=xM HP.out;refine rB ?_
      repeat(first|go_big_quiet_skip|(go_big_quiet_want;go_big_quiet_op;first|go_big_quiet_on|(apply Exists.intro;refine⟨fun _=>?_,?_⟩;(· (go_at_call 86;exact Calls.yR (vZ _ x.zK _ (Rd.below R3.out (yQ HB.out HB.out.size (yO w4 _))))));go_big_quiet_on)))
      refine wpQuiet_nil ?_;rintro w9 ⟨uu,rfl⟩;have hb9:=yO w4 uu;generalize bel w4 uu=w9 at *;have HB9:=xN (yQ HB.out HB.out.size hb9);clear hb9 g0 g1;go_wp2;go_ret
      exact⟨yP (xI ⟨q0,by rw[HKF.out];exact HA.out,by rw[HKF.out,hB];exact Q2.out,hall.out,by rw[HKF.out];exact C1.out,fun _=>C3.out⟩).symm,HB9.out⟩
     ·have c3':decide (x.fA<tables)=false:=decide_eq_false c3;have C3:=xN c3
      have g0:=xM HK.out;have g1:=xM HP.out;refine rB ?_
      repeat(first|go_big_quiet_skip|(go_big_quiet_want;go_big_quiet_op;first|go_big_quiet_on|(apply Exists.intro;refine⟨fun _=>?_,?_⟩;(· (go_at_call 86;exact Calls.yR (vZ _ x.zK _ (Rd.below R3.out (yQ HB.out HB.out.size (yO w4 _))))));go_big_quiet_on)))
      refine wpQuiet_nil ?_;rintro w9 ⟨uu,rfl⟩;have hb9:=yO w4 uu;generalize bel w4 uu=w9 at *;have HB9:=xN (yQ HB.out HB.out.size hb9);clear hb9 g0 g1;go_wp2;go_ret
      exact⟨yP (xH fun h=>by have:=C3.out;have:=h.table C2.out;omega).symm,HB9.out⟩
    have c2':(x.zG != 13)=true:=yQz c2;have C2:=xN c2;clear c2;have g0:=xM HK.out;have g1:=xM HP.out;refine rB ?_
    repeat(first|go_big_quiet_skip|(go_big_quiet_want;go_big_quiet_op;first|go_big_quiet_on|(apply Exists.intro;refine⟨fun _=>?_,?_⟩;(· (go_at_call 86;exact Calls.yR (vZ _ x.zK _ (Rd.below R3.out (yQ HB.out HB.out.size (yO w4 _))))));go_big_quiet_on)))
    refine wpQuiet_nil ?_;rintro w9 ⟨uu,rfl⟩;have hb9:=yO w4 uu;generalize bel w4 uu=w9 at *;have HB9:=xN (yQ HB.out HB.out.size hb9);clear hb9 g0 g1;go_wp2;go_ret
    exact⟨yP (xI ⟨q0,by rw[HKF.out];exact HA.out,by rw[HKF.out,hB];exact Q2.out,hall.out,by rw[HKF.out];exact C1.out,fun h=>absurd h C2.out⟩).symm,HB9.out⟩
 go_region_with (go_at_call 279;refine(c_kinds _).mono ?_;rintro e w' ⟨rfl,rfl⟩)
 all_goals first|(exact REST _ _ _ (((HK0.out.alloc _).alloc _).drewN 1) (Bk.drewN (by have:=Bk.born ((w.alloc (.cells #[.int .i64 x.zG,.int .i64 x.fA,.int .i64 x.fB,(.slice va3 x.zK.length vc3)] 167)).alloc (.cells xFz 306)) 306 #[.string nm,.int .i64 K.inputs,.int .i64 K.low,.int .i64 K.high,.bool K.linear,.bool K.hasB];simpa using this) 1) (((HB0.out.alloc zQ _).alloc zQ _).drew))|(exact REST _ _ _ (((HK0.out.alloc _).alloc _).drewN 1) (Bk.drewN (by have:=(Bk.born (w.alloc (.cells #[.int .i64 x.zG,.int .i64 x.fA,.int .i64 x.fB,(.slice va3 x.zK.length vc3)] 167)) 306 #[.string nm,.int .i64 K.inputs,.int .i64 K.low,.int .i64 K.high,.bool K.linear,.bool K.hasB]).alloc (.cells xFz 306);simpa using this) 1) (((HB0.out.alloc zQ _).alloc zQ _).drew))
end
end Go.Proofs.YtoibekfhepnedaaGreat
