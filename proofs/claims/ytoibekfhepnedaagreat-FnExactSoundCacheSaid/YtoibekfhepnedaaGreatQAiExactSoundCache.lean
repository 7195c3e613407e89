/- Contracts: what is valid, by the program: names, sends, mixers, tracks. Contracts: what is valid, by the program: tracks, mixers. -/
import Derived.Test.YtoibekfhepnedaaGreatQAhExactSoundCache
import Derived.Maps.Own
set_option linter.unusedVariables false
set_option linter.unusedSimpArgs false
set_option maxHeartbeats 2000000
set_option maxRecDepth 20000
section
namespace Go.Proofs.YtoibekfhepnedaaGreat
open Go.RowKit Go.WideMaps Go.Maps
theorem c_sizeStrip (A:Option Addr) (n c:Nat) (w:World) (h:n≤9223372036854775807):Calls Tryz.prog 102 #[.slice A n c] w fun e w'=>e= .returned (.int .i64 (n:Int))∧w=w':=by
 go_enter Tryz.func102,Tryz.ntmps102
 go_wp2
 go_ret
 exact⟨rfl,rfl⟩
theorem c_sizePatch (A:Option Addr) (n c:Nat) (w:World) (h:n≤9223372036854775807):Calls Tryz.prog 106 #[.slice A n c] w fun e w'=>e= .returned (.int .i64 (n:Int))∧w=w':=by
 go_enter Tryz.func106,Tryz.ntmps106
 go_wp2
 go_ret
 exact⟨rfl,rfl⟩
theorem c_sizeLL (A:Option Addr) (n c:Nat) (w:World) (h:n≤9223372036854775807):Calls Tryz.prog 109 #[.slice A n c] w fun e w'=>e= .returned (.int .i64 (n:Int))∧w=w':=by
 go_enter Tryz.func109,Tryz.ntmps109
 go_wp2
 go_ret
 exact⟨rfl,rfl⟩
theorem c_sizeSend (A:Option Addr) (n c:Nat) (w:World) (h:n≤9223372036854775807):Calls Tryz.prog 168 #[.slice A n c] w fun e w'=>e= .returned (.int .i64 (n:Int))∧w=w':=by
 go_enter Tryz.func168,Tryz.ntmps168
 go_wp2
 go_ret
 exact⟨rfl,rfl⟩
theorem c_sizeNode (A:Option Addr) (n c:Nat) (w:World) (h:n≤9223372036854775807):Calls Tryz.prog 260 #[.slice A n c] w fun e w'=>e= .returned (.int .i64 (n:Int))∧w=w':=by
 go_enter Tryz.func260,Tryz.ntmps260
 go_wp2
 go_ret
 exact⟨rfl,rfl⟩
theorem c_IsName (s:ByteArray) (w:World):Calls Tryz.prog 160 #[.string s] w fun e w'=>e= .returned (.bool (tf (NameOk s)))∧w=w':=by
 by_cases h1:1≤s.size
 rotate_left
 ·go_enter Tryz.func160,Tryz.ntmps160
  go_wp2
  go_ret
  exact⟨yH (yW fun h=>h1 h.some_).symm,rfl⟩
 by_cases h2:s.size≤10
 rotate_left
 ·go_enter Tryz.func160,Tryz.ntmps160
  go_wp2
  go_ret
  exact⟨yH (yW fun h=>h2 h.few).symm,rfl⟩
 go_enter Tryz.func160,Tryz.ntmps160
 go_wp2
 go_loop [3] (fun i=> ∃ k:Nat,k≤s.size∧i= .int .i64 k∧ ∀ i,i<k→smallN (bA s i)∨(digitN (bA s i)∧i≠0)) (fun i=>s.size - (intOf i).toNat)
 case atStart=>exact⟨0,Nat.zero_le _,rfl,fun i h=>absurd h (by omega)⟩
 case round=>
  obtain⟨k,hk,rfl,hs⟩:=hrel
  have HS:=hide hs;clear hs
  by_cases hlt:k<s.size
  ·have hb:=bA_lt s k
   have hg:=bA_get hlt
   have HX:Sec (∀ p:Prop,p→p):=⟨fun _ h=>h⟩
   generalize hy:bA s k=y at *
   have HY:=hide hy;clear hy
   by_cases a1:97≤y
   ·by_cases a2:y≤122
    ·by_cases a3:48≤y
     ·by_cases a4:y≤57
      ·omega
      ·have n1:decide ((y:Int)≤122)=true:=decide_eq_true (by omega)
       have n2:decide ((y:Int)≤57)=false:=decide_eq_false (by omega)
       go_wp2
       go_round
       case rel=>exact⟨k+1,by omega,by go_num,fun i hi=>by
        by_cases e:i=k
        ·subst e;rw[HY.out];exact .inl ⟨a1,a2⟩
        ·exact HS.out i (by omega)⟩
       case measure=>simp[intOf];omega
     ·omega
    ·by_cases a4:y≤57
     ·omega
     ·have n1:decide ((y:Int)≤122)=false:=decide_eq_false (by omega)
      have n2:decide ((y:Int)≤57)=false:=decide_eq_false (by omega)
      go_wp2
      go_ret
      exact⟨yH (yW fun h=>by rcases h.each k hlt with h|h<;>rw[HY.out] at h<;>(simp only[smallN,digitN] at h;omega)).symm,rfl⟩
   ·by_cases a3:48≤y
    ·by_cases a4:y≤57
     ·have n2:decide ((y:Int)≤57)=true:=decide_eq_true (by omega)
      by_cases a5:k=0
      ·subst a5
       go_wp2
       go_ret
       exact⟨yH (yW fun h=>by rcases h.each 0 hlt with h|h<;>rw[HY.out] at h<;>(simp only[smallN,digitN] at h;omega)).symm,rfl⟩
      ·have a6:((k:Int) == 0)=false:=by simp;omega
       have A5:=hide a5;clear a5
       go_wp2
       go_round
       case rel=>exact⟨k+1,by omega,by go_num,fun i hi=>by
        by_cases e:i=k
        ·subst e;rw[HY.out];exact .inr ⟨⟨a3,a4⟩,A5.out⟩
        ·exact HS.out i (by omega)⟩
       case measure=>simp[intOf];omega
     ·have n2:decide ((y:Int)≤57)=false:=decide_eq_false (by omega)
      go_wp2
      go_ret
      exact⟨yH (yW fun h=>by rcases h.each k hlt with h|h<;>rw[HY.out] at h<;>(simp only[smallN,digitN] at h;omega)).symm,rfl⟩
    ·go_wp2
     go_ret
     exact⟨yH (yW fun h=>by rcases h.each k hlt with h|h<;>rw[HY.out] at h<;>(simp only[smallN,digitN] at h;omega)).symm,rfl⟩
  ·go_wp2
   go_ret
   exact⟨yH (yX ⟨h1,h2,fun i hi=>HS.out i (by omega)⟩).symm,rfl⟩
theorem befS_succ {l:List GSend} {p:Int} {k:Nat} {y:GSend} (h:l[k]?=some y):befS l p (k+1)=y.zV:=by
 unfold befS
 rw[if_neg (by omega),Nat.add_sub_cancel,List.getD_eq_getElem?_getD,h];rfl
theorem c_areSends (v:Value) (xs:List GSend) (p n:Int) (w:World) (p0:0≤p) (p1:p≤1048576) (n0:0≤n) (n1:n≤1048576) (hr:T.rd w (T.sl 98 2 (xs.map GSend.t)) [v]):Calls Tryz.prog 161 #[v,.int .i64 p,.int .i64 n] w fun e w'=>e= .returned (.bool (tf (SendsOk xs p n)))∧Below w.heap.size w w':=by
 obtain⟨A,cap,rfl,hl,hc,hx⟩:=T.yM hr
 have HX:=hide hx;clear hx hr
 go_enter Tryz.func161,Tryz.ntmps161
 go_wp2
 go_loopw [7,13] (fun b i wr=> ∃ (k:Nat) (bf:Int),k≤xs.length∧i= .int .i64 k∧b= .int .i64 bf∧bf=befS xs p k∧0≤bf∧bf≤1048576∧Upto xs (fun i x=>inB x.zV (befS xs p i+1) (n - 1)=true∧Smp x.zR) k∧Below w.heap.size w wr) (fun _ i _=>xs.length - (intOf i).toNat)
 case atStart=>exact⟨0,p,Nat.zero_le _,rfl,rfl,rfl,p0,p1,Upto.zero,Below.refl _ _⟩
 case round=>
  obtain⟨k,bf,hk,rfl,rfl,hbf,b0,b1,hs,hbw⟩:=hrel
  have HS:=hide hs;have HB:=hide hbw;have HBF:=hide hbf;clear hs hbw hbf
  by_cases hlt:k<xs.length
  ·have hgk:=List.getElem?_eq_getElem hlt
   obtain⟨b,off,cs,rfl,hb,hcs,hcell⟩:=HX.out k xs[k] hgk
   generalize xs[k]=y at *
   have HG:=hide hgk;clear hgk
   obtain rfl:=GSend.yN (show T.rds _ _ _ by simpa only[GSend.t,T.rd] using hcs)
   have d0:=(HB.out.cell hb).trans (hcell 0 (.int .i64 y.zV) rfl)
   have d1:=(HB.out.cell hb).trans (hcell 1 (.int .i64 y.zR) rfl)
   rw[show off+(k * 2+0)=off+k * 2 by omega] at d0
   rw[show off+(k * 2+1)=off+k * 2+1 by omega] at d1
   clear hcs hcell
   have hq:b<wr.heap.size:=Nat.lt_of_lt_of_le hb HB.out.size
   have hB:=HB.out;have hsz:=HB.out.size
   by_cases q1:inB y.zV (bf+1) (n - 1)=true
   rotate_left
   ·have q1':inB y.zV (bf+1) (n - 1)=false:=by simpa using q1
    go_wp2_with (first|(go_at_call 89;refine(c_within _ _ _ _).mono ?_;rintro e w' ⟨rfl,rfl⟩)|(go_at_call 169;refine(c_isSample _ _).mono ?_;rintro e w' ⟨rfl,rfl⟩))
    go_ret
    exact⟨yH (yW fun h=>by have:=(h.each k y HG.out).1;rw[←HBF.out] at this;exact q1 this).symm,(by repeat(first|with_reducible exact Below.refl _ _|with_reducible assumption|with_reducible refine Below.setCell ?_ (by first|omega|(simp;done)|(simp;omega)) _|with_reducible refine Below.alloc ?_ (by first|omega|(simp;done)|(simp;omega)) _|with_reducible refine Below.drew ?_|with_reducible refine below_drewN ?_ _|exact Below.refl _ _|assumption|refine Below.drew ?_|refine below_drewN ?_ _|refine Below.alloc ?_ (by first|omega|(simp;done)|(simp;omega)) _|refine Below.setCell ?_ (by first|omega|(simp;done)|(simp;omega)) _))⟩
   have i1:=yZ.1 q1
   by_cases q2:Smp y.zR
   rotate_left
   ·have q2':decide (Smp y.zR)=false:=decide_eq_false q2
    have Q2:=hide q2;clear q2
    go_wp2_with (first|(go_at_call 89;refine(c_within _ _ _ _).mono ?_;rintro e w' ⟨rfl,rfl⟩)|(go_at_call 169;refine(c_isSample _ _).mono ?_;rintro e w' ⟨rfl,rfl⟩))
    go_ret
    exact⟨yH (yW fun h=>Q2.out (h.each k y HG.out).2).symm,(by repeat(first|with_reducible exact Below.refl _ _|with_reducible assumption|with_reducible refine Below.setCell ?_ (by first|omega|(simp;done)|(simp;omega)) _|with_reducible refine Below.alloc ?_ (by first|omega|(simp;done)|(simp;omega)) _|with_reducible refine Below.drew ?_|with_reducible refine below_drewN ?_ _|exact Below.refl _ _|assumption|refine Below.drew ?_|refine below_drewN ?_ _|refine Below.alloc ?_ (by first|omega|(simp;done)|(simp;omega)) _|refine Below.setCell ?_ (by first|omega|(simp;done)|(simp;omega)) _))⟩
   have q2':decide (Smp y.zR)=true:=decide_eq_true q2
   have Q2:=hide q2;have Q1:=hide q1;clear q2
   go_wp2_with (first|(go_at_call 89;refine(c_within _ _ _ _).mono ?_;rintro e w' ⟨rfl,rfl⟩)|(go_at_call 169;refine(c_isSample _ _).mono ?_;rintro e w' ⟨rfl,rfl⟩))
   go_roundw
   case rel=>exact⟨k+1,y.zV,by omega,by go_num,rfl,(befS_succ HG.out).symm,by omega,by omega,HS.out.step HG.out ⟨by rw[←HBF.out];exact Q1.out,Q2.out⟩,(by repeat(first|with_reducible exact Below.refl _ _|with_reducible assumption|with_reducible refine Below.setCell ?_ (by first|omega|(simp;done)|(simp;omega)) _|with_reducible refine Below.alloc ?_ (by first|omega|(simp;done)|(simp;omega)) _|with_reducible refine Below.drew ?_|with_reducible refine below_drewN ?_ _|exact Below.refl _ _|assumption|refine Below.drew ?_|refine below_drewN ?_ _|refine Below.alloc ?_ (by first|omega|(simp;done)|(simp;omega)) _|refine Below.setCell ?_ (by first|omega|(simp;done)|(simp;omega)) _))⟩
   case measure=>simp[intOf];omega
  ·have hall:=hide (HS.out.all (by omega));clear HS
   have hB:=HB.out
   by_cases hp:p=n - 1
   ·by_cases hz:xs.length=0
    ·have z1:((xs.length:Int) == 0)=true:=yQ (by omega)
     have HZ:=hide hz;have HP:=hide hp;have z2:(p == n - 1)=true:=by simp[hp]
     clear hz hp
     go_wp2
     go_ret
     exact⟨yH (yX ⟨hall.out,fun _=>HZ.out,fun h=>absurd HP.out h⟩).symm,HB.out⟩
    ·have z1:((xs.length:Int) == 0)=false:=yP (by omega)
     have HZ:=hide hz;have HP:=hide hp;have z2:(p == n - 1)=true:=by simp[hp]
     clear hz hp
     go_wp2
     go_ret
     exact⟨yH (yW fun h=>HZ.out (h.last HP.out)).symm,HB.out⟩
   ·have z2:(p == n - 1)=false:=by simp[hp]
    have HP:=hide hp;clear hp
    go_wp2_with (first|(go_at_call 89;refine(c_within _ _ _ _).mono ?_;rintro e w' ⟨rfl,rfl⟩)|(go_at_call 168;refine(c_sizeSend _ _ _ _ (by omega)).mono ?_;rintro e w' ⟨rfl,rfl⟩))
    go_ret
    exact⟨yH (by
     by_cases hz:1≤xs.length∧xs.length≤4
     ·rw[yX ⟨hall.out,fun h=>absurd h HP.out,fun _=>hz⟩];exact yZ.2 (by omega)
     ·rw[yW fun h=>hz (h.few HP.out)];exact inB_false.2 (by omega)),HB.out⟩
end Go.Proofs.YtoibekfhepnedaaGreat
end
section
namespace Go.Proofs.YtoibekfhepnedaaGreat
open Go.RowKit Go.WideMaps Go.Maps
theorem c_hasSrc1 (x:GClip) (n:Int) (b:Nat) (w:World) (hb:b<w.heap.size) (hc:w.cell? ⟨b,0,none⟩=some (.int .i64 n)):Calls Tryz.prog 164 #[.agg #[.int .i64 x.zT,.int .i64 x.zH,.int .i64 x.zG,.int .i64 x.zX,.int .i64 x.zR],.pointer (some ⟨b,0,none⟩)] w fun e w'=>e= .returned (.bool (decide (n≤x.zT)))∧Below w.heap.size w w':=by
 have hB:Below w.heap.size w (w.alloc (.cells #[.int .i64 x.zT,.int .i64 x.zH,.int .i64 x.zG,.int .i64 x.zX,.int .i64 x.zR] 39)):=(Below.refl _ _).alloc (Nat.le_refl _) _
 have HB:=hide hB;clear hB
 go_enter Tryz.func164,Tryz.ntmps164
 go_wp2
 go_ret
 exact⟨rfl,HB.out⟩
theorem c_idxSrc (v:Value) (xs:List GClip) (n:Int) (b:Nat) (w:World) (hb:b<w.heap.size) (hcb:w.cell? ⟨b,0,none⟩=some (.int .i64 n)) (hr:T.rd w (T.sl 39 5 (xs.map GClip.t)) [v]):Calls Tryz.prog 220 #[v,.func (.func 164) #[] #[.pointer (some ⟨b,0,none⟩)]] w fun e w'=> ∃ r:Int,e= .returned (.int .i64 r)∧(0≤r↔ ∃ x ∈ xs,n≤x.zT)∧Below w.heap.size w w':=by
 obtain⟨A,cap,rfl,hl,hc,hx⟩:=T.yM hr
 have HX:=hide hx;clear hx hr
 have BB:=hide (And.intro hb hcb);clear hb hcb
 go_enter Tryz.func220,Tryz.ntmps220
 go_wp2
 go_loopw [8] (fun i wr=> ∃ k:Nat,k≤xs.length∧i= .int .i64 k∧Upto xs (fun _ x=>x.zT<n) k∧Below w.heap.size w wr) (fun i _=>xs.length - (intOf i).toNat)
 case atStart=>exact⟨0,Nat.zero_le _,rfl,Upto.zero,Below.refl _ _⟩
 case round=>
  obtain⟨k,hk,rfl,hs,hbw⟩:=hrel
  have HS:=hide hs;have HB:=hide hbw;clear hs hbw
  by_cases hlt:k<xs.length
  ·have hgk:=List.getElem?_eq_getElem hlt
   obtain⟨b1,off,cs,rfl,hb1,hcs,hcell⟩:=HX.out k xs[k] hgk
   generalize xs[k]=x at *
   have HG:=hide hgk;clear hgk
   obtain rfl:=GClip.yN (show T.rds _ _ _ by simpa only[GClip.t,T.rd] using hcs)
   have d0:=(HB.out.cell hb1).trans (hcell 0 (.int .i64 x.zT) rfl)
   have d1:=(HB.out.cell hb1).trans (hcell 1 (.int .i64 x.zH) rfl)
   have d2:=(HB.out.cell hb1).trans (hcell 2 (.int .i64 x.zG) rfl)
   have d3:=(HB.out.cell hb1).trans (hcell 3 (.int .i64 x.zX) rfl)
   have d4:=(HB.out.cell hb1).trans (hcell 4 (.int .i64 x.zR) rfl)
   rw[show off+(k * 5+0)=off+k * 5 by omega] at d0
   rw[show off+(k * 5+1)=off+k * 5+1 by omega] at d1
   rw[show off+(k * 5+2)=off+k * 5+2 by omega] at d2
   rw[show off+(k * 5+3)=off+k * 5+3 by omega] at d3
   rw[show off+(k * 5+4)=off+k * 5+4 by omega] at d4
   clear hcs hcell
   by_cases hq:n≤x.zT
   ·have hd:decide (n≤x.zT)=true:=decide_eq_true hq
    have HQ:=hide hq;clear hq
    go_wp2_with (go_at_call 164;refine(c_hasSrc1 x n b _ (Nat.lt_of_lt_of_le BB.out.1 HB.out.size) ((HB.out.cell BB.out.1).trans BB.out.2)).mono ?_;rintro e w3 ⟨rfl,hb3⟩;rw[hd])
    have HB3:=hide (yI HB.out HB.out.size hb3);clear hb3
    go_wp2
    go_ret
    exact⟨_,rfl,⟨fun _=>⟨x,List.mem_of_getElem? HG.out,HQ.out⟩,fun _=>by omega⟩,HB3.out⟩
   ·have hd:decide (n≤x.zT)=false:=decide_eq_false hq
    have HQ:=hide hq;clear hq
    go_wp2_with (go_at_call 164;refine(c_hasSrc1 x n b _ (Nat.lt_of_lt_of_le BB.out.1 HB.out.size) ((HB.out.cell BB.out.1).trans BB.out.2)).mono ?_;rintro e w3 ⟨rfl,hb3⟩;rw[hd])
    have HB3:=hide (yI HB.out HB.out.size hb3);clear hb3
    go_wp2
    go_roundw
    case rel=>exact⟨k+1,by omega,by go_num,HS.out.step HG.out (by have:=HQ.out;omega),HB3.out⟩
    case measure=>simp[intOf];omega
  ·have hall:=hide (HS.out.all (by omega));clear HS
   go_wp2
   go_ret
   exact⟨-1,rfl,⟨fun h=>absurd h (by omega),fun⟨x,hx,hp⟩=>by
    obtain⟨i,hi,rfl⟩:=List.mem_iff_getElem.1 hx
    have:=hall.out i _ (List.getElem?_eq_getElem hi);omega⟩,HB.out⟩
theorem c_anySrc (v:Value) (xs:List GClip) (n:Int) (b:Nat) (w:World) (hb:b<w.heap.size) (hcb:w.cell? ⟨b,0,none⟩=some (.int .i64 n)) (hr:T.rd w (T.sl 39 5 (xs.map GClip.t)) [v]):Calls Tryz.prog 163 #[v,.func (.func 164) #[] #[.pointer (some ⟨b,0,none⟩)]] w fun e w'=>e= .returned (.bool (tf (∃ x ∈ xs,n≤x.zT)))∧Below w.heap.size w w':=by
 have HR:=hide hr;have BB:=hide (And.intro hb hcb);clear hb hcb
 obtain⟨A,cap,rfl,hl,hc,hx⟩:=T.yM hr
 clear hx hr
 go_enter Tryz.func163,Tryz.ntmps163
 go_wp2_with (go_at_call 220;refine(c_idxSrc _ xs n b _ BB.out.1 BB.out.2 HR.out).mono ?_;rintro e w3 ⟨r,rfl,hiff,hb3⟩;have HI:=hide hiff;have H3:=hide hb3;clear hiff hb3)
 go_ret
 exact⟨yH (by rw[←tf_dec];exact tf_iff HI.out),H3.out⟩
theorem c_hasSources (x:GTrack) (cs:List Value) (n:Int) (w:World) (h:T.rds w x.fs cs):Calls Tryz.prog 108 #[.agg cs.toArray,.int .i64 n] w fun e w'=>e= .returned (.bool (tf (∀ c ∈ x.zQ,c.zT<n)))∧Below w.heap.size w w':=by
 obtain⟨v0,rfl,h0⟩:=GTrack.yN h
 clear h
 have R0:=hide h0;obtain⟨va0,vc0,rfl,vl0,vm0,vx0⟩:=T.yM h0
 have HX0:=hide vx0;clear vx0 h0
 have HB0:=hide (show Below w.heap.size w (w.alloc (.cells #[(.slice va0 x.zQ.length vc0)] 96)) from(Below.refl _ _).alloc (Nat.le_refl _) _)
 have HK0:=hide (Bk.born w 96 #[(.slice va0 x.zQ.length vc0)])
 have hmf: ∀ (fn:Fn) (first cap:Array Value) (w:World),(Instr.makeFunc fn first cap).run Tryz.prog w= .ok (.func fn first cap) w:=fun _ _ _ _=>by simp[go_sem,Instr.makeFunc]
 have hb1:Below w.heap.size w ((w.alloc (.cells #[(.slice va0 x.zQ.length vc0)] 96)).alloc (.cells #[.int .i64 n] 2)):=HB0.out.alloc (by simp) _
 have H1:=hide hb1;clear hb1
 have hsz1:((w.alloc (.cells #[(.slice va0 x.zQ.length vc0)] 96)).alloc (.cells #[.int .i64 n] 2)).heap.size=w.heap.size+2:=by simp
 have Hsz:=hide hsz1;clear hsz1
 go_enter Tryz.func108,Tryz.ntmps108
 go_wp2_with (go_at_call 163;refine(c_anySrc _ x.zQ n (w.heap.size+1) _ (by rw[Hsz.out];omega) (by simp) (T.yE R0.out H1.out)).mono ?_;rintro e w3 ⟨rfl,hb3⟩;have H3:=hide (yI H1.out (by rw[Hsz.out];omega) hb3);clear hb3)
 go_ret
 exact⟨yH (by
  by_cases hc: ∃ c ∈ x.zQ,n≤c.zT
  ·rw[yX hc,yW (fun h=>by obtain⟨c,hc1,hc2⟩:=hc;have:=h c hc1;omega)];rfl
  ·rw[yW hc,yX (fun c h=>Int.not_le.1 fun k=>hc ⟨c,h,k⟩)];rfl),H3.out⟩
theorem c_isTrack (x:GTrack) (cs:List Value) (w:World) (h:T.rds w x.fs cs):Calls Tryz.prog 107 #[.agg cs.toArray] w fun e w'=>e= .returned (.bool (tf (TrackOk x)))∧Below w.heap.size w w':=by
 obtain⟨v0,rfl,h0⟩:=GTrack.yN h
 clear h
 have R0:=hide h0;obtain⟨va0,vc0,rfl,vl0,vm0,vx0⟩:=T.yM h0
 have HX0:=hide vx0;clear vx0 h0
 have HB0:=hide (show Below w.heap.size w (w.alloc (.cells #[(.slice va0 x.zQ.length vc0)] 96)) from(Below.refl _ _).alloc (Nat.le_refl _) _)
 have HK0:=hide (Bk.born w 96 #[(.slice va0 x.zQ.length vc0)])
 go_enter Tryz.func107,Tryz.ntmps107
 go_wp2
 go_loopw [8] (fun i wr=> ∃ k:Nat,k≤x.zQ.length∧i= .int .i64 k∧Upto x.zQ (fun i c=>ClipOk c∧ ∀ p,0<i→x.zQ[i - 1]?=some p→p.zX≤c.zX) k∧Below (w.alloc (.cells #[(.slice va0 x.zQ.length vc0)] 96)).heap.size (w.alloc (.cells #[(.slice va0 x.zQ.length vc0)] 96)) wr) (fun i _=>x.zQ.length - (intOf i).toNat)
 case atStart=>exact⟨0,Nat.zero_le _,rfl,Upto.zero,Below.refl _ _⟩
 case round=>
  obtain⟨k,hk,rfl,hs,hbw⟩:=hrel
  have HS:=hide hs;have HW:=hide hbw;have HB:=hide (yI HB0.out HB0.out.size hbw);have HK:=hide (HK0.out.below hbw HK0.out.lt);clear hs hbw
  have ka:=HK.out.cell;have la:=HK.out.lt
  by_cases hlt:k<x.zQ.length
  rotate_left
  ·have hall:=hide (HS.out.all (by omega));clear HS
   by_cases h12:x.zQ.length≤12
   ·go_wp2
    go_ret
    exact⟨yH (by rw[yX ⟨hall.out,h12⟩];exact decide_eq_true (by omega)),HB.out⟩
   ·go_wp2
    go_ret
    exact⟨yH (by rw[yW fun h=>h12 h.few];exact decide_eq_false (by omega)),HB.out⟩
  have hgk:=List.getElem?_eq_getElem hlt
  obtain⟨b1,off,cs1,hA,hb1,hcs,hcell⟩:=HX0.out k x.zQ[k] hgk
  subst hA
  generalize x.zQ[k]=y at *
  have HG:=hide hgk;clear hgk
  obtain rfl:=GClip.yN (show T.rds _ _ _ by simpa only[GClip.t,T.rd] using hcs)
  have d0:=(HB.out.cell hb1).trans (hcell 0 (.int .i64 y.zT) rfl)
  have d1:=(HB.out.cell hb1).trans (hcell 1 (.int .i64 y.zH) rfl)
  have d2:=(HB.out.cell hb1).trans (hcell 2 (.int .i64 y.zG) rfl)
  have d3:=(HB.out.cell hb1).trans (hcell 3 (.int .i64 y.zX) rfl)
  have d4:=(HB.out.cell hb1).trans (hcell 4 (.int .i64 y.zR) rfl)
  rw[show off+(k * 5+0)=off+k * 5 by omega] at d0
  rw[show off+(k * 5+1)=off+k * 5+1 by omega] at d1
  rw[show off+(k * 5+2)=off+k * 5+2 by omega] at d2
  rw[show off+(k * 5+3)=off+k * 5+3 by omega] at d3
  rw[show off+(k * 5+4)=off+k * 5+4 by omega] at d4
  clear hcs hcell
  have hq1:b1<wr.heap.size:=Nat.lt_of_lt_of_le hb1 HB.out.size
  have hT0:= @GClip.rd_mk
  clear hT0
  by_cases hk0:k=0
  ·have g0':decide (0<k)=false:=decide_eq_false (by omega)
   have K0:=hide hk0;clear hk0
   by_cases q1:ClipOk y
   ·have a1:=yX q1
    have Q1:=hide q1;clear q1
    have hWb:Below wr.heap.size wr (wr.alloc (.cells #[.int .i64 y.zT,.int .i64 y.zH,.int .i64 y.zG,.int .i64 y.zX,.int .i64 y.zR] 39)):=(Below.refl _ _).alloc (Nat.le_refl _) _
    have hNb:=Bk.born wr 39 #[.int .i64 y.zT,.int .i64 y.zH,.int .i64 y.zG,.int .i64 y.zX,.int .i64 y.zR]
    go_wp2
    generalize wr.alloc (.cells #[.int .i64 y.zT,.int .i64 y.zH,.int .i64 y.zG,.int .i64 y.zX,.int .i64 y.zR] 39)=W at *
    have HWb:=hide hWb;have HNb:=hide hNb;have HKW:=hide (HK.out.below hWb HK.out.lt)
    have g0:=xB hNb;have g1:=xB HKW.out
    clear hWb hNb
    refine xA (by kernel_rfl) (by kernel_rfl) ?_
    repeat(first|go_big_quiet_skip|(go_big_quiet_want;go_big_quiet_op;first|go_big_quiet_on|(apply Exists.intro;refine⟨fun _=>?_,?_⟩;(· (go_at_call 162;exact Calls.yK ((c_isClip y _ _ GClip.rd_mk).mono (fun e w' h=>by rw[a1] at h;exact h))));go_big_quiet_on)))
    refine wpQuiet_nil ?_
    rintro w9 ⟨uu,rfl⟩
    have hb9:=yG W uu
    generalize bel W uu=w9 at *
    have HC:=hide (yI HWb.out HWb.out.size hb9);have HC2:=hide (yI HB.out HB.out.size HC.out);have HC3:=hide (yI HW.out HW.out.size HC.out)
    clear hb9 g0 g1
    go_wp2
    go_roundw
    case rel=>exact⟨k+1,by omega,by go_num,HS.out.step HG.out ⟨Q1.out,fun p h=>by have:=K0.out;omega⟩,HC3.out⟩
    case measure=>simp[intOf];omega
   ·have a1:=yW q1
    have Q1:=hide q1;clear q1
    have hWb:Below wr.heap.size wr (wr.alloc (.cells #[.int .i64 y.zT,.int .i64 y.zH,.int .i64 y.zG,.int .i64 y.zX,.int .i64 y.zR] 39)):=(Below.refl _ _).alloc (Nat.le_refl _) _
    have hNb:=Bk.born wr 39 #[.int .i64 y.zT,.int .i64 y.zH,.int .i64 y.zG,.int .i64 y.zX,.int .i64 y.zR]
    go_wp2
    generalize wr.alloc (.cells #[.int .i64 y.zT,.int .i64 y.zH,.int .i64 y.zG,.int .i64 y.zX,.int .i64 y.zR] 39)=W at *
    have HWb:=hide hWb;have HNb:=hide hNb;have HKW:=hide (HK.out.below hWb HK.out.lt)
    have g0:=xB hNb;have g1:=xB HKW.out
    clear hWb hNb
    refine xA (by kernel_rfl) (by kernel_rfl) ?_
    repeat(first|go_big_quiet_skip|(go_big_quiet_want;go_big_quiet_op;first|go_big_quiet_on|(apply Exists.intro;refine⟨fun _=>?_,?_⟩;(· (go_at_call 162;exact Calls.yK ((c_isClip y _ _ GClip.rd_mk).mono (fun e w' h=>by rw[a1] at h;exact h))));go_big_quiet_on)))
    refine wpQuiet_nil ?_
    rintro w9 ⟨uu,rfl⟩
    have hb9:=yG W uu
    generalize bel W uu=w9 at *
    have HC:=hide (yI HWb.out HWb.out.size hb9);have HC2:=hide (yI HB.out HB.out.size HC.out);have HC3:=hide (yI HW.out HW.out.size HC.out)
    clear hb9 g0 g1
    go_wp2
    go_ret
    exact⟨yH (yW fun h=>Q1.out (h.clips k y HG.out).1).symm,HC2.out⟩
  obtain⟨j,rfl⟩: ∃ j,k=j+1:=⟨k - 1,by omega⟩
  clear hk0
  have hlj:j<x.zQ.length:=by omega
  have hgj:=List.getElem?_eq_getElem hlj
  obtain⟨b2,off2,cs2,hA,hb2,hcs,hcell⟩:=HX0.out j x.zQ[j] hgj
  obtain⟨rfl,rfl⟩:b1=b2∧off=off2:=by injection hA with hA;injection hA with e1 e2;exact⟨e1,e2⟩
  clear hA
  generalize x.zQ[j]=z at *
  have HJ:=hide hgj;clear hgj
  obtain rfl:=GClip.yN (show T.rds _ _ _ by simpa only[GClip.t,T.rd] using hcs)
  have g0:=(HB.out.cell hb2).trans (hcell 0 (.int .i64 z.zT) rfl)
  have g1:=(HB.out.cell hb2).trans (hcell 1 (.int .i64 z.zH) rfl)
  have g2:=(HB.out.cell hb2).trans (hcell 2 (.int .i64 z.zG) rfl)
  have g3:=(HB.out.cell hb2).trans (hcell 3 (.int .i64 z.zX) rfl)
  have g4:=(HB.out.cell hb2).trans (hcell 4 (.int .i64 z.zR) rfl)
  rw[show off+(j * 5+0)=off+j * 5 by omega] at g0
  rw[show off+(j * 5+1)=off+j * 5+1 by omega] at g1
  rw[show off+(j * 5+2)=off+j * 5+2 by omega] at g2
  rw[show off+(j * 5+3)=off+j * 5+3 by omega] at g3
  rw[show off+(j * 5+4)=off+j * 5+4 by omega] at g4
  clear hcs hcell
  have G3:=hide g3;clear g0 g1 g2 g3 g4
  have n1:((j:Int)<(x.zQ.length:Int)):=by omega
  have e1:IntKind.i64.wrap ((j:Int)+1 - 1)=(j:Int):=by rw[IntWalk.i64_in _ (by omega)];omega
  have e2:IntKind.i64.wrap (j:Int)=(j:Int):=IntWalk.i64_in _ (by omega)
  have n0:(0:Int)≤(j:Int):=by omega
  by_cases q1:ClipOk y
  rotate_left
  ·have a1:=yW q1
   have Q1:=hide q1;clear q1
   have hWb:Below wr.heap.size wr (wr.alloc (.cells #[.int .i64 y.zT,.int .i64 y.zH,.int .i64 y.zG,.int .i64 y.zX,.int .i64 y.zR] 39)):=(Below.refl _ _).alloc (Nat.le_refl _) _
   have hNb:=Bk.born wr 39 #[.int .i64 y.zT,.int .i64 y.zH,.int .i64 y.zG,.int .i64 y.zX,.int .i64 y.zR]
   go_wp2
   generalize wr.alloc (.cells #[.int .i64 y.zT,.int .i64 y.zH,.int .i64 y.zG,.int .i64 y.zX,.int .i64 y.zR] 39)=W at *
   have HWb:=hide hWb;have HNb:=hide hNb;have HKW:=hide (HK.out.below hWb HK.out.lt)
   have g0:=xB hNb;have g1:=xB HKW.out
   have g2:=yF ((hWb.cell (World.block_lt_of_cell? wr _ G3.out)).trans G3.out)
   clear hWb hNb
   refine xA (by kernel_rfl) (by kernel_rfl) ?_
   repeat(first|go_big_quiet_skip|(go_big_quiet_want;go_big_quiet_op;first|go_big_quiet_on|(apply Exists.intro;refine⟨fun _=>?_,?_⟩;(· (go_at_call 162;exact Calls.yK ((c_isClip y _ _ GClip.rd_mk).mono (fun e w' h=>by rw[a1] at h;exact h))));go_big_quiet_on)))
   refine wpQuiet_nil ?_
   rintro w9 ⟨uu,rfl⟩
   have hb9:=yG W uu
   generalize bel W uu=w9 at *
   have HC:=hide (yI HWb.out HWb.out.size hb9);have HC2:=hide (yI HB.out HB.out.size HC.out);have HC3:=hide (yI HW.out HW.out.size HC.out)
   clear hb9 g0 g1 g2
   go_wp2
   go_ret
   exact⟨yH (yW fun h=>Q1.out (h.clips (j+1) y HG.out).1).symm,HC2.out⟩
  have a1:=yX q1
  have Q1:=hide q1;clear q1
  by_cases q2:y.zX<z.zX
  ·have Q2:=hide q2
   have hWb:Below wr.heap.size wr (wr.alloc (.cells #[.int .i64 y.zT,.int .i64 y.zH,.int .i64 y.zG,.int .i64 y.zX,.int .i64 y.zR] 39)):=(Below.refl _ _).alloc (Nat.le_refl _) _
   have hNb:=Bk.born wr 39 #[.int .i64 y.zT,.int .i64 y.zH,.int .i64 y.zG,.int .i64 y.zX,.int .i64 y.zR]
   go_wp2
   generalize wr.alloc (.cells #[.int .i64 y.zT,.int .i64 y.zH,.int .i64 y.zG,.int .i64 y.zX,.int .i64 y.zR] 39)=W at *
   have HWb:=hide hWb;have HNb:=hide hNb;have HKW:=hide (HK.out.below hWb HK.out.lt)
   have g0:=xB hNb;have g1:=xB HKW.out
   have g2:=yF ((hWb.cell (World.block_lt_of_cell? wr _ G3.out)).trans G3.out)
   clear hWb hNb
   refine xA (by kernel_rfl) (by kernel_rfl) ?_
   repeat(first|go_big_quiet_skip|(go_big_quiet_want;go_big_quiet_op;first|go_big_quiet_on|(apply Exists.intro;refine⟨fun _=>?_,?_⟩;(· (go_at_call 162;exact Calls.yK ((c_isClip y _ _ GClip.rd_mk).mono (fun e w' h=>by rw[a1] at h;exact h))));go_big_quiet_on)))
   refine wpQuiet_nil ?_
   rintro w9 ⟨uu,rfl⟩
   have hb9:=yG W uu
   generalize bel W uu=w9 at *
   have HC:=hide (yI HWb.out HWb.out.size hb9);have HC2:=hide (yI HB.out HB.out.size HC.out);have HC3:=hide (yI HW.out HW.out.size HC.out)
   clear hb9 g0 g1 g2
   go_wp2
   go_ret
   exact⟨yH (yW fun h=>by have:=(h.clips (j+1) y HG.out).2 z (by omega) HJ.out;have:=Q2.out;omega).symm,HC2.out⟩
  have hWb:Below wr.heap.size wr (wr.alloc (.cells #[.int .i64 y.zT,.int .i64 y.zH,.int .i64 y.zG,.int .i64 y.zX,.int .i64 y.zR] 39)):=(Below.refl _ _).alloc (Nat.le_refl _) _
  have hNb:=Bk.born wr 39 #[.int .i64 y.zT,.int .i64 y.zH,.int .i64 y.zG,.int .i64 y.zX,.int .i64 y.zR]
  go_wp2
  generalize wr.alloc (.cells #[.int .i64 y.zT,.int .i64 y.zH,.int .i64 y.zG,.int .i64 y.zX,.int .i64 y.zR] 39)=W at *
  have HWb:=hide hWb;have HNb:=hide hNb;have HKW:=hide (HK.out.below hWb HK.out.lt)
  have g0:=xB hNb;have g1:=xB HKW.out
  have g2:=yF ((hWb.cell (World.block_lt_of_cell? wr _ G3.out)).trans G3.out)
  clear hWb hNb
  refine xA (by kernel_rfl) (by kernel_rfl) ?_
  repeat(first|go_big_quiet_skip|(go_big_quiet_want;go_big_quiet_op;first|go_big_quiet_on|(apply Exists.intro;refine⟨fun _=>?_,?_⟩;(· (go_at_call 162;exact Calls.yK ((c_isClip y _ _ GClip.rd_mk).mono (fun e w' h=>by rw[a1] at h;exact h))));go_big_quiet_on)))
  refine wpQuiet_nil ?_
  rintro w9 ⟨uu,rfl⟩
  have hb9:=yG W uu
  generalize bel W uu=w9 at *
  have HC:=hide (yI HWb.out HWb.out.size hb9);have HC2:=hide (yI HB.out HB.out.size HC.out);have HC3:=hide (yI HW.out HW.out.size HC.out)
  clear hb9 g0 g1 g2
  go_wp2
  go_roundw
  case rel=>exact⟨j+1+1,by omega,by go_num,HS.out.step HG.out ⟨Q1.out,fun p _ hp=>by rw[Nat.add_sub_cancel,HJ.out] at hp;injection hp with hp;subst hp;omega⟩,HC3.out⟩
  case measure=>simp[intOf];omega
end Go.Proofs.YtoibekfhepnedaaGreat
end
