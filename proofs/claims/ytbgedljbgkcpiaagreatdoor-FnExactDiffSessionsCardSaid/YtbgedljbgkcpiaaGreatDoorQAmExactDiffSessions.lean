/- Words: a slice of elements opened; a struct behind a pointer. Contracts: what is valid, by the program: lists, clips, names, sends. Contracts: check values, two bytes, the head of a store. Contracts: what is valid, by the program: names, sends, mixers, tracks. -/
import Derived.Test.YtbgedljbgkcpiaaGreatDoorQAkExactDiffSessions
import Derived.Test.YtbgedljbgkcpiaaGreatDoorQAaExactDiffSessions
import Derived.Test.YtbgedljbgkcpiaaGreatDoorQAfExactDiffSessions
import Derived.Deep.RegionHeld3
import Derived.Deep.RegionWith
import Derived.Maps.Own
set_option linter.unusedVariables false
set_option linter.unusedSimpArgs false
set_option maxHeartbeats 2000000
set_option maxRecDepth 20000
section
namespace Go.Proofs.YtbgedljbgkcpiaaGreatDoor
open Go.RowKit
theorem T.yL {w:World} {E:TypeId} {sz:Nat} {α:Type} {tr:α→T} {xs:List α} {v:Value} (h:T.rd w (.sl E sz (xs.map tr)) [v]):
  ∃ A cap,v= .slice A xs.length cap∧xs.length≤cap∧cap≤9223372036854775807∧
   (∀ k x,xs[k]?=some x→ ∃ b off cs,A=some ⟨b,off,none⟩∧b<w.heap.size∧T.rd w (tr x) cs∧ ∀ j u,cs[j]?=some u→w.cell? ⟨b,off+(k * sz+j),none⟩=some u):=by
 obtain⟨A,cap,hv,h1,h2,h3⟩:=T.yM h
 rw[List.length_map] at hv h1
 exact⟨A,cap,hv,h1,h2,fun k x hk=>h3 k (tr x) (by rw[List.getElem?_map,hk];rfl)⟩
theorem T.rds_below' {w w':World} {x:List T} {cs:List Value} (h:T.rds w x cs) (hb:Below w.heap.size w w'):T.rds w' x cs:=T.rds_keep hb.size hb.block x cs h
/-- The struct's cells lie from place o of block b on. -/
def T.at (w:World) (fs:List T) (b o:Nat):Prop:=b<w.heap.size∧ ∃ cs,T.rds w fs cs∧ ∀ j u,cs[j]?=some u→w.cell? ⟨b,o+j,none⟩=some u
theorem T.at_below {w w':World} {fs:List T} {b o:Nat} (h:T.at w fs b o) (hb:Below w.heap.size w w'):T.at w' fs b o:=by
 obtain⟨h1,cs,h2,h3⟩:=h
 exact⟨Nat.lt_of_lt_of_le h1 hb.size,cs,T.rds_below' h2 hb,fun j u hj=>(hb.cell h1).trans (h3 j u hj)⟩
/-- An element of a slice, as a struct behind a pointer. -/
theorem T.at_elem {w:World} {fs:List T} {b off k sz o:Nat} {cs:List Value} (hb:b<w.heap.size) (h:T.rds w fs cs) (hc: ∀ j u,cs[j]?=some u→w.cell? ⟨b,off+(k * sz+j),none⟩=some u) (ho:o=off+k * sz):T.at w fs b o:=
 ⟨hb,cs,h,fun j u hj=>by rw[ho,Nat.add_assoc];exact hc j u hj⟩
/-- A block known whole, as a struct behind a pointer. -/
theorem T.at_bk {w:World} {fs:List T} {b:Nat} {t:TypeId} {cs:List Value} (hk:Bk w b t cs.toArray) (h:T.rds w fs cs):T.at w fs b 0:=
 ⟨hk.lt,cs,h,fun j u hj=>by rw[Nat.zero_add,hk.cell j];simpa using hj⟩
theorem yO {a b:Int} (h:a≠b):(a == b)=false:=beq_false_of_ne h
theorem yP {a b:Int} (h:a=b):(a == b)=true:=by simp[h]
theorem bneI_t {a b:Int} (h:a≠b):(a != b)=true:=by simp[h]
theorem bneI_f {a b:Int} (h:a=b):(a != b)=false:=by simp[h]
/-- Any world in which what lies in W still lies as it did. -/
noncomputable def bel (W u:World):World:= @ite _ (Below W.heap.size W u) (Classical.propDecidable _) u W
theorem yF (W u:World):Below W.heap.size W (bel W u):=by
 unfold bel
 split
 ·assumption
 ·exact Below.refl _ _
theorem bel_of {W u:World} (h:Below W.heap.size W u):u=bel W u:=by
 unfold bel
 rw[if_pos h]
theorem yE {W:World} {b o:Nat} {v:Value} (h:W.cell? ⟨b,o,none⟩=some v): ∀ u,(bel W u).cell? ⟨b,o,none⟩=some v:=fun u=>
 ((yF W u).cell (World.block_lt_of_cell? W _ h)).trans h
theorem yZ {W:World} {g:Nat} {t:TypeId} {cs:Array Value} (h:Bk W g t cs): ∀ u i,(bel W u).cell? ⟨g,i,none⟩=cs[i]?:=fun u i=>
 (h.below (yF W u) h.lt).cell i
/-- A region that draws its order, whose operations and calls leave what was there as it was: one walk in the order of the text. -/
theorem yY {P:Program} {id:Nat} {Q:Exit→Act→World→Prop} {a:Act} {w:World} {l:List Oper} (hm:P.follows .mixedOrders=true) (hB:Region.lexB .any l.toArray=true)
  (h:wpQuiet P l.toArray (fun w'=> ∃ u,w'=bel w u) (fun a'=> ∀ w',(∃ u,w'=bel w u)→Q .normal a' w') l a):(Code.region id l.toArray true).wp P Q a w:=
 wp_region_quiet (C:=fun w'=> ∃ u,w'=bel w u) hm hB ⟨_,bel_of ⟨rfl,rfl,rfl,Nat.le_refl _,fun _ _=>rfl⟩⟩ (by simpa using h)
theorem Calls.yJ {P:Program} {f:FuncId} {args:Array Value} {w u:World} {v:Value}
  (h:Calls P f args (bel w u) fun e w'=>e= .returned v∧Below (bel w u).heap.size (bel w u) w'):Calls P f args (bel w u) fun e w''=>e= .returned v∧ ∃ m,w''=bel w m:=
 h.mono fun _ w' ⟨he,hb⟩=>⟨he,w',bel_of (yH (yF w u) (yF w u).size hb)⟩
theorem Calls.yI {P:Program} {f:FuncId} {args:Array Value} {w u:World} {v:Value}
  (h:Calls P f args (bel w u) fun e w'=>e= .returned v∧bel w u=w'):Calls P f args (bel w u) fun e w''=>e= .returned v∧ ∃ m,w''=bel w m:=
 h.mono fun _ w' ⟨he,hb⟩=>⟨he,u,hb.symm⟩
end Go.Proofs.YtbgedljbgkcpiaaGreatDoor
end
section
namespace Go.Proofs.YtbgedljbgkcpiaaGreatDoor
open Go.RowKit
theorem yX {n a b:Int} :inB n a b=true↔a≤n∧n≤b:=by simp[inB]
theorem inB_not {n a b:Int} (h:inB n a b=false) (k:a≤n∧n≤b):False:=by simp[inB] at h;omega
theorem c_areIndices (v:Value) (xs:List Int) (n:Int) (w:World) (hr:RdI w v xs) (h0:0≤n) (h1:n≤9223372036854775807):Calls Tryz.prog 65 #[v,.int .i64 n] w fun e w'=>e= .returned (.bool (tf (Idx xs n)))∧w=w':=by
 obtain⟨A,cap,rfl,hl,hc,hx⟩:=hr.open_
 have HX:=hide hx;clear hx hr
 go_enter Tryz.func65,Tryz.ntmps65
 go_wp2
 go_loop [9] (fun i=> ∃ k:Nat,k≤xs.length∧i= .int .i64 k∧Upto xs (fun _ x=>0≤x∧x≤n - 1) k) (fun i=>xs.length - (intOf i).toNat)
 case atStart=>exact⟨0,Nat.zero_le _,rfl,Upto.zero⟩
 case round=>
  obtain⟨k,hk,rfl,hs⟩:=hrel
  have HS:=hide hs;clear hs
  by_cases hlt:k<xs.length
  ·have hgk:=List.getElem?_eq_getElem hlt
   obtain⟨b,off,rfl,hb,hcell⟩:=HX.out k xs[k] hgk
   generalize xs[k]=x at *
   have HG:=hide hgk;clear hgk
   by_cases hq:inB x 0 (n - 1)=true
   ·go_wp2_with (go_at_call 62;refine(c_within _ _ _ _).mono ?_;rintro e w' ⟨rfl,rfl⟩)
    go_round
    case rel=>exact⟨k+1,by omega,by go_num,HS.out.step HG.out (yX.1 hq)⟩
    case measure=>simp[intOf];omega
   ·have hq':inB x 0 (n - 1)=false:=by simpa using hq
    clear hq
    go_wp2_with (go_at_call 62;refine(c_within _ _ _ _).mono ?_;rintro e w' ⟨rfl,rfl⟩)
    go_ret
    exact⟨yG (yU (fun hh=>inB_not hq' (hh k x HG.out))).symm,rfl⟩
  ·have hall:=hide (HS.out.all (by omega))
   go_wp2
   go_ret
   exact⟨yG ((yV hall.out).symm),rfl⟩
theorem c_areSignals (v:Value) (xs:List (List Int)) (w:World) (hr:T.rd w (T.sl 24 1 (xs.map (T.ints 2))) [v]):Calls Tryz.prog 103 #[v] w fun e w'=>e= .returned (.bool (tf (Each xs fun _ l=>sigB l=true)))∧w=w':=by
 obtain⟨A,cap,rfl,hl,hc,hx⟩:=T.yL hr
 have HX:=hide hx;clear hx hr
 go_enter Tryz.func103,Tryz.ntmps103
 go_wp2
 go_loop [7] (fun i=> ∃ k:Nat,k≤xs.length∧i= .int .i64 k∧Upto xs (fun _ l=>sigB l=true) k) (fun i=>xs.length - (intOf i).toNat)
 case atStart=>exact⟨0,Nat.zero_le _,rfl,Upto.zero⟩
 case round=>
  obtain⟨k,hk,rfl,hs⟩:=hrel
  have HS:=hide hs;clear hs
  by_cases hlt:k<xs.length
  ·have hgk:=List.getElem?_eq_getElem hlt
   obtain⟨b,off,cs,rfl,hb,hcs,hcell⟩:=HX.out k xs[k] hgk
   generalize xs[k]=l at *
   have HG:=hide hgk;clear hgk
   obtain⟨v3,rfl⟩:=T.rd_one hcs
   have d0:=hcell 0 v3 rfl
   rw[Nat.mul_one,Nat.add_zero] at d0
   have R:=hide (T.yQ.1 hcs);clear hcs hcell
   obtain⟨A3,c3,rfl,l3,m3,x3⟩:=R.out.open_
   clear x3
   by_cases hq:sigB l=true
   ·go_wp2_with (go_at_call 139;refine(c_isSignal _ l _ R.out).mono ?_;rintro e w' ⟨rfl,rfl⟩)
    go_round
    case rel=>exact⟨k+1,by omega,by go_num,HS.out.step HG.out hq⟩
    case measure=>simp[intOf];omega
   ·have hq':sigB l=false:=by simpa using hq
    clear hq
    go_wp2_with (go_at_call 139;refine(c_isSignal _ l _ R.out).mono ?_;rintro e w' ⟨rfl,rfl⟩)
    go_ret
    exact⟨yG (yU (fun hh=>by rw[hh k l HG.out] at hq';exact absurd hq' (by simp))).symm,rfl⟩
  ·have hall:=hide (HS.out.all (by omega));clear HS
   go_wp2
   go_ret
   exact⟨yG (yV hall.out).symm,rfl⟩
theorem c_areSources (v:Value) (xs:List (List Int)) (w:World) (hr:T.rd w (T.sl 24 1 (xs.map (T.ints 2))) [v]):Calls Tryz.prog 63 #[v] w fun e w'=>e= .returned (.bool (tf (SourcesOk xs)))∧w=w':=by
 have R:=hide hr
 obtain⟨A,cap,rfl,hl,hc,hx⟩:=T.yL hr
 clear hx hr
 by_cases h6:xs.length≤6
 ·go_enter Tryz.func63,Tryz.ntmps63
  go_wp2_with (go_at_call 103;refine(c_areSignals _ xs _ R.out).mono ?_;rintro e w' ⟨rfl,rfl⟩)
  go_ret
  exact⟨yG (tf_iff ⟨fun h=>⟨h,h6⟩,fun h=>h.each⟩),rfl⟩
 ·go_enter Tryz.func63,Tryz.ntmps63
  go_wp2
  go_ret
  exact⟨yG (yU fun h=>h6 h.few).symm,rfl⟩
theorem c_areTables (v:Value) (xs:List (List Int)) (w:World) (hr:T.rd w (T.sl 24 1 (xs.map (T.ints 2))) [v]):Calls Tryz.prog 168 #[v] w fun e w'=>e= .returned (.bool (tf (TablesOk xs)))∧w=w':=by
 obtain⟨A,cap,rfl,hl,hc,hx⟩:=T.yL hr
 have HX:=hide hx;clear hx hr
 go_enter Tryz.func168,Tryz.ntmps168
 go_wp2
 go_loop [8] (fun i=> ∃ k:Nat,k≤xs.length∧i= .int .i64 k∧Upto xs (fun _ t=>(t.length=2∨t.length=4∨t.length=8∨t.length=16)∧smpB t=true) k) (fun i=>xs.length - (intOf i).toNat)
 case atStart=>exact⟨0,Nat.zero_le _,rfl,Upto.zero⟩
 case round=>
  obtain⟨k,hk,rfl,hs⟩:=hrel
  have HS:=hide hs;clear hs
  by_cases hlt:k<xs.length
  ·have hgk:=List.getElem?_eq_getElem hlt
   obtain⟨b,off,cs,rfl,hb,hcs,hcell⟩:=HX.out k xs[k] hgk
   generalize xs[k]=l at *
   have HG:=hide hgk;clear hgk
   obtain⟨v3,rfl⟩:=T.rd_one hcs
   have d0:=hcell 0 v3 rfl
   rw[Nat.mul_one,Nat.add_zero] at d0
   have R:=hide (T.yQ.1 hcs);clear hcs hcell
   obtain⟨A3,c3,rfl,l3,m3,x3⟩:=R.out.open_
   clear x3
   by_cases hn:l.length=2∨l.length=4∨l.length=8∨l.length=16
   ·by_cases hq:smpB l=true
    ·rcases hn with hn|hn|hn|hn
     ·skip
      have n2:((l.length:Int) != 2)=false:=by simp;omega
      clear hn
      have hn:l.length=2∨l.length=4∨l.length=8∨l.length=16:=by simp at n2;omega
      have HN:=hide hn;clear hn
      go_wp2_with (go_at_call 166;refine(c_areSamples _ l _ R.out).mono ?_;rintro e w' ⟨rfl,rfl⟩)
      go_round
      case rel=>exact⟨k+1,by omega,by go_num,HS.out.step HG.out ⟨HN.out,hq⟩⟩
      case measure=>simp[intOf];omega
     ·skip
      have n2:((l.length:Int) != 2)=true:=by simp;omega
      have n4:((l.length:Int) != 4)=false:=by simp;omega
      clear hn
      have hn:l.length=2∨l.length=4∨l.length=8∨l.length=16:=by simp at n4;omega
      have HN:=hide hn;clear hn
      go_wp2_with (go_at_call 166;refine(c_areSamples _ l _ R.out).mono ?_;rintro e w' ⟨rfl,rfl⟩)
      go_round
      case rel=>exact⟨k+1,by omega,by go_num,HS.out.step HG.out ⟨HN.out,hq⟩⟩
      case measure=>simp[intOf];omega
     ·skip
      have n2:((l.length:Int) != 2)=true:=by simp;omega
      have n4:((l.length:Int) != 4)=true:=by simp;omega
      have n8:((l.length:Int) != 8)=false:=by simp;omega
      clear hn
      have hn:l.length=2∨l.length=4∨l.length=8∨l.length=16:=by simp at n8;omega
      have HN:=hide hn;clear hn
      go_wp2_with (go_at_call 166;refine(c_areSamples _ l _ R.out).mono ?_;rintro e w' ⟨rfl,rfl⟩)
      go_round
      case rel=>exact⟨k+1,by omega,by go_num,HS.out.step HG.out ⟨HN.out,hq⟩⟩
      case measure=>simp[intOf];omega
     ·skip
      have n2:((l.length:Int) != 2)=true:=by simp;omega
      have n4:((l.length:Int) != 4)=true:=by simp;omega
      have n8:((l.length:Int) != 8)=true:=by simp;omega
      have n16:((l.length:Int) != 16)=false:=by simp;omega
      clear hn
      have hn:l.length=2∨l.length=4∨l.length=8∨l.length=16:=by simp at n16;omega
      have HN:=hide hn;clear hn
      go_wp2_with (go_at_call 166;refine(c_areSamples _ l _ R.out).mono ?_;rintro e w' ⟨rfl,rfl⟩)
      go_round
      case rel=>exact⟨k+1,by omega,by go_num,HS.out.step HG.out ⟨HN.out,hq⟩⟩
      case measure=>simp[intOf];omega
    ·have hq':smpB l=false:=by simpa using hq
     clear hq
     rcases hn with hn|hn|hn|hn
     ·skip
      have n2:((l.length:Int) != 2)=false:=by simp;omega
      clear hn
      go_wp2_with (go_at_call 166;refine(c_areSamples _ l _ R.out).mono ?_;rintro e w' ⟨rfl,rfl⟩)
      go_ret
      exact⟨yG (yU (fun hh=>by rw[(hh.each k l HG.out).2] at hq';exact absurd hq' (by simp))).symm,rfl⟩
     ·skip
      have n2:((l.length:Int) != 2)=true:=by simp;omega
      have n4:((l.length:Int) != 4)=false:=by simp;omega
      clear hn
      go_wp2_with (go_at_call 166;refine(c_areSamples _ l _ R.out).mono ?_;rintro e w' ⟨rfl,rfl⟩)
      go_ret
      exact⟨yG (yU (fun hh=>by rw[(hh.each k l HG.out).2] at hq';exact absurd hq' (by simp))).symm,rfl⟩
     ·skip
      have n2:((l.length:Int) != 2)=true:=by simp;omega
      have n4:((l.length:Int) != 4)=true:=by simp;omega
      have n8:((l.length:Int) != 8)=false:=by simp;omega
      clear hn
      go_wp2_with (go_at_call 166;refine(c_areSamples _ l _ R.out).mono ?_;rintro e w' ⟨rfl,rfl⟩)
      go_ret
      exact⟨yG (yU (fun hh=>by rw[(hh.each k l HG.out).2] at hq';exact absurd hq' (by simp))).symm,rfl⟩
     ·skip
      have n2:((l.length:Int) != 2)=true:=by simp;omega
      have n4:((l.length:Int) != 4)=true:=by simp;omega
      have n8:((l.length:Int) != 8)=true:=by simp;omega
      have n16:((l.length:Int) != 16)=false:=by simp;omega
      clear hn
      go_wp2_with (go_at_call 166;refine(c_areSamples _ l _ R.out).mono ?_;rintro e w' ⟨rfl,rfl⟩)
      go_ret
      exact⟨yG (yU (fun hh=>by rw[(hh.each k l HG.out).2] at hq';exact absurd hq' (by simp))).symm,rfl⟩
   ·have n2:((l.length:Int) != 2)=true:=by simp;omega
    have n4:((l.length:Int) != 4)=true:=by simp;omega
    have n8:((l.length:Int) != 8)=true:=by simp;omega
    have n16:((l.length:Int) != 16)=true:=by simp;omega
    go_wp2
    go_ret
    exact⟨yG (yU (fun hh=>hn (hh.each k l HG.out).1)).symm,rfl⟩
  ·have hall:=hide (HS.out.all (by omega));clear HS
   by_cases h4:xs.length≤4
   ·go_wp2
    go_ret
    exact⟨yG (by rw[yV ⟨hall.out,h4⟩];simp;omega),rfl⟩
   ·go_wp2
    go_ret
    exact⟨yG (by rw[yU fun h=>h4 h.few];simp;omega),rfl⟩
theorem c_isClip (x:GClip) (cs:List Value) (w:World) (h:T.rds w x.fs cs):Calls Tryz.prog 106 #[.agg cs.toArray] w fun e w'=>e= .returned (.bool (tf (ClipOk x)))∧Below w.heap.size w w':=by
 obtain rfl:=GClip.yM h
 clear h
 have HB0:=hide (show Below w.heap.size w (w.alloc (.cells #[.int .i64 x.zS,.int .i64 x.zG,.int .i64 x.zE,.int .i64 x.yB,.int .i64 x.zQ] 107)) from(Below.refl _ _).alloc (Nat.le_refl _) _)
 have HK0:=hide (Bk.born w 107 #[.int .i64 x.zS,.int .i64 x.zG,.int .i64 x.zE,.int .i64 x.yB,.int .i64 x.zQ])
 go_enter Tryz.func106,Tryz.ntmps106
 by_cases h1:inB x.zS 0 5=true
 rotate_left
 ·have hq:inB x.zS 0 5=false:=by simpa using h1
  go_wp2_with (go_at_call 62;refine(c_within _ _ _ _).mono ?_;rintro e w' ⟨rfl,rfl⟩)
  go_ret
  exact⟨yG (yU fun hh=>by exact h1 hh.source).symm,HB0.out⟩
 by_cases h2:inB x.zE 1 4000=true
 rotate_left
 ·have hq:inB x.zE 1 4000=false:=by simpa using h2
  go_wp2_with (go_at_call 62;refine(c_within _ _ _ _).mono ?_;rintro e w' ⟨rfl,rfl⟩)
  go_ret
  exact⟨yG (yU fun hh=>by exact h2 hh.length).symm,HB0.out⟩
 have hb:=yX.1 h2
 by_cases h3:inB x.zG 0 (4000 - x.zE)=true
 rotate_left
 ·have hq:inB x.zG 0 (4000 - x.zE)=false:=by simpa using h3
  go_wp2_with (go_at_call 62;refine(c_within _ _ _ _).mono ?_;rintro e w' ⟨rfl,rfl⟩)
  go_ret
  exact⟨yG (yU fun hh=>by exact h3 hh.from_).symm,HB0.out⟩
 by_cases h4:inB x.yB 0 (4000 - x.zE)=true
 rotate_left
 ·have hq:inB x.yB 0 (4000 - x.zE)=false:=by simpa using h4
  go_wp2_with (go_at_call 62;refine(c_within _ _ _ _).mono ?_;rintro e w' ⟨rfl,rfl⟩)
  go_ret
  exact⟨yG (yU fun hh=>by exact h4 hh.at_).symm,HB0.out⟩
 by_cases h5:Smp x.zQ
 rotate_left
 ·have hq:decide (Smp x.zQ)=false:=by simpa using h5
  go_wp2_with (first|(go_at_call 62;refine(c_within _ _ _ _).mono ?_;rintro e w' ⟨rfl,rfl⟩)|(go_at_call 140;refine(c_isSample _ _).mono ?_;rintro e w' ⟨rfl,rfl⟩))
  go_ret
  exact⟨yG (yU fun hh=>by exact h5 hh.gain).symm,HB0.out⟩
 have hq:decide (Smp x.zQ)=true:=by simpa using h5
 go_wp2_with (first|(go_at_call 62;refine(c_within _ _ _ _).mono ?_;rintro e w' ⟨rfl,rfl⟩)|(go_at_call 140;refine(c_isSample _ _).mono ?_;rintro e w' ⟨rfl,rfl⟩))
 go_ret
 exact⟨yG (by rw[yV ⟨h1,h2,h3,h4,h5⟩]),HB0.out⟩
end Go.Proofs.YtbgedljbgkcpiaaGreatDoor
end
section
namespace Go.Proofs.YtbgedljbgkcpiaaGreatDoor
open Go.RowKit
end Go.Proofs.YtbgedljbgkcpiaaGreatDoor
end
section
namespace Go.Proofs.YtbgedljbgkcpiaaGreatDoor
open Go.RowKit Go.WideMaps Go.Maps
theorem c_sizeStrip (A:Option Addr) (n c:Nat) (w:World) (h:n≤9223372036854775807):Calls Tryz.prog 61 #[.slice A n c] w fun e w'=>e= .returned (.int .i64 (n:Int))∧w=w':=by
 go_enter Tryz.func61,Tryz.ntmps61
 go_wp2
 go_ret
 exact⟨rfl,rfl⟩
theorem c_sizePatch (A:Option Addr) (n c:Nat) (w:World) (h:n≤9223372036854775807):Calls Tryz.prog 66 #[.slice A n c] w fun e w'=>e= .returned (.int .i64 (n:Int))∧w=w':=by
 go_enter Tryz.func66,Tryz.ntmps66
 go_wp2
 go_ret
 exact⟨rfl,rfl⟩
theorem c_sizeLL (A:Option Addr) (n c:Nat) (w:World) (h:n≤9223372036854775807):Calls Tryz.prog 69 #[.slice A n c] w fun e w'=>e= .returned (.int .i64 (n:Int))∧w=w':=by
 go_enter Tryz.func69,Tryz.ntmps69
 go_wp2
 go_ret
 exact⟨rfl,rfl⟩
theorem c_sizeSend (A:Option Addr) (n c:Nat) (w:World) (h:n≤9223372036854775807):Calls Tryz.prog 141 #[.slice A n c] w fun e w'=>e= .returned (.int .i64 (n:Int))∧w=w':=by
 go_enter Tryz.func141,Tryz.ntmps141
 go_wp2
 go_ret
 exact⟨rfl,rfl⟩
theorem c_sizeNode (A:Option Addr) (n c:Nat) (w:World) (h:n≤9223372036854775807):Calls Tryz.prog 167 #[.slice A n c] w fun e w'=>e= .returned (.int .i64 (n:Int))∧w=w':=by
 go_enter Tryz.func167,Tryz.ntmps167
 go_wp2
 go_ret
 exact⟨rfl,rfl⟩
theorem c_IsName (s:ByteArray) (w:World):Calls Tryz.prog 104 #[.string s] w fun e w'=>e= .returned (.bool (tf (NameOk s)))∧w=w':=by
 by_cases h1:1≤s.size
 rotate_left
 ·go_enter Tryz.func104,Tryz.ntmps104
  go_wp2
  go_ret
  exact⟨yG (yU fun h=>h1 h.some_).symm,rfl⟩
 by_cases h2:s.size≤10
 rotate_left
 ·go_enter Tryz.func104,Tryz.ntmps104
  go_wp2
  go_ret
  exact⟨yG (yU fun h=>h2 h.few).symm,rfl⟩
 go_enter Tryz.func104,Tryz.ntmps104
 go_wp2
 go_loop [3] (fun i=> ∃ k:Nat,k≤s.size∧i= .int .i64 k∧ ∀ i,i<k→smallN (bA s i)∨(digitN (bA s i)∧i≠0)) (fun i=>s.size - (intOf i).toNat)
 case atStart=>exact⟨0,Nat.zero_le _,rfl,fun i h=>absurd h (by omega)⟩
 case round=>
  obtain⟨k,hk,rfl,hs⟩:=hrel
  have HS:=hide hs;clear hs
  by_cases hlt:k<s.size
  ·have hb:=bA_lt s k
   have hg:=bA_get hlt
   have HX:Sec (∀ p:Prop,p→p):=⟨fun _ h=>h⟩
   generalize hy:bA s k=y at *
   have HY:=hide hy;clear hy
   by_cases a1:97≤y
   ·by_cases a2:y≤122
    ·by_cases a3:48≤y
     ·by_cases a4:y≤57
      ·omega
      ·have n1:decide ((y:Int)≤122)=true:=decide_eq_true (by omega)
       have n2:decide ((y:Int)≤57)=false:=decide_eq_false (by omega)
       go_wp2
       go_round
       case rel=>exact⟨k+1,by omega,by go_num,fun i hi=>by
        by_cases e:i=k
        ·subst e;rw[HY.out];exact .inl ⟨a1,a2⟩
        ·exact HS.out i (by omega)⟩
       case measure=>simp[intOf];omega
     ·omega
    ·by_cases a4:y≤57
     ·omega
     ·have n1:decide ((y:Int)≤122)=false:=decide_eq_false (by omega)
      have n2:decide ((y:Int)≤57)=false:=decide_eq_false (by omega)
      go_wp2
      go_ret
      exact⟨yG (yU fun h=>by rcases h.each k hlt with h|h<;>rw[HY.out] at h<;>(simp only[smallN,digitN] at h;omega)).symm,rfl⟩
   ·by_cases a3:48≤y
    ·by_cases a4:y≤57
     ·have n2:decide ((y:Int)≤57)=true:=decide_eq_true (by omega)
      by_cases a5:k=0
      ·subst a5
       go_wp2
       go_ret
       exact⟨yG (yU fun h=>by rcases h.each 0 hlt with h|h<;>rw[HY.out] at h<;>(simp only[smallN,digitN] at h;omega)).symm,rfl⟩
      ·have a6:((k:Int) == 0)=false:=by simp;omega
       have A5:=hide a5;clear a5
       go_wp2
       go_round
       case rel=>exact⟨k+1,by omega,by go_num,fun i hi=>by
        by_cases e:i=k
        ·subst e;rw[HY.out];exact .inr ⟨⟨a3,a4⟩,A5.out⟩
        ·exact HS.out i (by omega)⟩
       case measure=>simp[intOf];omega
     ·have n2:decide ((y:Int)≤57)=false:=decide_eq_false (by omega)
      go_wp2
      go_ret
      exact⟨yG (yU fun h=>by rcases h.each k hlt with h|h<;>rw[HY.out] at h<;>(simp only[smallN,digitN] at h;omega)).symm,rfl⟩
    ·go_wp2
     go_ret
     exact⟨yG (yU fun h=>by rcases h.each k hlt with h|h<;>rw[HY.out] at h<;>(simp only[smallN,digitN] at h;omega)).symm,rfl⟩
  ·go_wp2
   go_ret
   exact⟨yG (yV ⟨h1,h2,fun i hi=>HS.out i (by omega)⟩).symm,rfl⟩
theorem befS_succ {l:List GSend} {p:Int} {k:Nat} {y:GSend} (h:l[k]?=some y):befS l p (k+1)=y.yC:=by
 unfold befS
 rw[if_neg (by omega),Nat.add_sub_cancel,List.getD_eq_getElem?_getD,h];rfl
theorem c_areSends (v:Value) (xs:List GSend) (p n:Int) (w:World) (p0:0≤p) (p1:p≤1048576) (n0:0≤n) (n1:n≤1048576) (hr:T.rd w (T.sl 156 2 (xs.map GSend.t)) [v]):Calls Tryz.prog 105 #[v,.int .i64 p,.int .i64 n] w fun e w'=>e= .returned (.bool (tf (SendsOk xs p n)))∧Below w.heap.size w w':=by
 obtain⟨A,cap,rfl,hl,hc,hx⟩:=T.yL hr
 have HX:=hide hx;clear hx hr
 go_enter Tryz.func105,Tryz.ntmps105
 go_wp2
 go_loopw [7,13] (fun b i wr=> ∃ (k:Nat) (bf:Int),k≤xs.length∧i= .int .i64 k∧b= .int .i64 bf∧bf=befS xs p k∧0≤bf∧bf≤1048576∧Upto xs (fun i x=>inB x.yC (befS xs p i+1) (n - 1)=true∧Smp x.zQ) k∧Below w.heap.size w wr) (fun _ i _=>xs.length - (intOf i).toNat)
 case atStart=>exact⟨0,p,Nat.zero_le _,rfl,rfl,rfl,p0,p1,Upto.zero,Below.refl _ _⟩
 case round=>
  obtain⟨k,bf,hk,rfl,rfl,hbf,b0,b1,hs,hbw⟩:=hrel
  have HS:=hide hs;have HB:=hide hbw;have HBF:=hide hbf;clear hs hbw hbf
  by_cases hlt:k<xs.length
  ·have hgk:=List.getElem?_eq_getElem hlt
   obtain⟨b,off,cs,rfl,hb,hcs,hcell⟩:=HX.out k xs[k] hgk
   generalize xs[k]=y at *
   have HG:=hide hgk;clear hgk
   obtain rfl:=GSend.yM (show T.rds _ _ _ by simpa only[GSend.t,T.rd] using hcs)
   have d0:=(HB.out.cell hb).trans (hcell 0 (.int .i64 y.yC) rfl)
   have d1:=(HB.out.cell hb).trans (hcell 1 (.int .i64 y.zQ) rfl)
   rw[show off+(k * 2+0)=off+k * 2 by omega] at d0
   rw[show off+(k * 2+1)=off+k * 2+1 by omega] at d1
   clear hcs hcell
   have hq:b<wr.heap.size:=Nat.lt_of_lt_of_le hb HB.out.size
   have hB:=HB.out;have hsz:=HB.out.size
   by_cases q1:inB y.yC (bf+1) (n - 1)=true
   rotate_left
   ·have q1':inB y.yC (bf+1) (n - 1)=false:=by simpa using q1
    go_wp2_with (first|(go_at_call 62;refine(c_within _ _ _ _).mono ?_;rintro e w' ⟨rfl,rfl⟩)|(go_at_call 140;refine(c_isSample _ _).mono ?_;rintro e w' ⟨rfl,rfl⟩))
    go_ret
    exact⟨yG (yU fun h=>by have:=(h.each k y HG.out).1;rw[←HBF.out] at this;exact q1 this).symm,(by repeat(first|with_reducible exact Below.refl _ _|with_reducible assumption|with_reducible refine Below.setCell ?_ (by first|omega|(simp;done)|(simp;omega)) _|with_reducible refine Below.alloc ?_ (by first|omega|(simp;done)|(simp;omega)) _|with_reducible refine Below.drew ?_|with_reducible refine below_drewN ?_ _|exact Below.refl _ _|assumption|refine Below.drew ?_|refine below_drewN ?_ _|refine Below.alloc ?_ (by first|omega|(simp;done)|(simp;omega)) _|refine Below.setCell ?_ (by first|omega|(simp;done)|(simp;omega)) _))⟩
   have i1:=yX.1 q1
   by_cases q2:Smp y.zQ
   rotate_left
   ·have q2':decide (Smp y.zQ)=false:=decide_eq_false q2
    have Q2:=hide q2;clear q2
    go_wp2_with (first|(go_at_call 62;refine(c_within _ _ _ _).mono ?_;rintro e w' ⟨rfl,rfl⟩)|(go_at_call 140;refine(c_isSample _ _).mono ?_;rintro e w' ⟨rfl,rfl⟩))
    go_ret
    exact⟨yG (yU fun h=>Q2.out (h.each k y HG.out).2).symm,(by repeat(first|with_reducible exact Below.refl _ _|with_reducible assumption|with_reducible refine Below.setCell ?_ (by first|omega|(simp;done)|(simp;omega)) _|with_reducible refine Below.alloc ?_ (by first|omega|(simp;done)|(simp;omega)) _|with_reducible refine Below.drew ?_|with_reducible refine below_drewN ?_ _|exact Below.refl _ _|assumption|refine Below.drew ?_|refine below_drewN ?_ _|refine Below.alloc ?_ (by first|omega|(simp;done)|(simp;omega)) _|refine Below.setCell ?_ (by first|omega|(simp;done)|(simp;omega)) _))⟩
   have q2':decide (Smp y.zQ)=true:=decide_eq_true q2
   have Q2:=hide q2;have Q1:=hide q1;clear q2
   go_wp2_with (first|(go_at_call 62;refine(c_within _ _ _ _).mono ?_;rintro e w' ⟨rfl,rfl⟩)|(go_at_call 140;refine(c_isSample _ _).mono ?_;rintro e w' ⟨rfl,rfl⟩))
   go_roundw
   case rel=>exact⟨k+1,y.yC,by omega,by go_num,rfl,(befS_succ HG.out).symm,by omega,by omega,HS.out.step HG.out ⟨by rw[←HBF.out];exact Q1.out,Q2.out⟩,(by repeat(first|with_reducible exact Below.refl _ _|with_reducible assumption|with_reducible refine Below.setCell ?_ (by first|omega|(simp;done)|(simp;omega)) _|with_reducible refine Below.alloc ?_ (by first|omega|(simp;done)|(simp;omega)) _|with_reducible refine Below.drew ?_|with_reducible refine below_drewN ?_ _|exact Below.refl _ _|assumption|refine Below.drew ?_|refine below_drewN ?_ _|refine Below.alloc ?_ (by first|omega|(simp;done)|(simp;omega)) _|refine Below.setCell ?_ (by first|omega|(simp;done)|(simp;omega)) _))⟩
   case measure=>simp[intOf];omega
  ·have hall:=hide (HS.out.all (by omega));clear HS
   have hB:=HB.out
   by_cases hp:p=n - 1
   ·by_cases hz:xs.length=0
    ·have z1:((xs.length:Int) == 0)=true:=yP (by omega)
     have HZ:=hide hz;have HP:=hide hp;have z2:(p == n - 1)=true:=by simp[hp]
     clear hz hp
     go_wp2
     go_ret
     exact⟨yG (yV ⟨hall.out,fun _=>HZ.out,fun h=>absurd HP.out h⟩).symm,HB.out⟩
    ·have z1:((xs.length:Int) == 0)=false:=yO (by omega)
     have HZ:=hide hz;have HP:=hide hp;have z2:(p == n - 1)=true:=by simp[hp]
     clear hz hp
     go_wp2
     go_ret
     exact⟨yG (yU fun h=>HZ.out (h.last HP.out)).symm,HB.out⟩
   ·have z2:(p == n - 1)=false:=by simp[hp]
    have HP:=hide hp;clear hp
    go_wp2_with (first|(go_at_call 62;refine(c_within _ _ _ _).mono ?_;rintro e w' ⟨rfl,rfl⟩)|(go_at_call 141;refine(c_sizeSend _ _ _ _ (by omega)).mono ?_;rintro e w' ⟨rfl,rfl⟩))
    go_ret
    exact⟨yG (by
     by_cases hz:1≤xs.length∧xs.length≤4
     ·rw[yV ⟨hall.out,fun h=>absurd h HP.out,fun _=>hz⟩];exact yX.2 (by omega)
     ·rw[yU fun h=>hz (h.few HP.out)];exact inB_false.2 (by omega)),HB.out⟩
end Go.Proofs.YtbgedljbgkcpiaaGreatDoor
end
