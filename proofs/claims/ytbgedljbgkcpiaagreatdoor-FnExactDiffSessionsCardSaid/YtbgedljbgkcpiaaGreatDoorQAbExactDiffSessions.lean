/- Contracts of the smallest functions. The contracts of Go's library that the program calls, laid at this translation in plain words (by the kit's tools, out of its library). Words for memory: slices of strings, slices of changes. No program is named here. Plain functions on texts: changes applied, merged, joined. No program is named here. Contracts: the parts of a text; append at slices of strings. -/
import Derived.Test.YtbgedljbgkcpiaaGreatDoorQAaExactDiffSessions
import Derived.Test.YtbgedljbgkcpiaaGreatDoorRows
import Derived.Shelf.Strings.Builder1
import Derived.Shelf.Strings.Builder2
import Derived.Shelf.Strings.OnBuilder
import Derived.Shelf.Strings.BuilderF
import Derived.Shelf.Strings.BuilderK
import Derived.Shelf.Strings.Builder2Cap
import Derived.Shelf.Strconv.Itoa0
import Derived.Shelf.Strconv.Itoa1
import Derived.Shelf.LaysM
import Derived.Shelf.Strconv.Itoa2
import Derived.Shelf.Strconv.Itoa3
import Derived.Shelf.Strconv.Itoa4
import Derived.Shelf.Strings.Search1
import Derived.Shelf.Strings.Search2
import Derived.Shelf.Strings.Search3
import Derived.Shelf.Strings.Count
import Derived.Shelf.Strings.Shaped
import Derived.Shelf.Strings.Prefix
import Derived.Shelf.Unicode.DecodeSlow
import Derived.Shelf.Strings.BuilderCap
import Derived.Test.YtbgedljbgkcpiaaGreatDoorProg
import Derived.Deep.RegionHeld3
import Derived.Deep.RegionHeldLaw
set_option linter.unusedVariables false
set_option linter.unusedSimpArgs false
set_option maxHeartbeats 400000
section
namespace Go.Proofs.YtbgedljbgkcpiaaGreatDoor
open Go.RowKit
theorem c_l00In (n a b:Int) (w:World):Calls Tryz.prog 47 #[.int .i64 n,.int .i64 a,.int .i64 b] w fun e w'=>e= .returned (.bool (inB n a b))∧w=w':=by
 by_cases h:a≤n
 all_goals
  go_enter Tryz.func47,Tryz.ntmps47
  go_wp2
  go_ret
  exact⟨by first|(simp[inB,h];done)|(simp[inB];omega),rfl⟩
theorem c_within (n a b:Int) (w:World):Calls Tryz.prog 62 #[.int .i64 n,.int .i64 a,.int .i64 b] w fun e w'=>e= .returned (.bool (inB n a b))∧w=w':=by
 by_cases h:a≤n
 all_goals
  go_enter Tryz.func62,Tryz.ntmps62
  go_wp2
  go_ret
  exact⟨by first|(simp[inB,h];done)|(simp[inB];omega),rfl⟩
theorem c_l01Sample (n:Int) (w:World):Calls Tryz.prog 91 #[.int .i64 n] w fun e w'=>e= .returned (.bool (decide (Smp n)))∧w=w':=by
 go_enter Tryz.func91,Tryz.ntmps91
 go_wp2_with (go_at_call 47;refine(c_l00In _ _ _ _).mono ?_;rintro e w' ⟨rfl,rfl⟩)
 go_ret
 exact⟨rfl,rfl⟩
theorem c_isSample (n:Int) (w:World):Calls Tryz.prog 140 #[.int .i64 n] w fun e w'=>e= .returned (.bool (decide (Smp n)))∧w=w':=by
 go_enter Tryz.func140,Tryz.ntmps140
 go_wp2_with (go_at_call 62;refine(c_within _ _ _ _).mono ?_;rintro e w' ⟨rfl,rfl⟩)
 go_ret
 exact⟨rfl,rfl⟩
theorem c_l03Ok (v:Value) (xs:List Int) (w:World) (hr:RdI w v xs):Calls Tryz.prog 49 #[v] w fun e w'=>e= .returned (.bool (sigB xs))∧w=w':=by
 obtain⟨A,cap,rfl,hl,hc,hx⟩:=hr.open_
 have HX:=hide hx;clear hx hr
 by_cases h4:xs.length≤4000
 ·go_enter Tryz.func49,Tryz.ntmps49
  go_wp2
  go_loop [3] (fun i=> ∃ k:Nat,k≤xs.length∧i= .int .i64 k∧smpB (xs.take k)=true) (fun i=>xs.length - (intOf i).toNat)
  case atStart=>exact⟨0,Nat.zero_le _,rfl,by simp[smpB]⟩
  case round=>
   obtain⟨k,hk,rfl,hs⟩:=hrel
   have HS:=hide hs;clear hs
   by_cases hlt:k<xs.length
   ·obtain⟨b,off,rfl,hb,hcell⟩:=HX.out k xs[k] (List.getElem?_eq_getElem hlt)
    by_cases hsm:Smp xs[k]
    ·have hd:decide (Smp xs[k])=true:=by simpa using hsm
     go_wp2_with (go_at_call 91;refine(c_l01Sample _ _).mono ?_;rintro e w' ⟨rfl,rfl⟩)
     go_round
     case rel=>exact⟨k+1,by omega,by go_num,smpB_take_succ (List.getElem?_eq_getElem hlt) HS.out hsm⟩
     case measure=>simp[intOf];omega
    ·have hd:decide (Smp xs[k])=false:=by simpa using hsm
     go_wp2_with (go_at_call 91;refine(c_l01Sample _ _).mono ?_;rintro e w' ⟨rfl,rfl⟩)
     go_ret
     exact⟨by simp[sigB,smpB_no (List.getElem?_eq_getElem hlt) hsm],rfl⟩
   ·go_wp2
    go_ret
    have:k=xs.length:=by omega
    subst this
    have:=HS.out
    rw[List.take_length] at this
    exact⟨by simp[sigB,h4,this],rfl⟩
 ·go_enter Tryz.func49,Tryz.ntmps49
  go_wp2
  go_ret
  exact⟨by simp[sigB];omega,rfl⟩
end Go.Proofs.YtbgedljbgkcpiaaGreatDoor
end
section
namespace Go.Proofs
open Go.Shelf
def Tryz.lays156_ren:Go.Shelf.Ren:=⟨fun|156=>112|165=>146|166=>147|169=>148|240=>176|241=>177|276=>191|277=>192|n=>n,fun|31=>55|9=>9|3=>3|4=>4|0=>0|20=>20|72=>195|76=>199|70=>193|37=>104|75=>198|127=>228|164=>240|5=>5|80=>201|n=>n,fun|n=>n⟩
theorem Tryz.lays156:Go.Proofs.Lays.n156 Tryz.prog Tryz.lays156_ren:= {
 mixed:=by kernel_rfl
 f156:=Tryz.func112.trans (congrArg some (by kernel_rfl))
 f165:=Tryz.func146.trans (congrArg some (by kernel_rfl))
 f166:=Tryz.func147.trans (congrArg some (by kernel_rfl))
 f169:=Tryz.func148.trans (congrArg some (by kernel_rfl))
 f240:=Tryz.func176.trans (congrArg some (by kernel_rfl))
 f241:=Tryz.func177.trans (congrArg some (by kernel_rfl))
 f276:=Tryz.func191.trans (congrArg some (by kernel_rfl))
 f277:=Tryz.func192.trans (congrArg some (by kernel_rfl))
 t0:=Tryz.underlying0
 a0:=Tryz.isAgg0
 z0:=Tryz.sizeOf0
 v0:=Tryz.zeroValue0
 t3:=Tryz.underlying3
 a3:=Tryz.isAgg3
 z3:=Tryz.sizeOf3
 v3:=Tryz.zeroValue3
 t4:=Tryz.underlying4
 a4:=Tryz.isAgg4
 z4:=Tryz.sizeOf4
 v4:=Tryz.zeroValue4
 t9:=Tryz.underlying9
 a9:=Tryz.isAgg9
 z9:=Tryz.sizeOf9
 v9:=Tryz.zeroValue9
 t20:=Tryz.underlying20
 a20:=Tryz.isAgg20
 z20:=Tryz.sizeOf20
 v20:=Tryz.zeroValue20
 t31:=Tryz.underlying55
 a31:=Tryz.isAgg55
 z31:=Tryz.sizeOf55
 v31:=Tryz.zeroValue55
 t37:=Tryz.underlying104
 a37:=Tryz.isAgg104
 z37:=Tryz.sizeOf104
 v37:=Tryz.zeroValue104
 t70:=Tryz.underlying193
 a70:=Tryz.isAgg193
 z70:=Tryz.sizeOf193
 v70:=Tryz.zeroValue193
 t72:=Tryz.underlying195
 a72:=Tryz.isAgg195
 z72:=Tryz.sizeOf195
 v72:=Tryz.zeroValue195
 t75:=Tryz.underlying198
 a75:=Tryz.isAgg198
 z75:=Tryz.sizeOf198
 v75:=Tryz.zeroValue198
 t76:=Tryz.underlying199
 a76:=Tryz.isAgg199
 z76:=Tryz.sizeOf199
 v76:=Tryz.zeroValue199
 t127:=Tryz.underlying228
 a127:=Tryz.isAgg228
 z127:=Tryz.sizeOf228
 v127:=Tryz.zeroValue228
 t164:=Tryz.underlying240
 a164:=Tryz.isAgg240
 z164:=Tryz.sizeOf240
 v164:=Tryz.zeroValue240 }
theorem Tryz.Builder_Extra_156:Builder.Extra Tryz.prog Tryz.lays156_ren:= {
 sizeBuilder:=by kernel_rfl
 liesBuilder:=by kernel_rfl
 t5:=Tryz.underlying5
 a5:=Tryz.isAgg5
 z5:=Tryz.sizeOf5
 v5:=Tryz.zeroValue5
 infoByte:=by kernel_rfl
 cellsByte:=by kernel_rfl
 sizeByte:=by kernel_rfl
 neB5:=by decide }
open Go.RowKit in
theorem Tryz.strings_Join_none (a:Option Addr) (c:Nat) (sep:ByteArray) (w:World):
  Calls Tryz.prog 112 #[.slice a 0 c,.string sep] w fun e w'=>e= .returned (.string ⟨#[]⟩)∧w'=w:=Any.strings_Join_none Tryz.lays156 Tryz.Builder_Extra_156 a c sep w
open Go.RowKit in
theorem Tryz.strings_Join (bk o c:Nat) (xs:List ByteArray) (sep:ByteArray) (w:World) (hcells: ∀ (j:Nat) x,xs[j]?=some x→w.cell? ⟨bk,o+j,none⟩=some (.string x)) (hbk:bk<w.heap.size) (hN:xs.length≤140737488355328) (hcap:xs.length≤c) (hlen:(Lib.join (xs.map (·.data.toList)) sep.data.toList).length≤140737488355328):
  Calls Tryz.prog 112 #[.slice (some ⟨bk,o,none⟩) xs.length c,.string sep] w fun e w'=>e= .returned (.string ⟨(Lib.join (xs.map (·.data.toList)) sep.data.toList).toArray⟩)∧Below w.heap.size w w':=Any.strings_Join Tryz.lays156 Tryz.Builder_Extra_156 bk o c xs sep w hcells hbk hN hcap hlen
def Tryz.laysM173_ren:Go.Shelf.Ren:=⟨fun|173=>110|246=>145|283=>172|284=>173|285=>174|286=>175|129=>187|317=>186|318=>188|319=>189|320=>190|337=>196|338=>197|n=>n,fun|2=>2|3=>3|9=>9|4=>4|171=>222|0=>0|53=>223|37=>104|5=>5|173=>226|212=>235|51=>236|20=>20|213=>237|46=>230|232=>250|233=>251|n=>n,fun|17=>1|18=>4|19=>5|n=>n⟩
theorem Tryz.laysM173:Go.Proofs.LaysM.n173 Tryz.prog Tryz.laysM173_ren:= {
 mixed:=by kernel_rfl
 f129:=Tryz.func187.trans (congrArg some (by kernel_rfl))
 f173:=Tryz.func110.trans (congrArg some (by kernel_rfl))
 f246:=Tryz.func145.trans (congrArg some (by kernel_rfl))
 f283:=Tryz.func172.trans (congrArg some (by kernel_rfl))
 f284:=Tryz.func173.trans (congrArg some (by kernel_rfl))
 f285:=Tryz.func174.trans (congrArg some (by kernel_rfl))
 f286:=Tryz.func175.trans (congrArg some (by kernel_rfl))
 f317:=Tryz.func186.trans (congrArg some (by kernel_rfl))
 f318:=Tryz.func188.trans (congrArg some (by kernel_rfl))
 f319:=Tryz.func189.trans (congrArg some (by kernel_rfl))
 f320:=Tryz.func190.trans (congrArg some (by kernel_rfl))
 f337:=Tryz.func196.trans (congrArg some (by kernel_rfl))
 f338:=Tryz.func197.trans (congrArg some (by kernel_rfl))
 t0:=Tryz.underlying0
 a0:=Tryz.isAgg0
 z0:=Tryz.sizeOf0
 v0:=Tryz.zeroValue0
 t2:=Tryz.underlying2
 a2:=Tryz.isAgg2
 z2:=Tryz.sizeOf2
 v2:=Tryz.zeroValue2
 t3:=Tryz.underlying3
 a3:=Tryz.isAgg3
 z3:=Tryz.sizeOf3
 v3:=Tryz.zeroValue3
 t4:=Tryz.underlying4
 a4:=Tryz.isAgg4
 z4:=Tryz.sizeOf4
 v4:=Tryz.zeroValue4
 t5:=Tryz.underlying5
 a5:=Tryz.isAgg5
 z5:=Tryz.sizeOf5
 v5:=Tryz.zeroValue5
 t9:=Tryz.underlying9
 a9:=Tryz.isAgg9
 z9:=Tryz.sizeOf9
 v9:=Tryz.zeroValue9
 t20:=Tryz.underlying20
 a20:=Tryz.isAgg20
 z20:=Tryz.sizeOf20
 v20:=Tryz.zeroValue20
 t37:=Tryz.underlying104
 a37:=Tryz.isAgg104
 z37:=Tryz.sizeOf104
 v37:=Tryz.zeroValue104
 t46:=Tryz.underlying230
 a46:=Tryz.isAgg230
 z46:=Tryz.sizeOf230
 v46:=Tryz.zeroValue230
 t51:=Tryz.underlying236
 a51:=Tryz.isAgg236
 z51:=Tryz.sizeOf236
 v51:=Tryz.zeroValue236
 t53:=Tryz.underlying223
 a53:=Tryz.isAgg223
 z53:=Tryz.sizeOf223
 v53:=Tryz.zeroValue223
 t171:=Tryz.underlying222
 a171:=Tryz.isAgg222
 z171:=Tryz.sizeOf222
 v171:=Tryz.zeroValue222
 t173:=Tryz.underlying226
 a173:=Tryz.isAgg226
 z173:=Tryz.sizeOf226
 v173:=Tryz.zeroValue226
 t212:=Tryz.underlying235
 a212:=Tryz.isAgg235
 z212:=Tryz.sizeOf235
 v212:=Tryz.zeroValue235
 t213:=Tryz.underlying237
 a213:=Tryz.isAgg237
 z213:=Tryz.sizeOf237
 t232:=Tryz.underlying250
 a232:=Tryz.isAgg250
 z232:=Tryz.sizeOf250
 v232:=Tryz.zeroValue250
 t233:=Tryz.underlying251
 a233:=Tryz.isAgg251
 z233:=Tryz.sizeOf251
 v233:=Tryz.zeroValue251
 g17:=by kernel_rfl
 g18:=by kernel_rfl
 g19:=by kernel_rfl
 i0:=by kernel_rfl
 i2:=by kernel_rfl
 i3:=by kernel_rfl
 i4:=by kernel_rfl
 i5:=by kernel_rfl
 i9:=by kernel_rfl
 i20:=by kernel_rfl
 i37:=by kernel_rfl
 i46:=by kernel_rfl
 i51:=by kernel_rfl
 i53:=by kernel_rfl
 i171:=by kernel_rfl
 i173:=by kernel_rfl
 i212:=by kernel_rfl
 i232:=by kernel_rfl
 i233:=by kernel_rfl
 m17:=by kernel_rfl
 m18:=by kernel_rfl
 m19:=by kernel_rfl }
open Go.RowKit Go.Sort Go.Lib in
theorem Tryz.strconv_FormatInt_10 (n:Int) (h0: -9223372036854775808≤n) (h1:n≤9223372036854775807) (w:World) (htab:Lib.TabIs Tryz.prog w "internal/strconv.uint64pow10" .u64 Lib.pow10Tab):
  Calls Tryz.prog 110 #[.int .i64 n,.int .i64 10] w fun e w'=>e= .returned (.string ⟨(Lib.itoa n).toArray⟩)∧ ∃ k os,w'=grow (w.drewN k) os:=Any.strconv_FormatInt_10 Tryz.laysM173 n h0 h1 w htab
def Tryz.lays143_ren:Go.Shelf.Ren:=⟨fun|143=>118|219=>154|217=>178|225=>179|224=>180|267=>181|266=>193|314=>194|n=>n,fun|9=>9|3=>3|4=>4|5=>5|46=>230|146=>243|51=>236|n=>n,fun|1=>0|n=>n⟩
theorem Tryz.lays143:Go.Proofs.Lays.n143 Tryz.prog Tryz.lays143_ren:= {
 mixed:=by kernel_rfl
 f143:=Tryz.func118.trans (congrArg some (by kernel_rfl))
 f217:=Tryz.func178.trans (congrArg some (by kernel_rfl))
 f219:=Tryz.func154.trans (congrArg some (by kernel_rfl))
 f224:=Tryz.func180.trans (congrArg some (by kernel_rfl))
 f225:=Tryz.func179.trans (congrArg some (by kernel_rfl))
 f266:=Tryz.func193.trans (congrArg some (by kernel_rfl))
 f267:=Tryz.func181.trans (congrArg some (by kernel_rfl))
 f314:=Tryz.func194.trans (congrArg some (by kernel_rfl))
 t3:=Tryz.underlying3
 a3:=Tryz.isAgg3
 z3:=Tryz.sizeOf3
 v3:=Tryz.zeroValue3
 t4:=Tryz.underlying4
 a4:=Tryz.isAgg4
 z4:=Tryz.sizeOf4
 v4:=Tryz.zeroValue4
 t5:=Tryz.underlying5
 a5:=Tryz.isAgg5
 z5:=Tryz.sizeOf5
 v5:=Tryz.zeroValue5
 t9:=Tryz.underlying9
 a9:=Tryz.isAgg9
 z9:=Tryz.sizeOf9
 v9:=Tryz.zeroValue9
 t46:=Tryz.underlying230
 a46:=Tryz.isAgg230
 z46:=Tryz.sizeOf230
 v46:=Tryz.zeroValue230
 t51:=Tryz.underlying236
 a51:=Tryz.isAgg236
 z51:=Tryz.sizeOf236
 v51:=Tryz.zeroValue236
 t146:=Tryz.underlying243
 a146:=Tryz.isAgg243
 z146:=Tryz.sizeOf243
 v146:=Tryz.zeroValue243
 g1:=by kernel_rfl }
open Go.RowKit Go.Lib in
theorem Tryz.strings_Index_one (s:ByteArray) (c:UInt8) (w:World):
  Calls Tryz.prog 118 #[.string s,.string ⟨#[c]⟩] w fun e w'=>e= .returned (.int .i64 (Lib.indexByte s.data.toList c))∧w'=w:=Any.strings_Index_one Tryz.lays143 s c w
def Tryz.lays138_ren:Go.Shelf.Ren:=⟨fun|138=>78|195=>116|218=>117|143=>118|219=>154|217=>178|225=>179|224=>180|267=>181|266=>193|314=>194|n=>n,fun|9=>9|3=>3|4=>4|5=>5|0=>0|46=>230|146=>243|51=>236|n=>n,fun|1=>0|n=>n⟩
theorem Tryz.lays138:Go.Proofs.Lays.n138 Tryz.prog Tryz.lays138_ren:= {
 mixed:=by kernel_rfl
 f138:=Tryz.func78.trans (congrArg some (by kernel_rfl))
 f143:=Tryz.func118.trans (congrArg some (by kernel_rfl))
 f195:=Tryz.func116.trans (congrArg some (by kernel_rfl))
 f217:=Tryz.func178.trans (congrArg some (by kernel_rfl))
 f218:=Tryz.func117.trans (congrArg some (by kernel_rfl))
 f219:=Tryz.func154.trans (congrArg some (by kernel_rfl))
 f224:=Tryz.func180.trans (congrArg some (by kernel_rfl))
 f225:=Tryz.func179.trans (congrArg some (by kernel_rfl))
 f266:=Tryz.func193.trans (congrArg some (by kernel_rfl))
 f267:=Tryz.func181.trans (congrArg some (by kernel_rfl))
 f314:=Tryz.func194.trans (congrArg some (by kernel_rfl))
 t0:=Tryz.underlying0
 a0:=Tryz.isAgg0
 z0:=Tryz.sizeOf0
 v0:=Tryz.zeroValue0
 t3:=Tryz.underlying3
 a3:=Tryz.isAgg3
 z3:=Tryz.sizeOf3
 v3:=Tryz.zeroValue3
 t4:=Tryz.underlying4
 a4:=Tryz.isAgg4
 z4:=Tryz.sizeOf4
 v4:=Tryz.zeroValue4
 t5:=Tryz.underlying5
 a5:=Tryz.isAgg5
 z5:=Tryz.sizeOf5
 v5:=Tryz.zeroValue5
 t9:=Tryz.underlying9
 a9:=Tryz.isAgg9
 z9:=Tryz.sizeOf9
 v9:=Tryz.zeroValue9
 t46:=Tryz.underlying230
 a46:=Tryz.isAgg230
 z46:=Tryz.sizeOf230
 v46:=Tryz.zeroValue230
 t51:=Tryz.underlying236
 a51:=Tryz.isAgg236
 z51:=Tryz.sizeOf236
 v51:=Tryz.zeroValue236
 t146:=Tryz.underlying243
 a146:=Tryz.isAgg243
 z146:=Tryz.sizeOf243
 v146:=Tryz.zeroValue243
 g1:=by kernel_rfl }
open Go.RowKit Go.Lib in
theorem Tryz.strings_Count_one (s:ByteArray) (c:UInt8) (w:World):
  Calls Tryz.prog 78 #[.string s,.string ⟨#[c]⟩] w fun e w'=>e= .returned (.int .i64 (Lib.countByte s.data.toList c))∧w'=w:=Any.strings_Count_one Tryz.lays138 s c w
def Tryz.lays100_ren:Go.Shelf.Ren:=⟨fun|100=>77|207=>115|n=>n,fun|9=>9|4=>4|3=>3|n=>n,fun|n=>n⟩
theorem Tryz.lays100:Go.Proofs.Lays.n100 Tryz.prog Tryz.lays100_ren:= {
 mixed:=by kernel_rfl
 f100:=Tryz.func77.trans (congrArg some (by kernel_rfl))
 f207:=Tryz.func115.trans (congrArg some (by kernel_rfl))
 t3:=Tryz.underlying3
 a3:=Tryz.isAgg3
 z3:=Tryz.sizeOf3
 v3:=Tryz.zeroValue3
 t4:=Tryz.underlying4
 a4:=Tryz.isAgg4
 z4:=Tryz.sizeOf4
 v4:=Tryz.zeroValue4
 t9:=Tryz.underlying9
 a9:=Tryz.isAgg9
 z9:=Tryz.sizeOf9
 v9:=Tryz.zeroValue9 }
open Go.RowKit Go.Lib in
theorem Tryz.strings_HasSuffix (s p:ByteArray) (w:World) (hs:s.size≤9223372036854775807):
  Calls Tryz.prog 77 #[.string s,.string p] w fun e w'=>e= .returned (.bool (Lib.hasSuffix s.data.toList p.data.toList))∧w'=w:=Any.strings_HasSuffix Tryz.lays100 s p w hs
end Go.Proofs
end
section
namespace Go.Proofs.YtbgedljbgkcpiaaGreatDoor
open Go.RowKit
section
variable {α:Type} {enc:α→List Value} {sz:Nat}
theorem flat_len (h: ∀ x,(enc x).length=sz) (xs:List α):(xs.flatMap enc).length=xs.length * sz:=by
 induction xs with
 |nil=>simp
 |cons x t ih=>simp only[List.flatMap_cons,List.length_append,List.length_cons,ih,h];rw[Nat.add_mul];omega
theorem flat_at (h: ∀ x,(enc x).length=sz) {xs:List α} {k j:Nat} {x:α} {u:Value} (hk:xs[k]?=some x) (hj:(enc x)[j]?=some u):(xs.flatMap enc)[k * sz+j]?=some u:=by
 induction xs generalizing k with
 |nil=>simp at hk
 |cons y t ih=>
  rw[List.flatMap_cons]
  cases k with
  |zero=>
   simp at hk;subst hk
   have:=(List.getElem?_eq_some_iff.1 hj).1
   rw[List.getElem?_append_left (by omega)]
   simpa using hj
  |succ k=>
   have e:(k+1) * sz+j=(enc y).length+(k * sz+j):=by rw[h,Nat.add_mul];omega
   rw[e,List.getElem?_append_right (by omega),Nat.add_sub_cancel_left]
   exact ih (by simpa using hk)
end

/-- A slice whose elements take sz cells each, and which reads as xs. -/
def RdG {α:Type} (enc:α→List Value) (sz:Nat) (w:World) (v:Value) (xs:List α):Prop:=(∀ x,(enc x).length=sz)∧Rd w v sz xs.length (xs.flatMap enc)
def OwG {α:Type} (enc:α→List Value) (sz:Nat) (E:TypeId) (w:World) (B:Nat) (v:Value) (xs:List α):Prop:=(∀ x,(enc x).length=sz)∧w.ownsRow B E sz v xs.length (xs.flatMap enc)
section
variable {α:Type} {enc:α→List Value} {sz:Nat} {w w':World} {v:Value} {xs:List α} {E:TypeId} {B:Nat}
theorem OwG.rd (h:OwG enc sz E w B v xs):RdG enc sz w v xs:=⟨h.1,Rd.of_own h.2⟩
theorem OwG.lt (h:OwG enc sz E w B v xs): ∀ k,v.ownBlock=some k→B≤k∧k<w.heap.size:=World.ownsRow.lt h.2
theorem RdG.below (h:RdG enc sz w v xs) (hb:Below w.heap.size w w'):RdG enc sz w' v xs:=⟨h.1,h.2.below hb⟩
theorem RdG.open_ (h:RdG enc sz w v xs): ∃ A cap,v= .slice A xs.length cap∧xs.length≤cap∧cap≤9223372036854775807∧
  (∀ k x,xs[k]?=some x→0<sz→ ∃ b off,A=some ⟨b,off,none⟩∧b<w.heap.size∧ ∀ j u,(enc x)[j]?=some u→w.cell? ⟨b,off+(k * sz+j),none⟩=some u):=by
 obtain⟨hn,_,A,cap,rfl,h3,h4,h5⟩:=h
 refine⟨A,cap,rfl,h3,h4,fun k x hk hs=>?_⟩
 obtain⟨b,off,rfl,hb,hc⟩:=h5 (by have:=(List.getElem?_eq_some_iff.1 hk).1;omega)
 exact⟨b,off,rfl,hb,fun j u hj=>hc _ u (flat_at hn hk hj)⟩
theorem OwG.below {C:Nat} (h:OwG enc sz E w B v xs) (hb:Below C w w') (hC: ∀ b,v.ownBlock=some b→b<C):OwG enc sz E w' B v xs:=⟨h.1,own_below h.2 hb hC⟩
theorem OwG.more {B':Nat} (h:OwG enc sz E w B v xs) (hB:B'≤B):OwG enc sz E w B' v xs:=⟨h.1,own_more h.2 hB⟩
theorem OwG.all (h:OwG enc sz E w B v xs) (hb:Below w.heap.size w w'):OwG enc sz E w' B v xs:=⟨h.1,own_all h.2 hb⟩
theorem OwG.nil_ (henc: ∀ x,(enc x).length=sz) (E:TypeId) (w:World) (B:Nat):OwG enc sz E w B (.slice none 0 0) []:=⟨henc,World.ownsRow_nil w B E sz⟩
theorem OwG.form (h:OwG enc sz E w B v xs) (hn:0<xs.length): ∃ g cap,v= .slice (some ⟨g,0,none⟩) xs.length cap∧xs.length≤cap∧B≤g∧g<w.heap.size:=by
 rcases h.2.2 with ⟨_,h0⟩|⟨g,cap,cur,rfl,hbg,hg,hnc,_⟩
 ·omega
 ·exact⟨g,cap,rfl,hnc,hbg,(Array.getElem?_eq_some_iff.1 hg).1⟩
end
/-- Slices of strings. -/
def strV (s:ByteArray):List Value:= [.string s]
abbrev RdS:=RdG strV 1
abbrev OwS:=OwG strV 1
theorem strV_len: ∀ s,(strV s).length=1:=fun _=>rfl
/-- Slices of changes. -/
def chgV (c:Chg):List Value:= [.int .i64 c.k,.int .i64 c.p,.string c.t]
abbrev RdC:=RdG chgV 3
abbrev OwC:=OwG chgV 3
theorem chgV_len: ∀ s,(chgV s).length=3:=fun _=>rfl
section
variable {w:World} {v:Value} {cs:List Chg} {ss:List ByteArray}
theorem RdG.openC (h:RdC w v cs): ∃ A cap,v= .slice A cs.length cap∧cs.length≤cap∧cap≤9223372036854775807∧
  (∀ k c,cs[k]?=some c→ ∃ b off,A=some ⟨b,off,none⟩∧b<w.heap.size∧w.cell? ⟨b,off+k * 3,none⟩=some (.int .i64 c.k)∧w.cell? ⟨b,off+k * 3+1,none⟩=some (.int .i64 c.p)∧w.cell? ⟨b,off+k * 3+2,none⟩=some (.string c.t)):=by
 obtain⟨A,cap,rfl,h3,h4,h5⟩:=h.open_
 refine⟨A,cap,rfl,h3,h4,fun k c hk=>?_⟩
 obtain⟨b,off,rfl,hb,hc⟩:=h5 k c hk (by omega)
 exact⟨b,off,rfl,hb,hc 0 _ rfl,hc 1 _ rfl,hc 2 _ rfl⟩
theorem RdG.openS (h:RdS w v ss): ∃ A cap,v= .slice A ss.length cap∧ss.length≤cap∧cap≤9223372036854775807∧
  (∀ k s,ss[k]?=some s→ ∃ b off,A=some ⟨b,off,none⟩∧b<w.heap.size∧w.cell? ⟨b,off+k,none⟩=some (.string s)):=by
 obtain⟨A,cap,rfl,h3,h4,h5⟩:=h.open_
 refine⟨A,cap,rfl,h3,h4,fun k c hk=>?_⟩
 obtain⟨b,off,rfl,hb,hc⟩:=h5 k c hk (by omega)
 exact⟨b,off,rfl,hb,by have:=hc 0 _ rfl;simpa using this⟩
end
theorem made_flat (z:Array Value) {sz:Nat} (hz:z.size=sz) (hs:0<sz) (n:Nat):(madeCells z (n * sz)).toList=(List.replicate n ()).flatMap fun _=>z.toList:=by
 apply List.ext_getElem?
 intro i
 have hlen:(madeCells z (n * sz)).toList.length=n * sz:=by simp[madeCells]
 have hlen2:((List.replicate n ()).flatMap fun _=>z.toList).length=n * sz:=by
  rw[flat_len (enc:=fun _:Unit=>z.toList) (sz:=sz) (fun _=>by simp[hz])];simp
 by_cases hi:i<n * sz
 ·have hk:i / sz<n:=(Nat.div_lt_iff_lt_mul hs).2 hi
  have hj:i % sz<sz:=Nat.mod_lt _ hs
  have e:i=i / sz * sz+i % sz:=by have:=Nat.div_add_mod i sz;rw[Nat.mul_comm] at this;exact this.symm
  have h2:=flat_at (enc:=fun _:Unit=>z.toList) (sz:=sz) (fun _=>by simp[hz]) (xs:=List.replicate n ()) (k:=i / sz) (j:=i % sz) (x:=()) (u:=z[i % sz]'(by omega)) (by simp[hk]) (by simp[hz,hj])
  rw[←e] at h2
  rw[h2,Array.getElem?_toList]
  unfold madeCells
  simp only[Array.getElem?_map,Array.getElem?_range,if_pos hi,Option.map_some,hz]
  rw[getElem!_pos z (i % sz) (by omega)]
 ·rw[List.getElem?_eq_none (by omega),List.getElem?_eq_none (by omega)]
theorem flat_const {α:Type} {enc:α→List Value} (n:Nat) (x:α):((List.replicate n ()).flatMap fun _=>enc x)=(List.replicate n x).flatMap enc:=by
 induction n with
 |zero=>rfl
 |succ n ih=>simp only[List.replicate_succ,List.flatMap_cons,ih]
theorem OwG.made {α:Type} {enc:α→List Value} {sz:Nat} (henc: ∀ x,(enc x).length=sz) (hs:0<sz) {E:TypeId} {w:World} {B n:Nat} {v:Value} (x:α) {z:Value} (hz:z.cells.toList=enc x)
  (h:w.ownsRow B E sz v n (madeCells z.cells (n * sz)).toList):OwG enc sz E w B v (List.replicate n x):=by
 refine⟨henc,?_⟩
 rw[List.length_replicate,←flat_const,←hz]
 rw[made_flat z.cells (by rw[←Array.length_toList,hz,henc]) hs] at h
 exact h
theorem flat_set1 {xs:List ByteArray} {k:Nat} (x:ByteArray):(xs.flatMap strV).set k (.string x)=(xs.set k x).flatMap strV:=by
 induction xs generalizing k with
 |nil=>simp
 |cons y t ih=>
  cases k with
  |zero=>simp[strV]
  |succ k=>simp only[List.flatMap_cons,strV,List.set_cons_succ,List.singleton_append];rw[←ih]
theorem flat_set3 {xs:List Chg} {k:Nat} (c:Chg) (hk:k<xs.length):(((xs.flatMap chgV).set (k * 3) (.int .i64 c.k)).set (k * 3+1) (.int .i64 c.p)).set (k * 3+2) (.string c.t)=(xs.set k c).flatMap chgV:=by
 induction xs generalizing k with
 |nil=>simp at hk
 |cons y t ih=>
  cases k with
  |zero=>simp[chgV]
  |succ k=>
   have e:(k+1) * 3=k * 3+1+1+1:=by omega
   have:=ih (k:=k) (by simpa using hk)
   rw[e]
   simp only[List.flatMap_cons,chgV,List.cons_append,List.nil_append,List.set_cons_succ] at *
   rw[this]
section
variable {α:Type} {enc:α→List Value} {sz:Nat} {w:World} {E:TypeId} {B n g cap:Nat} {xs:List α}
theorem OwG.sizeN (h:OwG enc sz E w B (.slice (some ⟨g,0,none⟩) n cap) xs):n=xs.length:=by
 rcases h.2.2 with ⟨h',_⟩|⟨g',cap',cur,h',_⟩
 ·cases h'
 ·injection h'
theorem OwG.cellN (h:OwG enc sz E w B (.slice (some ⟨g,0,none⟩) n cap) xs) {k j:Nat} {x:α} {u:Value} (hk:xs[k]?=some x) (hj:(enc x)[j]?=some u):w.cell? ⟨g,k * sz+j,none⟩=some u:=by
 obtain rfl:=h.sizeN
 have hf:=flat_at h.1 hk hj
 have:=World.ownsRow.cellAt h.2 (k * sz+j) (by rw[←h.2.1];exact(List.getElem?_eq_some_iff.1 hf).1)
 rw[this,hf]
theorem OwG.freeN (h:OwG enc sz E w B (.slice (some ⟨g,0,none⟩) n cap) xs) (j:Nat):w.frozen? ⟨g,j,none⟩=false:=by
 obtain rfl:=h.sizeN
 exact World.ownsRow.frozenAt h.2 j
end
section
variable {w:World} {E:TypeId} {B n g cap:Nat}
theorem OwS_set {ss:List ByteArray} (h:OwS E w B (.slice (some ⟨g,0,none⟩) n cap) ss) (k:Nat) (s:ByteArray):OwS E (w.setCell ⟨g,k,none⟩ (.string s)) B (.slice (some ⟨g,0,none⟩) n cap) (ss.set k s)∧w.grownBy (w.setCell ⟨g,k,none⟩ (.string s)) (some g):=by
 obtain rfl:=h.sizeN
 have:=World.ownsRow.stored h.2 k (.string s)
 refine⟨⟨h.1,?_⟩,this.2⟩
 rw[List.length_set,←flat_set1]
 exact this.1
end
end Go.Proofs.YtbgedljbgkcpiaaGreatDoor
end
section
namespace Go.Proofs.YtbgedljbgkcpiaaGreatDoor
end Go.Proofs.YtbgedljbgkcpiaaGreatDoor
end
section
namespace Go.Proofs.YtbgedljbgkcpiaaGreatDoor
open Go.RowKit
theorem info_str:(Tryz.prog.info? 9).map (fun i=>(i.zero,i.size,i.bytes))=some (some (.string ByteArray.empty),1,16):=by kernel_rfl
theorem flat_app {α:Type} (en:α→List Value) (xs ys:List α):(xs++ys).flatMap en=xs.flatMap en++ys.flatMap en:=by simp
theorem app1_str {w:World} {ops:Array Oper} {rest:List Oper} {o:Oper} {a:Act} {Q:Exit→Act→World→Prop} {n:ByteArray} (hgd:o.guard=none) (s x:Operand)
  (ho:o.op= .call { callee:= .builtin .append,args:= #[s,x],argTypes:= #[55,55] }) {B:Nat} {v:Value} {xs:List ByteArray} (hs:a.eval s=v) (hown:OwS 9 w B v xs)
  (hx:a.eval x= .slice (some ⟨w.heap.size,0,none⟩) 1 1) (hl:xs.length+1≤8796093022208) (hB:B≤w.heap.size)
  (h: ∀ v' w',OwS 9 w' B v' (xs++ [n])→w.grownBy w' v.ownBlock→(∀ k,v'.ownBlock=some k→v.ownBlock=some k∨w.heap.size≤k)→wpList Tryz.prog ops Q rest (a.put o.dst v') w'):
  wpList Tryz.prog ops Q (o :: rest) a (w.alloc (.cells #[.string n] 9)):=
 app_one hgd s x _ ho B _ _ 1 16 Tryz.underlying55 info_str rfl (by omega) v xs.length _ hs hown.2 hx rfl (by simp[Value.oneCell']) (by omega) (by omega) hB
  fun v' w' h1 h2 h3=>h v' w' ⟨strV_len,by rw[flat_app,List.length_append];exact h1⟩ h2 h3
theorem str_oneCell (ys:List ByteArray): ∀ u ∈ ys.flatMap strV,u.oneCell'=true:=by
 intro u hu
 simp only[List.mem_flatMap,strV,List.mem_singleton] at hu
 obtain⟨y,_,rfl⟩:=hu
 rfl
theorem appm_str {w:World} {ops:Array Oper} {rest:List Oper} {o:Oper} {a:Act} {Q:Exit→Act→World→Prop} (hgd:o.guard=none) (s x:Operand)
  (ho:o.op= .call { callee:= .builtin .append,args:= #[s,x],argTypes:= #[55,55] }) {B:Nat} {v:Value} {xs:List ByteArray} (hs:a.eval s=v) (hown:OwS 9 w B v xs)
  {y:Value} {ys:List ByteArray} (hx:a.eval x=y) (hr:RdS w y ys) (hl:xs.length+ys.length≤8796093022208) (hB:B≤w.heap.size)
  (h: ∀ v' w',OwS 9 w' B v' (xs++ys)→w.grownBy w' v.ownBlock→(∀ k,v'.ownBlock=some k→v.ownBlock=some k∨w.heap.size≤k)→wpList Tryz.prog ops Q rest (a.put o.dst v') w'):
  wpList Tryz.prog ops Q (o :: rest) a w:=
 app_many hgd s x _ ho B _ _ 1 16 Tryz.underlying55 info_str rfl (by omega) v xs.length _ hs hown.2 y ys.length _ hx hr.2 (str_oneCell _) (by omega) (by omega) hB
  fun v' w' h1 h2 h3=>h v' w' ⟨strV_len,by rw[flat_app,List.length_append];exact h1⟩ h2 h3
theorem new_str (w:World):OwS 9 (w.alloc (.cells #[] 9)) w.heap.size (.slice (some ⟨w.heap.size,0,none⟩) 0 0) []:=⟨strV_len,World.ownsRow_made w #[] 0 (Nat.le_refl _) (by decide) rfl⟩
/-- A slice cut behind its first elements. -/
theorem OwG.cut {α:Type} {en:α→List Value} {sz:Nat} {E:TypeId} {w:World} {B g n cap m:Nat} {xs:List α} (h:OwG en sz E w B (.slice (some ⟨g,0,none⟩) n cap) xs) (hm:m≤xs.length):OwG en sz E w B (.slice (some ⟨g,0,none⟩) m cap) (xs.take m):=by
 obtain rfl:=h.sizeN
 have hl:(xs.take m).length=m:=by simp;omega
 have hf:(xs.take m).flatMap en=(xs.flatMap en).take (m * sz):=by
  have e:xs.flatMap en=(xs.take m).flatMap en++(xs.drop m).flatMap en:=by rw[←flat_app,List.take_append_drop]
  rw[e,List.take_append_of_le_length (by rw[flat_len h.1,hl];omega)]
  exact(List.take_of_length_le (by rw[flat_len h.1,hl];omega)).symm
 refine⟨h.1,by rw[flat_len h.1],?_⟩
 rcases h.2.2 with ⟨h',_⟩|⟨g',cap',cur,h',hb,hg,hn,hmx,hsz,ht⟩
 ·cases h'
 ·injection h' with h1 h2 h3
  injection h1 with h1
  injection h1 with h1
  subst h1 h3
  rw[hl]
  have hle:m * sz≤xs.length * sz:=Nat.mul_le_mul_right _ hm
  refine .inr ⟨g,cap,cur,rfl,hb,hg,by omega,hmx,hsz,?_⟩
  rw[hf,←ht,List.take_take,Nat.min_eq_left hle]
theorem mkS_sub (s:ByteArray) (a b:Nat):s.extract a b=mkS ((s.data.toList.drop a).take (b - a)):=by
 apply ByteArray.ext
 rw[ByteArray.data_extract]
 apply Array.toList_inj.1
 rw[Array.toList_extract,List.extract_eq_take_drop]
 rfl
theorem mkS_take (s:ByteArray) (m:Nat):s.extract 0 m=mkS (s.data.toList.take m):=by rw[mkS_sub];simp
theorem fst_idx (c:UInt8) (l:List UInt8):(fstI c l<l.length→Lib.indexByte l c=(fstI c l:Int))∧(¬ fstI c l<l.length→Lib.indexByte l c= -1):=by
 unfold fstI
 induction l with
 |nil=>simp[Lib.indexByte]
 |cons b t ih=>
  unfold Lib.indexByte
  rw[List.findIdx_cons]
  by_cases hb:b=c
  ·simp[hb]
  ·have hb2:(b == c)=false:=by simp[hb]
   rw[hb2]
   simp only[Bool.false_eq_true,if_false,cond_false,List.length_cons,Nat.add_lt_add_iff_right]
   by_cases hlt:List.findIdx (· == c) t<t.length
   ·rw[ih.1 hlt]
    refine⟨fun _=>?_,fun h=>absurd hlt h⟩
    have:(((List.findIdx (· == c) t:Nat):Int) == -1)=false:=by simp
    rw[this];simp
   ·rw[ih.2 hlt]
    exact⟨fun h=>absurd h hlt,fun _=>by simp⟩
theorem cap_of {w:World} {v:Value} {α:Type} {en:α→List Value} {sz n cap:Nat} {A:Option Addr} {xs:List α} (h:RdG en sz w v xs) (hv:v= .slice A n cap):n=xs.length∧xs.length≤cap∧cap≤9223372036854775807:=by
 obtain⟨A',cap',h1,h2,h3,_⟩:=h.open_
 rw[h1] at hv;injection hv with _ e1 e2
 exact⟨e1.symm,by omega,by omega⟩
end Go.Proofs.YtbgedljbgkcpiaaGreatDoor
end
