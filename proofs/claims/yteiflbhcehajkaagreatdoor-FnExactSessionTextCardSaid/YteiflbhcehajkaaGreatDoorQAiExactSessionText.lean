/- The contracts of Go's library that the program calls, laid at this translation in plain words (by the kit's tools, out of its library). Contracts: bits as bytes. Contracts: numbers in decimal, by both sides. Plain functions on texts: changes applied, merged, joined. No program is named here. Contracts: the parts of a text; append at slices of strings. Contract: the parts of a text, by the library. Contracts: the lines of a text, by both sides. Contract: the text of a mark. -/
import Derived.Shelf.Strings.Builder1
import Derived.Shelf.Strings.Builder2
import Derived.Shelf.Strings.OnBuilder
import Derived.Shelf.Strings.BuilderF
import Derived.Shelf.Strings.BuilderK
import Derived.Shelf.Strings.Builder2Cap
import Derived.Shelf.Strconv.Itoa0
import Derived.Shelf.Strconv.Itoa1
import Derived.Shelf.LaysM
import Derived.Shelf.Strconv.Itoa2
import Derived.Shelf.Strconv.Itoa3
import Derived.Shelf.Strconv.Itoa4
import Derived.Shelf.Strings.Search1
import Derived.Shelf.Strings.Search2
import Derived.Shelf.Strings.Search3
import Derived.Shelf.Strings.Count
import Derived.Shelf.Strings.Shaped
import Derived.Shelf.Unicode.DecodeSlow
import Derived.Shelf.Strings.BuilderCap
import Derived.Test.YteiflbhcehajkaaGreatDoorProg
import Derived.Test.YteiflbhcehajkaaGreatDoorQAhExactSessionText
import Derived.Test.YteiflbhcehajkaaGreatDoorQAaExactSessionText
import Derived.Lib.LaidTab
import Derived.Test.YteiflbhcehajkaaGreatDoorQAcExactSessionText
import Derived.Deep.RegionHeld3
import Derived.Deep.RegionHeldLaw
set_option linter.unusedVariables false
set_option linter.unusedSimpArgs false
section
namespace Go.Proofs
open Go.Shelf
def Tryz.lays156_ren : Go.Shelf.Ren := ⟨fun | 156 => 129 | 165 => 175 | 166 => 176 | 169 => 177 | 240 => 214 | 241 => 215 | 276 => 236 | 277 => 237 | n => n, fun | 31 => 142 | 9 => 9 | 3 => 3 | 4 => 4 | 0 => 0 | 20 => 20 | 72 => 261 | 76 => 265 | 70 => 259 | 37 => 138 | 75 => 264 | 127 => 302 | 164 => 318 | 5 => 5 | 80 => 267 | n => n, fun | n => n⟩
theorem Tryz.lays156 : Go.Proofs.Lays.n156 Tryz.prog Tryz.lays156_ren := {
  mixed := by kernel_rfl
  f156 := Tryz.func129.trans (congrArg some (by kernel_rfl))
  f165 := Tryz.func175.trans (congrArg some (by kernel_rfl))
  f166 := Tryz.func176.trans (congrArg some (by kernel_rfl))
  f169 := Tryz.func177.trans (congrArg some (by kernel_rfl))
  f240 := Tryz.func214.trans (congrArg some (by kernel_rfl))
  f241 := Tryz.func215.trans (congrArg some (by kernel_rfl))
  f276 := Tryz.func236.trans (congrArg some (by kernel_rfl))
  f277 := Tryz.func237.trans (congrArg some (by kernel_rfl))
  t0 := Tryz.underlying0
  a0 := Tryz.isAgg0
  z0 := Tryz.sizeOf0
  v0 := Tryz.zeroValue0
  t3 := Tryz.underlying3
  a3 := Tryz.isAgg3
  z3 := Tryz.sizeOf3
  v3 := Tryz.zeroValue3
  t4 := Tryz.underlying4
  a4 := Tryz.isAgg4
  z4 := Tryz.sizeOf4
  v4 := Tryz.zeroValue4
  t9 := Tryz.underlying9
  a9 := Tryz.isAgg9
  z9 := Tryz.sizeOf9
  v9 := Tryz.zeroValue9
  t20 := Tryz.underlying20
  a20 := Tryz.isAgg20
  z20 := Tryz.sizeOf20
  v20 := Tryz.zeroValue20
  t31 := Tryz.underlying142
  a31 := Tryz.isAgg142
  z31 := Tryz.sizeOf142
  v31 := Tryz.zeroValue142
  t37 := Tryz.underlying138
  a37 := Tryz.isAgg138
  z37 := Tryz.sizeOf138
  v37 := Tryz.zeroValue138
  t70 := Tryz.underlying259
  a70 := Tryz.isAgg259
  z70 := Tryz.sizeOf259
  v70 := Tryz.zeroValue259
  t72 := Tryz.underlying261
  a72 := Tryz.isAgg261
  z72 := Tryz.sizeOf261
  v72 := Tryz.zeroValue261
  t75 := Tryz.underlying264
  a75 := Tryz.isAgg264
  z75 := Tryz.sizeOf264
  v75 := Tryz.zeroValue264
  t76 := Tryz.underlying265
  a76 := Tryz.isAgg265
  z76 := Tryz.sizeOf265
  v76 := Tryz.zeroValue265
  t127 := Tryz.underlying302
  a127 := Tryz.isAgg302
  z127 := Tryz.sizeOf302
  v127 := Tryz.zeroValue302
  t164 := Tryz.underlying318
  a164 := Tryz.isAgg318
  z164 := Tryz.sizeOf318
  v164 := Tryz.zeroValue318 }
theorem Tryz.Builder_Extra_156 : Builder.Extra Tryz.prog Tryz.lays156_ren := {
  sizeBuilder := by kernel_rfl
  liesBuilder := by kernel_rfl
  t5 := Tryz.underlying5
  a5 := Tryz.isAgg5
  z5 := Tryz.sizeOf5
  v5 := Tryz.zeroValue5
  infoByte := by kernel_rfl
  cellsByte := by kernel_rfl
  sizeByte := by kernel_rfl
  neB5 := by decide }
open Go.RowKit in
theorem Tryz.strings_Join_none (a : Option Addr) (c : Nat) (sep : ByteArray) (w : World) :
    Calls Tryz.prog 129 #[.slice a 0 c, .string sep] w fun e w' => e = .returned (.string ⟨#[]⟩) ∧ w' = w := Any.strings_Join_none Tryz.lays156 Tryz.Builder_Extra_156 a c sep w
open Go.RowKit in
theorem Tryz.strings_Join (bk o c : Nat) (xs : List ByteArray) (sep : ByteArray) (w : World) (hcells : ∀ (j : Nat) x, xs[j]? = some x → w.cell? ⟨bk, o + j, none⟩ = some (.string x)) (hbk : bk < w.heap.size) (hN : xs.length ≤ 140737488355328) (hcap : xs.length ≤ c) (hlen : (Lib.join (xs.map (·.data.toList)) sep.data.toList).length ≤ 140737488355328) :
    Calls Tryz.prog 129 #[.slice (some ⟨bk, o, none⟩) xs.length c, .string sep] w fun e w' => e = .returned (.string ⟨(Lib.join (xs.map (·.data.toList)) sep.data.toList).toArray⟩) ∧ Below w.heap.size w w' := Any.strings_Join Tryz.lays156 Tryz.Builder_Extra_156 bk o c xs sep w hcells hbk hN hcap hlen
def Tryz.laysM173_ren : Go.Shelf.Ren := ⟨fun | 173 => 101 | 246 => 151 | 283 => 196 | 284 => 197 | 285 => 198 | 286 => 199 | 129 => 225 | 317 => 224 | 318 => 226 | 319 => 227 | 320 => 228 | 337 => 239 | 338 => 240 | n => n, fun | 2 => 2 | 3 => 3 | 9 => 9 | 4 => 4 | 171 => 285 | 0 => 0 | 53 => 279 | 37 => 138 | 5 => 5 | 173 => 288 | 212 => 307 | 51 => 308 | 20 => 20 | 213 => 309 | 46 => 311 | 232 => 322 | 233 => 323 | n => n, fun | 17 => 0 | 18 => 2 | 19 => 3 | n => n⟩
theorem Tryz.laysM173 : Go.Proofs.LaysM.n173 Tryz.prog Tryz.laysM173_ren := {
  mixed := by kernel_rfl
  f129 := Tryz.func225.trans (congrArg some (by kernel_rfl))
  f173 := Tryz.func101.trans (congrArg some (by kernel_rfl))
  f246 := Tryz.func151.trans (congrArg some (by kernel_rfl))
  f283 := Tryz.func196.trans (congrArg some (by kernel_rfl))
  f284 := Tryz.func197.trans (congrArg some (by kernel_rfl))
  f285 := Tryz.func198.trans (congrArg some (by kernel_rfl))
  f286 := Tryz.func199.trans (congrArg some (by kernel_rfl))
  f317 := Tryz.func224.trans (congrArg some (by kernel_rfl))
  f318 := Tryz.func226.trans (congrArg some (by kernel_rfl))
  f319 := Tryz.func227.trans (congrArg some (by kernel_rfl))
  f320 := Tryz.func228.trans (congrArg some (by kernel_rfl))
  f337 := Tryz.func239.trans (congrArg some (by kernel_rfl))
  f338 := Tryz.func240.trans (congrArg some (by kernel_rfl))
  t0 := Tryz.underlying0
  a0 := Tryz.isAgg0
  z0 := Tryz.sizeOf0
  v0 := Tryz.zeroValue0
  t2 := Tryz.underlying2
  a2 := Tryz.isAgg2
  z2 := Tryz.sizeOf2
  v2 := Tryz.zeroValue2
  t3 := Tryz.underlying3
  a3 := Tryz.isAgg3
  z3 := Tryz.sizeOf3
  v3 := Tryz.zeroValue3
  t4 := Tryz.underlying4
  a4 := Tryz.isAgg4
  z4 := Tryz.sizeOf4
  v4 := Tryz.zeroValue4
  t5 := Tryz.underlying5
  a5 := Tryz.isAgg5
  z5 := Tryz.sizeOf5
  v5 := Tryz.zeroValue5
  t9 := Tryz.underlying9
  a9 := Tryz.isAgg9
  z9 := Tryz.sizeOf9
  v9 := Tryz.zeroValue9
  t20 := Tryz.underlying20
  a20 := Tryz.isAgg20
  z20 := Tryz.sizeOf20
  v20 := Tryz.zeroValue20
  t37 := Tryz.underlying138
  a37 := Tryz.isAgg138
  z37 := Tryz.sizeOf138
  v37 := Tryz.zeroValue138
  t46 := Tryz.underlying311
  a46 := Tryz.isAgg311
  z46 := Tryz.sizeOf311
  v46 := Tryz.zeroValue311
  t51 := Tryz.underlying308
  a51 := Tryz.isAgg308
  z51 := Tryz.sizeOf308
  v51 := Tryz.zeroValue308
  t53 := Tryz.underlying279
  a53 := Tryz.isAgg279
  z53 := Tryz.sizeOf279
  v53 := Tryz.zeroValue279
  t171 := Tryz.underlying285
  a171 := Tryz.isAgg285
  z171 := Tryz.sizeOf285
  v171 := Tryz.zeroValue285
  t173 := Tryz.underlying288
  a173 := Tryz.isAgg288
  z173 := Tryz.sizeOf288
  v173 := Tryz.zeroValue288
  t212 := Tryz.underlying307
  a212 := Tryz.isAgg307
  z212 := Tryz.sizeOf307
  v212 := Tryz.zeroValue307
  t213 := Tryz.underlying309
  a213 := Tryz.isAgg309
  z213 := Tryz.sizeOf309
  t232 := Tryz.underlying322
  a232 := Tryz.isAgg322
  z232 := Tryz.sizeOf322
  v232 := Tryz.zeroValue322
  t233 := Tryz.underlying323
  a233 := Tryz.isAgg323
  z233 := Tryz.sizeOf323
  v233 := Tryz.zeroValue323
  g17 := by kernel_rfl
  g18 := by kernel_rfl
  g19 := by kernel_rfl
  i0 := by kernel_rfl
  i2 := by kernel_rfl
  i3 := by kernel_rfl
  i4 := by kernel_rfl
  i5 := by kernel_rfl
  i9 := by kernel_rfl
  i20 := by kernel_rfl
  i37 := by kernel_rfl
  i46 := by kernel_rfl
  i51 := by kernel_rfl
  i53 := by kernel_rfl
  i171 := by kernel_rfl
  i173 := by kernel_rfl
  i212 := by kernel_rfl
  i232 := by kernel_rfl
  i233 := by kernel_rfl
  m17 := by kernel_rfl
  m18 := by kernel_rfl
  m19 := by kernel_rfl }
open Go.RowKit Go.Sort Go.Lib in
theorem Tryz.strconv_FormatInt_10 (n : Int) (h0 : -9223372036854775808 ≤ n) (h1 : n ≤ 9223372036854775807) (w : World) (htab : Lib.TabIs Tryz.prog w "internal/strconv.uint64pow10" .u64 Lib.pow10Tab) :
    Calls Tryz.prog 101 #[.int .i64 n, .int .i64 10] w fun e w' => e = .returned (.string ⟨(Lib.itoa n).toArray⟩) ∧ ∃ k os, w' = grow (w.drewN k) os := Any.strconv_FormatInt_10 Tryz.laysM173 n h0 h1 w htab
def Tryz.lays143_ren : Go.Shelf.Ren := ⟨fun | 143 => 213 | 219 => 235 | 217 => 242 | 225 => 243 | 224 => 244 | 267 => 245 | 266 => 246 | 314 => 247 | n => n, fun | 9 => 9 | 3 => 3 | 4 => 4 | 5 => 5 | 46 => 311 | 146 => 328 | 51 => 308 | n => n, fun | 1 => 1 | n => n⟩
theorem Tryz.lays143 : Go.Proofs.Lays.n143 Tryz.prog Tryz.lays143_ren := {
  mixed := by kernel_rfl
  f143 := Tryz.func213.trans (congrArg some (by kernel_rfl))
  f217 := Tryz.func242.trans (congrArg some (by kernel_rfl))
  f219 := Tryz.func235.trans (congrArg some (by kernel_rfl))
  f224 := Tryz.func244.trans (congrArg some (by kernel_rfl))
  f225 := Tryz.func243.trans (congrArg some (by kernel_rfl))
  f266 := Tryz.func246.trans (congrArg some (by kernel_rfl))
  f267 := Tryz.func245.trans (congrArg some (by kernel_rfl))
  f314 := Tryz.func247.trans (congrArg some (by kernel_rfl))
  t3 := Tryz.underlying3
  a3 := Tryz.isAgg3
  z3 := Tryz.sizeOf3
  v3 := Tryz.zeroValue3
  t4 := Tryz.underlying4
  a4 := Tryz.isAgg4
  z4 := Tryz.sizeOf4
  v4 := Tryz.zeroValue4
  t5 := Tryz.underlying5
  a5 := Tryz.isAgg5
  z5 := Tryz.sizeOf5
  v5 := Tryz.zeroValue5
  t9 := Tryz.underlying9
  a9 := Tryz.isAgg9
  z9 := Tryz.sizeOf9
  v9 := Tryz.zeroValue9
  t46 := Tryz.underlying311
  a46 := Tryz.isAgg311
  z46 := Tryz.sizeOf311
  v46 := Tryz.zeroValue311
  t51 := Tryz.underlying308
  a51 := Tryz.isAgg308
  z51 := Tryz.sizeOf308
  v51 := Tryz.zeroValue308
  t146 := Tryz.underlying328
  a146 := Tryz.isAgg328
  z146 := Tryz.sizeOf328
  v146 := Tryz.zeroValue328
  g1 := by kernel_rfl }
open Go.RowKit Go.Lib in
theorem Tryz.strings_Index_one (s : ByteArray) (c : UInt8) (w : World) :
    Calls Tryz.prog 213 #[.string s, .string ⟨#[c]⟩] w fun e w' => e = .returned (.int .i64 (Lib.indexByte s.data.toList c)) ∧ w' = w := Any.strings_Index_one Tryz.lays143 s c w
def Tryz.lays138_ren : Go.Shelf.Ren := ⟨fun | 138 => 212 | 195 => 232 | 218 => 234 | 143 => 213 | 219 => 235 | 217 => 242 | 225 => 243 | 224 => 244 | 267 => 245 | 266 => 246 | 314 => 247 | n => n, fun | 9 => 9 | 3 => 3 | 4 => 4 | 5 => 5 | 0 => 0 | 46 => 311 | 146 => 328 | 51 => 308 | n => n, fun | 1 => 1 | n => n⟩
theorem Tryz.lays138 : Go.Proofs.Lays.n138 Tryz.prog Tryz.lays138_ren := {
  mixed := by kernel_rfl
  f138 := Tryz.func212.trans (congrArg some (by kernel_rfl))
  f143 := Tryz.func213.trans (congrArg some (by kernel_rfl))
  f195 := Tryz.func232.trans (congrArg some (by kernel_rfl))
  f217 := Tryz.func242.trans (congrArg some (by kernel_rfl))
  f218 := Tryz.func234.trans (congrArg some (by kernel_rfl))
  f219 := Tryz.func235.trans (congrArg some (by kernel_rfl))
  f224 := Tryz.func244.trans (congrArg some (by kernel_rfl))
  f225 := Tryz.func243.trans (congrArg some (by kernel_rfl))
  f266 := Tryz.func246.trans (congrArg some (by kernel_rfl))
  f267 := Tryz.func245.trans (congrArg some (by kernel_rfl))
  f314 := Tryz.func247.trans (congrArg some (by kernel_rfl))
  t0 := Tryz.underlying0
  a0 := Tryz.isAgg0
  z0 := Tryz.sizeOf0
  v0 := Tryz.zeroValue0
  t3 := Tryz.underlying3
  a3 := Tryz.isAgg3
  z3 := Tryz.sizeOf3
  v3 := Tryz.zeroValue3
  t4 := Tryz.underlying4
  a4 := Tryz.isAgg4
  z4 := Tryz.sizeOf4
  v4 := Tryz.zeroValue4
  t5 := Tryz.underlying5
  a5 := Tryz.isAgg5
  z5 := Tryz.sizeOf5
  v5 := Tryz.zeroValue5
  t9 := Tryz.underlying9
  a9 := Tryz.isAgg9
  z9 := Tryz.sizeOf9
  v9 := Tryz.zeroValue9
  t46 := Tryz.underlying311
  a46 := Tryz.isAgg311
  z46 := Tryz.sizeOf311
  v46 := Tryz.zeroValue311
  t51 := Tryz.underlying308
  a51 := Tryz.isAgg308
  z51 := Tryz.sizeOf308
  v51 := Tryz.zeroValue308
  t146 := Tryz.underlying328
  a146 := Tryz.isAgg328
  z146 := Tryz.sizeOf328
  v146 := Tryz.zeroValue328
  g1 := by kernel_rfl }
open Go.RowKit Go.Lib in
theorem Tryz.strings_Count_one (s : ByteArray) (c : UInt8) (w : World) :
    Calls Tryz.prog 212 #[.string s, .string ⟨#[c]⟩] w fun e w' => e = .returned (.int .i64 (Lib.countByte s.data.toList c)) ∧ w' = w := Any.strings_Count_one Tryz.lays138 s c w
end Go.Proofs
end
section
namespace Go.Proofs.YteiflbhcehajkaaGreatDoor
open Go.RowKit
theorem info_u8 : (Tryz.prog.info? 5).map (fun i => (i.zero, i.size, i.bytes)) = some (some (.int .u8 0), 1, 1) := by kernel_rfl
theorem oneCell_bytes (l : List UInt8) : ∀ u ∈ l.map (fun b => Value.int .u8 (b.toNat : Int)), u.oneCell' = true := by
  intro u hu
  obtain ⟨b, _, rfl⟩ := List.mem_map.1 hu
  rfl
theorem appm_u8 {w : World} {ops : Array Oper} {rest : List Oper} {o : Oper} {a : Act} {Q : Exit → Act → World → Prop} (hgd : o.guard = none) (s x : Operand)
    (ho : o.op = .call { callee := .builtin .append, args := #[s, x], argTypes := #[138, 138] }) {B : Nat} {v : Value} {xs : List UInt8} (hs : a.eval s = v) (hown : OwY 5 w B v xs)
    {y : Value} {ys : List UInt8} (hx : a.eval x = y) (hr : RdY w y ys) (hl : xs.length + ys.length ≤ 140737488355328) (hB : B ≤ w.heap.size)
    (h : ∀ v' w', OwY 5 w' B v' (xs ++ ys) → w.grownBy w' v.ownBlock → (∀ k, v'.ownBlock = some k → v.ownBlock = some k ∨ w.heap.size ≤ k) → wpList Tryz.prog ops Q rest (a.put o.dst v') w') :
    wpList Tryz.prog ops Q (o :: rest) a w :=
  app_many hgd s x _ ho B _ _ 1 1 Tryz.underlying138 info_u8 rfl (by omega) v xs.length _ hs hown y ys.length _ hx hr (oneCell_bytes _) (by omega) (by omega) hB
    fun v' w' h1 h2 h3 => h v' w' (by unfold OwY; simpa using h1) h2 h3
theorem new_u8 (w : World) : OwY 5 (w.alloc (.cells #[] 5)) w.heap.size (.slice (some ⟨w.heap.size, 0, none⟩) 0 0) [] := World.ownsRow_made w #[] 0 (Nat.le_refl _) (by decide) rfl
theorem str_of {w : World} {v : Value} {bs : List UInt8} (h : RdY w v bs) : (convert 138 9 v).run Tryz.prog w = .ok (.string (mkS bs)) w :=
  run_str Tryz.underlying138 Tryz.underlying5 Tryz.underlying9 h
end Go.Proofs.YteiflbhcehajkaaGreatDoor
end
section
namespace Go.Proofs.YteiflbhcehajkaaGreatDoor
open Go.RowKit
/-- The library's table of powers of ten holds what its text says. -/
def TB (w : World) : Prop := Lib.TabIs Tryz.prog w "internal/strconv.uint64pow10" .u64 Lib.pow10Tab
theorem TB.keep {w w' : World} (h : TB w) (hk : ∀ b, b < w.heap.size → w'.heap[b]? = w.heap[b]?) : TB w' := by
  unfold TB Lib.TabIs World.var? at *
  cases hg : Tryz.prog.globalNamed "internal/strconv.uint64pow10" with
  | none => simp [hg] at h
  | some g =>
    simp only [hg, Option.bind_some] at h ⊢
    have hlt : g < w.heap.size := by
      rcases Nat.lt_or_ge g w.heap.size with h' | h'
      · exact h'
      · rw [Array.getElem?_eq_none h'] at h; simp at h
    rw [hk g hlt]
    exact h
theorem TB.below {w w' : World} (h : TB w) (hb : Below w.heap.size w w') : TB w' := h.keep fun b hlt => hb.block b hlt
theorem below_grow (w : World) (k : Nat) (os : Array Obj) : Below w.heap.size w (Go.Sort.grow (w.drewN k) os) :=
  ⟨rfl, rfl, rfl, by simp [Go.Sort.grow], fun b hb => by simp [Go.Sort.grow, Array.getElem?_append_left hb]⟩
theorem c_iDec (n : Int) (w : World) (ht : TB w) (h0 : -9223372036854775808 ≤ n) (h1 : n ≤ 9223372036854775807) : Calls Tryz.prog 43 #[.int .i64 n] w fun e w' => e = .returned (.string (decS n)) ∧ Below w.heap.size w w' := by
  go_enter Tryz.func43, Tryz.ntmps43
  go_wp2_with fail
  refine (Tryz.strconv_FormatInt_10 n h0 h1 _ ht).mono ?_; rintro e w1 ⟨rfl, k, os, rfl⟩
  have hb := below_grow w k os
  have HB := hide hb; clear hb
  generalize Go.Sort.grow (w.drewN k) os = w1 at *
  go_wp2
  go_ret
  exact ⟨rfl, HB.out⟩
theorem byte_own (B : Nat) (c : UInt8) (w : World) (hB : B ≤ w.heap.size) : OwY 5 (w.alloc (.cells #[.int .u8 (c.toNat : Int)] 5)) B (.slice (some ⟨w.heap.size, 0, none⟩) 1 1) [c] := by
  have := World.ownsRow_lit (base := B) (e := 5) (size := 1) w #[.int .u8 (c.toNat : Int)] 1 hB (by decide) rfl
  unfold OwY
  simp only [List.length_cons, List.length_nil, List.map_cons, List.map_nil]
  exact this
set_option maxHeartbeats 1000000 in
set_option maxRecDepth 20000 in
theorem c_l01Dec (n : Nat) (w : World) (h1 : n ≤ 9223372036854775807) : Calls Tryz.prog 38 #[.int .i64 (n : Int)] w fun e w' => e = .returned (.string (decS (n : Int))) ∧ Below w.heap.size w w' := by
  have hnn : ¬ (n : Int) < 0 := by omega
  generalize hD : decS (n : Int) = D
  have HDD := hide hD; clear hD
  go_enter Tryz.func38, Tryz.ntmps38
  go_wp2
  go_loopw [3, 4] (fun o kv wr => ∃ (m : Nat) (l : List UInt8), m ≤ n ∧ kv = .int .i64 (m : Int) ∧ preD n = preD m ++ l ∧ l.length ≤ 19 ∧ OwY 5 wr w.heap.size o l ∧ Below w.heap.size w wr) (fun _ kv _ => (intOf kv).toNat)
  case atStart => exact ⟨n, [], Nat.le_refl _, rfl, by simp, by simp, new_u8 w, (Below.refl _ _).alloc (Nat.le_refl _) _⟩
  case round =>
    obtain ⟨m, l, hm, rfl, hp, hll, ho, hb⟩ := hrel
    have HP := hide hp; have HO := hide ho; have HB := hide hb; have hsz := hb.size; clear hp hb
    by_cases hz : m = 0
    · have hl : preD n = l := by have := HP.out; rw [this, hz]; simp [preD]
      have hz2 : ((m : Int) != 0) = false := by simp; omega
      by_cases h0 : n = 0
      · have hle : l = [] := by rw [← hl, h0]; simp [preD]
        subst hle
        obtain ⟨A, cap, rfl, _, _, _⟩ := Rd.of_own ho |>.2
        have hdec : decS (n : Int) = mkS [48] := by unfold decS; rw [h0]; show mkS (decL 0) = _; rw [decL_zero]
        have HDE := hide (HDD.out.symm.trans hdec)
        clear hdec h0 hl ho
        go_wp2
        go_ret
        exact ⟨ret_str (by rw [HDE.out]; rfl), HB.out⟩
      · have hdec : decS (n : Int) = mkS l := by unfold decS; rw [decL_pos (by omega), show (n : Int).natAbs = n by omega, hl]
        have hl1 : 0 < l.length := by
          rcases Nat.eq_zero_or_pos l.length with h | h
          · have := List.eq_nil_of_length_eq_zero h
            rw [this] at hl
            have h2 := (dec_digits n).2.2
            simp [preD, h0] at hl
            exact absurd hl h2
          · exact h
        have hlb : ((l.length : Int) == 0) = false := beq_eq_false_iff_ne.2 (by omega)
        have hc := str_of ho.rd
        obtain ⟨A, cap, rfl, _, _, _⟩ := Rd.of_own ho |>.2
        have HDE := hide (HDD.out.symm.trans hdec)
        clear hdec hl ho
        go_wp2
        go_ret
        exact ⟨ret_str (by rw [HDE.out]), HB.out⟩
    · have hz2 : ((m : Int) != 0) = true := by simp; omega
      have hmod : (m : Int) % 10 = ((m % 10 : Nat) : Int) := by omega
      have hdiv : (m : Int) / 10 = ((m / 10 : Nat) : Int) := by omega
      have hd : m % 10 < 10 := Nat.mod_lt _ (by omega)
      have HS := hide (preD_step (u := m) (by omega))
      have hlen : ([UInt8.ofNat (48 + m % 10)] ++ l).length ≤ 19 := by
        have h3 := preD_len 19 n (by omega)
        rw [HP.out, HS.out] at h3
        simp at h3 ⊢; omega
      generalize hdd : m % 10 = d at *
      have hq : m / 10 < m := by omega
      generalize hqq : m / 10 = q at *
      have hcn : ((UInt8.ofNat (48 + d)).toNat : Int) = 48 + (d : Int) := by rw [dig_of hd]; omega
      have HOWN : Sec (∀ W : World, w.heap.size ≤ W.heap.size → OwY 5 (W.alloc (.cells #[.int .u8 (48 + (d : Int))] 5)) w.heap.size (.slice (some ⟨W.heap.size, 0, none⟩) 1 1) [UInt8.ofNat (48 + d)]) := hide (by
        intro W hW
        have := byte_own w.heap.size (UInt8.ofNat (48 + d)) W hW
        rw [hcn] at this
        exact this)
      have HLEN := hide hlen
      clear hdd hqq hlen ho hcn
      go_wp2_with (at_builtin; refine appm_u8 rfl _ _ rfl rfl (HOWN.out _ hsz) rfl (show RdY _ _ _ from Rd.below HO.out.rd ((Below.refl _ _).alloc (Nat.le_refl _) _)) (by simp; omega) (by simp; omega) ?_; intro v3 w3 ho3 hg3 hv3; have hb3 := below_own (HB.out.alloc HB.out.size _) (HOWN.out _ hsz) hg3 (Nat.le_refl _) (by simp; omega); have HO3 := hide ho3; have HB3 := hide hb3; clear ho3 hb3 hv3 hg3)
      go_roundw
      case rel => exact ⟨q, [UInt8.ofNat (48 + d)] ++ l, by omega, by go_num, by rw [HP.out, HS.out]; simp, HLEN.out, HO3.out, HB3.out⟩
      case measure => simp [intOf]; omega
end Go.Proofs.YteiflbhcehajkaaGreatDoor
end
section
namespace Go.Proofs.YteiflbhcehajkaaGreatDoor
end Go.Proofs.YteiflbhcehajkaaGreatDoor
end
section
namespace Go.Proofs.YteiflbhcehajkaaGreatDoor
open Go.RowKit
theorem info_str : (Tryz.prog.info? 9).map (fun i => (i.zero, i.size, i.bytes)) = some (some (.string ByteArray.empty), 1, 16) := by kernel_rfl
theorem flat_app {α : Type} (en : α → List Value) (xs ys : List α) : (xs ++ ys).flatMap en = xs.flatMap en ++ ys.flatMap en := by simp
theorem app1_str {w : World} {ops : Array Oper} {rest : List Oper} {o : Oper} {a : Act} {Q : Exit → Act → World → Prop} {n : ByteArray} (hgd : o.guard = none) (s x : Operand)
    (ho : o.op = .call { callee := .builtin .append, args := #[s, x], argTypes := #[142, 142] }) {B : Nat} {v : Value} {xs : List ByteArray} (hs : a.eval s = v) (hown : OwS 9 w B v xs)
    (hx : a.eval x = .slice (some ⟨w.heap.size, 0, none⟩) 1 1) (hl : xs.length + 1 ≤ 8796093022208) (hB : B ≤ w.heap.size)
    (h : ∀ v' w', OwS 9 w' B v' (xs ++ [n]) → w.grownBy w' v.ownBlock → (∀ k, v'.ownBlock = some k → v.ownBlock = some k ∨ w.heap.size ≤ k) → wpList Tryz.prog ops Q rest (a.put o.dst v') w') :
    wpList Tryz.prog ops Q (o :: rest) a (w.alloc (.cells #[.string n] 9)) :=
  app_one hgd s x _ ho B _ _ 1 16 Tryz.underlying142 info_str rfl (by omega) v xs.length _ hs hown.2 hx rfl (by simp [Value.oneCell']) (by omega) (by omega) hB
    fun v' w' h1 h2 h3 => h v' w' ⟨strV_len, by rw [flat_app, List.length_append]; exact h1⟩ h2 h3
theorem str_oneCell (ys : List ByteArray) : ∀ u ∈ ys.flatMap strV, u.oneCell' = true := by
  intro u hu
  simp only [List.mem_flatMap, strV, List.mem_singleton] at hu
  obtain ⟨y, _, rfl⟩ := hu
  rfl
theorem appm_str {w : World} {ops : Array Oper} {rest : List Oper} {o : Oper} {a : Act} {Q : Exit → Act → World → Prop} (hgd : o.guard = none) (s x : Operand)
    (ho : o.op = .call { callee := .builtin .append, args := #[s, x], argTypes := #[142, 142] }) {B : Nat} {v : Value} {xs : List ByteArray} (hs : a.eval s = v) (hown : OwS 9 w B v xs)
    {y : Value} {ys : List ByteArray} (hx : a.eval x = y) (hr : RdS w y ys) (hl : xs.length + ys.length ≤ 8796093022208) (hB : B ≤ w.heap.size)
    (h : ∀ v' w', OwS 9 w' B v' (xs ++ ys) → w.grownBy w' v.ownBlock → (∀ k, v'.ownBlock = some k → v.ownBlock = some k ∨ w.heap.size ≤ k) → wpList Tryz.prog ops Q rest (a.put o.dst v') w') :
    wpList Tryz.prog ops Q (o :: rest) a w :=
  app_many hgd s x _ ho B _ _ 1 16 Tryz.underlying142 info_str rfl (by omega) v xs.length _ hs hown.2 y ys.length _ hx hr.2 (str_oneCell _) (by omega) (by omega) hB
    fun v' w' h1 h2 h3 => h v' w' ⟨strV_len, by rw [flat_app, List.length_append]; exact h1⟩ h2 h3
theorem new_str (w : World) : OwS 9 (w.alloc (.cells #[] 9)) w.heap.size (.slice (some ⟨w.heap.size, 0, none⟩) 0 0) [] := ⟨strV_len, World.ownsRow_made w #[] 0 (Nat.le_refl _) (by decide) rfl⟩
/-- A slice cut behind its first elements. -/
theorem OwG.cut {α : Type} {en : α → List Value} {sz : Nat} {E : TypeId} {w : World} {B g n cap m : Nat} {xs : List α} (h : OwG en sz E w B (.slice (some ⟨g, 0, none⟩) n cap) xs) (hm : m ≤ xs.length) : OwG en sz E w B (.slice (some ⟨g, 0, none⟩) m cap) (xs.take m) := by
  obtain rfl := h.sizeN
  have hl : (xs.take m).length = m := by simp; omega
  have hf : (xs.take m).flatMap en = (xs.flatMap en).take (m * sz) := by
    have e : xs.flatMap en = (xs.take m).flatMap en ++ (xs.drop m).flatMap en := by rw [← flat_app, List.take_append_drop]
    rw [e, List.take_append_of_le_length (by rw [flat_len h.1, hl]; omega)]
    exact (List.take_of_length_le (by rw [flat_len h.1, hl]; omega)).symm
  refine ⟨h.1, by rw [flat_len h.1], ?_⟩
  rcases h.2.2 with ⟨h', _⟩ | ⟨g', cap', cur, h', hb, hg, hn, hmx, hsz, ht⟩
  · cases h'
  · injection h' with h1 h2 h3
    injection h1 with h1
    injection h1 with h1
    subst h1 h3
    rw [hl]
    have hle : m * sz ≤ xs.length * sz := Nat.mul_le_mul_right _ hm
    refine .inr ⟨g, cap, cur, rfl, hb, hg, by omega, hmx, hsz, ?_⟩
    rw [hf, ← ht, List.take_take, Nat.min_eq_left hle]
theorem mkS_sub (s : ByteArray) (a b : Nat) : s.extract a b = mkS ((s.data.toList.drop a).take (b - a)) := by
  apply ByteArray.ext
  rw [ByteArray.data_extract]
  apply Array.toList_inj.1
  rw [Array.toList_extract, List.extract_eq_take_drop]
  rfl
theorem mkS_take (s : ByteArray) (m : Nat) : s.extract 0 m = mkS (s.data.toList.take m) := by rw [mkS_sub]; simp
theorem fst_idx (c : UInt8) (l : List UInt8) : (fstI c l < l.length → Lib.indexByte l c = (fstI c l : Int)) ∧ (¬ fstI c l < l.length → Lib.indexByte l c = -1) := by
  unfold fstI
  induction l with
  | nil => simp [Lib.indexByte]
  | cons b t ih =>
    unfold Lib.indexByte
    rw [List.findIdx_cons]
    by_cases hb : b = c
    · simp [hb]
    · have hb2 : (b == c) = false := by simp [hb]
      rw [hb2]
      simp only [Bool.false_eq_true, if_false, cond_false, List.length_cons, Nat.add_lt_add_iff_right]
      by_cases hlt : List.findIdx (· == c) t < t.length
      · rw [ih.1 hlt]
        refine ⟨fun _ => ?_, fun h => absurd hlt h⟩
        have : (((List.findIdx (· == c) t : Nat) : Int) == -1) = false := by simp
        rw [this]; simp
      · rw [ih.2 hlt]
        exact ⟨fun h => absurd h hlt, fun _ => by simp⟩
theorem cap_of {w : World} {v : Value} {α : Type} {en : α → List Value} {sz n cap : Nat} {A : Option Addr} {xs : List α} (h : RdG en sz w v xs) (hv : v = .slice A n cap) : n = xs.length ∧ xs.length ≤ cap ∧ cap ≤ 9223372036854775807 := by
  obtain ⟨A', cap', h1, h2, h3, _⟩ := h.open_
  rw [h1] at hv; injection hv with _ e1 e2
  exact ⟨e1.symm, by omega, by omega⟩
end Go.Proofs.YteiflbhcehajkaaGreatDoor
end
section
namespace Go.Proofs.YteiflbhcehajkaaGreatDoor
open Go.RowKit
theorem partsB_hit {s : ByteArray} (h : fstI 10 s.data.toList < s.size) : partsB 10 s = s.extract 0 (fstI 10 s.data.toList) :: partsB 10 (s.extract (fstI 10 s.data.toList + 1) s.size) := by
  have hl : s.data.toList.length = s.size := Array.length_toList
  unfold partsB
  have e : (s.data.toList.drop (fstI 10 s.data.toList + 1)).take (s.size - (fstI 10 s.data.toList + 1)) = s.data.toList.drop (fstI 10 s.data.toList + 1) := List.take_of_length_le (by rw [List.length_drop, hl]; omega)
  rw [partsL_cut, if_pos (by rw [hl]; exact h), List.map_cons, mkS_take, mkS_sub, data_mkS, e]
theorem partsB_miss {s : ByteArray} (h : ¬ fstI 10 s.data.toList < s.size) : partsB 10 s = [s] := by
  have hl : s.data.toList.length = s.size := Array.length_toList
  unfold partsB
  rw [partsL_cut, if_neg (by rw [hl]; exact h), List.map_cons, List.map_nil, mkS_data]
theorem rep_set {d : List ByteArray} {n i : Nat} (x : ByteArray) (h : d.length = i) (hi : i < n) : (d ++ List.replicate (n - i) ByteArray.empty).set i x = (d ++ [x]) ++ List.replicate (n - (i + 1)) ByteArray.empty := by
  subst h
  rw [List.set_append_right _ _ (Nat.le_refl _), Nat.sub_self]
  have : n - d.length = (n - (d.length + 1)) + 1 := by omega
  rw [this, List.replicate_succ, List.set_cons_zero]
  simp
set_option maxRecDepth 20000 in
set_option maxHeartbeats 2000000 in
theorem c_genSplit (s : ByteArray) (w : World) (hs : s.size ≤ 4294967280) : Calls Tryz.prog 174 #[.string s, .string ⟨#[10]⟩, .int .i64 0, .int .i64 (-1)] w fun e w' => ∃ cap, e = .returned (.slice (some ⟨w.heap.size, 0, none⟩) (partsB 10 s).length cap) ∧ OwS 9 w' w.heap.size (.slice (some ⟨w.heap.size, 0, none⟩) (partsB 10 s).length cap) (partsB 10 s) ∧ Below w.heap.size w w' := by
  have hcl : s.data.toList.count 10 ≤ s.size := by have := List.count_le_length (a := (10 : UInt8)) (l := s.data.toList); rw [Array.length_toList] at this; exact this
  have hpl := length_partsB 10 s
  generalize hN : s.data.toList.count 10 = N at *
  have hcnt : Lib.countByte s.data.toList 10 = N := hN
  have hmin : (if (N : Int) + 1 ≤ (s.size : Int) + 1 then (N : Int) + 1 else (s.size : Int) + 1) = (N : Int) + 1 := if_pos (by omega)
  obtain ⟨i0, hi, hz0, hz1, hz2⟩ := info_parts info_str
  have HP := hide hpl; have HN := hide hN; clear hpl hN
  have hne : ((⟨#[10]⟩ : ByteArray).toList == (⟨#[]⟩ : ByteArray).toList) = false := by rw [str_eq]; exact decide_eq_false (fun e => by have := congrArg ByteArray.size e; simp [ByteArray.size] at this)
  go_enter Tryz.func174, Tryz.ntmps174
  go_wp2_with fail
  refine (Tryz.strings_Count_one s 10 _).mono ?_; rintro e w' ⟨rfl, rfl⟩; rw [hcnt]
  go_wp2_with (at_make; refine wpList_make_full _ rfl _ _ _ rfl w'.heap.size 9 i0 _ 1 Tryz.underlying142 hi hz0 hz1 .i64 .i64 _ _ (N + 1) rfl rfl (by first | rfl | omega) (by first | rfl | omega) (by rw [hz2]; omega) (by unfold maxLen; omega) (Nat.le_refl _) ?_; intro w1 hown1 hg1)
  have ho1 : OwS 9 w1 w'.heap.size _ _ := OwG.made strV_len (by omega) ByteArray.empty rfl hown1
  have hb1 : Below w'.heap.size w' w1 := (Below.refl _ _).grown hg1 (Nat.le_refl _) (by simp)
  have HO := hide ho1; have HB := hide hb1; clear ho1 hb1 hown1 hg1
  go_loopw [0, 10] (fun t iv wr => ∃ (i : Nat) (sk : ByteArray) (d : List ByteArray), i ≤ N ∧ t = .string sk ∧ iv = .int .i64 (i : Int) ∧ d.length = i ∧ partsB 10 s = d ++ partsB 10 sk ∧ sk.size ≤ s.size ∧ OwS 9 wr w'.heap.size (.slice (some ⟨w'.heap.size, 0, none⟩) (N + 1) (N + 1)) (d ++ List.replicate (N + 1 - i) ByteArray.empty) ∧ Below w'.heap.size w' wr) (fun _ iv _ => N - (intOf iv).toNat)
  case atStart => exact ⟨0, s, [], Nat.zero_le _, rfl, rfl, rfl, by simp, Nat.le_refl _, by simpa using HO.out, HB.out⟩
  case round =>
    obtain ⟨i, sk, d, hiN, rfl, rfl, hd, hpp, hsk, ho, hb⟩ := hrel
    have hc2 : sk.data.toList.count 10 + i = N := by
      have h1 := HP.out
      rw [hpp, List.length_append, length_partsB, hd] at h1; omega
    have HD := hide hd; have HPP := hide hpp; have HO := hide ho; have HB := hide hb; clear hd hpp ho hb
    have hcf := count_fst (c := 10) (l := sk.data.toList)
    have hll : sk.data.toList.length = sk.size := Array.length_toList
    rw [hll] at hcf
    have hfi := fst_idx 10 sk.data.toList
    rw [hll] at hfi
    by_cases hlt : i < N
    · have hm : fstI 10 sk.data.toList < sk.size := by
        by_cases h : fstI 10 sk.data.toList < sk.size
        · exact h
        · rw [if_neg h] at hcf; omega
      have hix := hfi.1 hm
      have HPH := hide (partsB_hit hm)
      generalize hM : fstI 10 sk.data.toList = m at *
      have HCF := hide hcf; have HFI := hide hfi; have HM := hide hM; have HC2 := hide hc2; clear hcf hfi hM hc2 hll
      have hq2 : wr.cell? ⟨w'.heap.size, i, none⟩ = some (.string ByteArray.empty) := by
        have := HO.out.cellN (k := i) (j := 0) (x := ByteArray.empty) (u := .string ByteArray.empty) (by rw [List.getElem?_append_right (by rw [HD.out]; omega), HD.out, Nat.sub_self, List.getElem?_replicate, if_pos (by omega)]) rfl
        simpa using this
      have hq3 := HO.out.freeN i
      go_wp2_with (go_at_call 213; refine (Tryz.strings_Index_one sk 10 _).mono ?_; rintro e w2 ⟨rfl, rfl⟩; rw [hix])
      go_roundw
      case rel => exact ⟨i + 1, sk.extract (m + 1) sk.size, d ++ [sk.extract 0 m], by omega, rfl, by go_num, by simp [HD.out], by rw [HPP.out, HPH.out]; simp, by rw [ByteArray.size_extract]; omega, by have := (OwS_set HO.out i (sk.extract 0 m)).1; rw [rep_set _ HD.out (by omega)] at this; exact this, HB.out.setCell (Nat.le_refl _) _⟩
      case measure => simp [intOf]; omega
    · obtain rfl : i = N := by omega
      have hm : ¬ fstI 10 sk.data.toList < sk.size := by
        intro h
        rw [if_pos h] at hcf; omega
      have HPH := hide (partsB_miss hm)
      have hq2 : wr.cell? ⟨w'.heap.size, i, none⟩ = some (.string ByteArray.empty) := by
        have := HO.out.cellN (k := i) (j := 0) (x := ByteArray.empty) (u := .string ByteArray.empty) (by rw [List.getElem?_append_right (by rw [HD.out]; omega), HD.out, Nat.sub_self, List.getElem?_replicate, if_pos (by omega)]) rfl
        simpa using this
      have hq3 := HO.out.freeN i
      clear hcf hfi hc2 hm hll
      go_wp2
      go_ret
      have hall : partsB 10 s = d ++ [sk] := by rw [HPP.out, HPH.out]
      have hres := (OwS_set HO.out i sk).1
      rw [rep_set _ HD.out (by omega), Nat.sub_self, List.replicate_zero, List.append_nil, ← hall] at hres
      have hlen : (partsB 10 s).length = i + 1 := HP.out
      rw [hlen]
      exact ⟨i + 1, rfl, hres, HB.out.setCell (Nat.le_refl _) _⟩
end Go.Proofs.YteiflbhcehajkaaGreatDoor
end
section
namespace Go.Proofs.YteiflbhcehajkaaGreatDoor
open Go.RowKit
theorem count_le (s : ByteArray) : s.data.toList.count 10 ≤ s.size := by
  have := List.count_le_length (a := (10 : UInt8)) (l := s.data.toList); rw [Array.length_toList] at this; exact this
theorem c_Split (s : ByteArray) (w : World) (hs : s.size ≤ 1048576) : Calls Tryz.prog 128 #[.string s, .string ⟨#[10]⟩] w fun e w' => ∃ cap, e = .returned (.slice (some ⟨w.heap.size, 0, none⟩) (partsB 10 s).length cap) ∧ OwS 9 w' w.heap.size (.slice (some ⟨w.heap.size, 0, none⟩) (partsB 10 s).length cap) (partsB 10 s) ∧ Below w.heap.size w w' := by
  go_enter Tryz.func128, Tryz.ntmps128
  go_wp2_with fail
  refine (c_genSplit s _ (by omega)).mono ?_; rintro e w1 ⟨cap, rfl, ho, hb⟩
  have HO := hide ho; have HB := hide hb; clear ho hb
  go_wp2
  go_ret
  exact ⟨cap, rfl, HO.out, HB.out⟩
theorem linesF_take (s : ByteArray) : linesF s = (partsB 10 s).take (s.data.toList.count 10) := by
  unfold linesF; rw [List.dropLast_eq_take, length_partsB]; rfl
set_option maxHeartbeats 1000000 in
theorem c_splitLines (s : ByteArray) (w : World) (hs : s.size ≤ 1048576) : Calls Tryz.prog 79 #[.string s] w fun e w' => ∃ v, e = .returned v ∧ OwS 9 w' w.heap.size v (linesF s) ∧ Below w.heap.size w w' := by
  have hl := length_partsB 10 s
  have hlt := linesF_take s
  have hn := count_le s
  generalize hN : s.data.toList.count 10 = N at *
  generalize hP : partsB 10 s = ps at *
  generalize hL : linesF s = ls at *
  have HP := hide hP; have HL := hide hL; have HLT := hide hlt; have HPL := hide hl; clear hP hL hlt hN
  go_enter Tryz.func79, Tryz.ntmps79
  go_wp2_with fail
  refine (c_Split s _ hs).mono ?_; rintro e w1 ⟨cap, rfl, ho, hb⟩
  rw [HP.out] at ho
  rw [HP.out, HPL.out]
  rw [HPL.out] at ho
  have hcp := cap_of ho.rd rfl
  have h1 : ps.length = N + 1 := hl
  have HO := hide ho; have HB := hide hb; clear ho hb hl
  have hcc : N ≤ cap := by omega
  have hc2 : cap ≤ 9223372036854775807 := hcp.2.2
  clear hcp
  go_wp2
  go_ret
  exact ⟨_, rfl, by rw [HLT.out]; exact HO.out.cut (by omega), HB.out⟩
/-- The state of a split between two bytes. -/
def partI (c : UInt8) (s : ByteArray) (f i : Nat) (out : List ByteArray) : Prop := partsB c s = out ++ (glue ((s.data.toList.drop f).take (i - f)) (partsL c (s.data.toList.drop i))).map mkS
theorem partI_start (c : UInt8) (s : ByteArray) : partI c s 0 0 [] := by
  unfold partI partsB
  have : glue ((s.data.toList.drop 0).take (0 - 0)) (partsL c (s.data.toList.drop 0)) = partsL c s.data.toList := by simp [glue_nil (partsL_ne _ _)]
  rw [this]; rfl
theorem partI_hit {c : UInt8} {s : ByteArray} {f i : Nat} {out : List ByteArray} (h : partI c s f i out) (hb : s.data.toList[i]? = some c) : partI c s (i + 1) (i + 1) (out ++ [s.extract f i]) := by
  have hi := (List.getElem?_eq_some_iff.1 hb).1
  have he := (List.getElem?_eq_some_iff.1 hb).2
  unfold partI at *
  rw [h, List.drop_eq_getElem_cons hi, he, glue_hit, mkS_sub]
  simp
theorem partI_miss {c b : UInt8} {s : ByteArray} {f i : Nat} {out : List ByteArray} (h : partI c s f i out) (hf : f ≤ i) (hb : s.data.toList[i]? = some b) (hc : b ≠ c) : partI c s f (i + 1) out := by
  have hi := (List.getElem?_eq_some_iff.1 hb).1
  have he := (List.getElem?_eq_some_iff.1 hb).2
  unfold partI at *
  rw [h, List.drop_eq_getElem_cons hi, he, glue_miss hc]
  have e : (s.data.toList.drop f).take (i - f) ++ [b] = (s.data.toList.drop f).take (i + 1 - f) := by
    rw [show i + 1 - f = (i - f) + 1 by omega, List.take_add_one, List.getElem?_drop, show f + (i - f) = i by omega, hb]; rfl
  rw [e]
theorem partI_end {c : UInt8} {s : ByteArray} {f : Nat} {out : List ByteArray} (h : partI c s f s.size out) : partsB c s = out ++ [s.extract f s.size] := by
  unfold partI at h
  have e : s.data.toList.drop s.size = [] := List.drop_eq_nil_of_le (by rw [Array.length_toList]; exact Nat.le_refl _)
  rw [h, e, mkS_sub]
  simp [partsL, glue]
theorem partI_len {c : UInt8} {s : ByteArray} {f i : Nat} {out : List ByteArray} (h : partI c s f i out) : out.length ≤ s.size := by
  have h1 := congrArg List.length h
  rw [length_partsB, List.length_append, List.length_map] at h1
  have h2 : s.data.toList.count c ≤ s.size := by have := List.count_le_length (a := c) (l := s.data.toList); rw [Array.length_toList] at this; exact this
  have h3 : 0 < (glue ((s.data.toList.drop f).take (i - f)) (partsL c (s.data.toList.drop i))).length := by
    cases hp : partsL c (s.data.toList.drop i) <;> simp [glue]
  omega
set_option maxHeartbeats 1000000 in
set_option maxRecDepth 20000 in
theorem c_l01Split (c : UInt8) (s : ByteArray) (w : World) (hs : s.size ≤ 1048576) : Calls Tryz.prog 114 #[.string s, .int .u8 (c.toNat : Int)] w fun e w' => ∃ v, e = .returned v ∧ OwS 9 w' w.heap.size v (partsB c s) ∧ Below w.heap.size w w' := by
  have hcc := UInt8.toNat_lt c
  generalize hcn : c.toNat = cn at *
  have HCN := hide hcn; clear hcn
  go_enter Tryz.func114, Tryz.ntmps114
  go_wp2
  go_loopw [5, 6, 7] (fun o fv iv wr => ∃ (f i : Nat) (out : List ByteArray), f ≤ i ∧ i ≤ s.size ∧ fv = .int .i64 (f : Int) ∧ iv = .int .i64 (i : Int) ∧ partI c s f i out ∧ OwS 9 wr w.heap.size o out ∧ Below w.heap.size w wr) (fun _ _ iv _ => s.size - (intOf iv).toNat)
  case atStart => exact ⟨0, 0, [], Nat.le_refl _, Nat.zero_le _, rfl, rfl, partI_start _ _, new_str w, (Below.refl _ _).alloc (Nat.le_refl _) _⟩
  case round =>
    obtain ⟨f, i, out, hfi, his, rfl, rfl, hp, ho, hb⟩ := hrel
    have hpl := partI_len hp
    have HP := hide hp; have HO := hide ho; have HB := hide hb; have hsz := hb.size; clear hp ho hb
    by_cases hlt : i < s.size
    · have hgb : s.data.toList[i]? = some (s.data.toList[i]'(by rw [Array.length_toList]; exact hlt)) := List.getElem?_eq_getElem _
      have hbb : bA s i = (s.data.toList[i]'(by rw [Array.length_toList]; exact hlt)).toNat := by unfold bA; rw [List.getD_eq_getElem?_getD, hgb]; rfl
      have hge := bA_get hlt
      generalize hgg : s.data.toList[i]'(by rw [Array.length_toList]; exact hlt) = b at *
      have HG := hide hgb; clear hgb hgg
      by_cases hbc : bA s i = cn
      · have hb2 : ((bA s i : Int) == (cn : Int)) = true := by rw [hbc]; simp
        have HH := hide (show b = c from UInt8.toNat_inj.1 (by rw [← hbb, hbc, HCN.out])); clear hbc hbb
        rw [← hge] at hb2
        go_wp2_with (at_builtin; refine app1_str (n := s.extract f i) rfl _ _ rfl rfl HO.out rfl (by omega) hsz ?_; intro v1 w1 ho1 hg1 hv1; have hb1 := below_own HB.out HO.out.2 hg1 (Nat.le_refl _) hsz; have HO1 := hide ho1; have HB1 := hide hb1; clear ho1 hb1 hg1 hv1)
        go_roundw
        case rel => exact ⟨i + 1, i + 1, out ++ [s.extract f i], by omega, by omega, by go_num, by go_num, partI_hit HP.out (by rw [HG.out, HH.out]), HO1.out, HB1.out⟩
        case measure => simp [intOf]; omega
      · have hb2 : ((bA s i : Int) == (cn : Int)) = false := by simp; omega
        have HH := hide (show b ≠ c from fun e => hbc (by rw [hbb, e, HCN.out])); clear hbc hbb
        rw [← hge] at hb2
        go_wp2
        go_roundw
        case rel => exact ⟨f, i + 1, out, by omega, by omega, rfl, by go_num, partI_miss HP.out hfi HG.out HH.out, HO.out, HB.out⟩
        case measure => simp [intOf]; omega
    · obtain rfl : i = s.size := by omega
      have HE := hide (partI_end HP.out)
      go_wp2_with (at_builtin; refine app1_str (n := s.extract f s.size) rfl _ _ rfl rfl HO.out rfl (by omega) hsz ?_; intro v1 w1 ho1 hg1 hv1; have hb1 := below_own HB.out HO.out.2 hg1 (Nat.le_refl _) hsz; have HO1 := hide ho1; have HB1 := hide hb1; clear ho1 hb1 hg1 hv1)
      go_ret
      exact ⟨_, rfl, by rw [HE.out]; exact HO1.out, HB1.out⟩
end Go.Proofs.YteiflbhcehajkaaGreatDoor
end
section
namespace Go.Proofs.YteiflbhcehajkaaGreatDoor
open Go.RowKit
end Go.Proofs.YteiflbhcehajkaaGreatDoor
end
