/- Contracts: texts drawn out of a source. Contracts: drawn lines. Contracts: drawn changes of lines. -/
import Derived.Test.YtpmflkoepnanoaaDoorRs
import Derived.Test.YtpmflkoepnanoaaDoorMa
import Derived.Test.YtpmflkoepnanoaaDoorTc
import Derived.Deep.RegionHeld3
import Derived.Deep.RegionHeldLaw
import Derived.Test.YtpmflkoepnanoaaDoorUx
namespace Go.Proofs.YtpmflkoepnanoaaDoor
section
open Go.RowKit
theorem RdG.grown {α : Type} {enc : α → List Value} {sz : Nat} {w w' : World} {v : Value} {xs : List α} {row : Option Nat} (h : RdG enc sz w v xs) (hg : w.grownBy w' row) (hv : ∀ b, v.ownBlock = some b → some b ≠ row) : RdG enc sz w' v xs := ⟨h.1, Rd.grown h.2 hg hv⟩
theorem OwG.grb {α : Type} {enc : α → List Value} {sz : Nat} {E : TypeId} {w w' : World} {B g : Nat} {v : Value} {xs : List α} (h : OwG enc sz E w B v xs) (hg : w.grownBy w' (some g)) (hgB : g < B) : OwG enc sz E w' B v xs := by
  refine ⟨h.1, h.2.1, ?_⟩
  rcases h.2.2 with hn | ⟨b, cap, cur, rfl, hbg, hb, rest⟩
  · exact .inl hn
  · exact .inr ⟨b, cap, cur, rfl, hbg, by rw [hg.block b (Array.getElem?_eq_some_iff.1 hb).1 (by intro e; injection e with e; omega)]; exact hb, rest⟩
def TxR (g : Nat) (cv : Value) (at' : Nat) (p : ByteArray → Prop) (w : World) (e : Ending) (w' : World) : Prop := ∃ (x : ByteArray) (at2 : Nat), e = .returned (.string x) ∧ p x ∧ at2 ≤ at' + 2 ∧ Src w' g cv at2 ∧ Gr g w w'
set_option maxHeartbeats 1000000 in
set_option maxRecDepth 100000 in
theorem c_text (g : Nat) (cv v : Value) (xs : List ByteArray) (bs : List UInt8) (at' : Nat) (w : World) (h : Src w g cv at') (hr : RdY w cv bs) (hv : RdS w v xs) (hxl : 1 ≤ xs.length ∧ xs.length ≤ 60000) (hat : at' ≤ 1073741000) (hbs : bs.length ≤ 1073741824) (hg : 0 < bs.length → ∀ b, cv.ownBlock = some b → b ≠ g) (hvg : ∀ b, v.ownBlock = some b → b ≠ g) :
    Calls Tryd.prog 79 #[.pointer (some ⟨g, 0, none⟩), v] w (TxR g cv at' (fun x => x ∈ xs) w) := by
  have H := hide h; have HR := hide hr; have HV := hide hv
  obtain ⟨A, cap, rfl, hl, hc, _⟩ := hv.openS
  clear h hr hv
  go_enter Tryd.func79, Tryd.ntmps79
  go_wp2_with fail
  refine (c_pick g cv bs at' xs.length _ H.out HR.out hat hbs hg hxl).mono ?_; rintro e w1 ⟨x, at2, rfl, hx, ha2, hs1, hg1⟩
  have hv1 := HV.out.grown hg1.1 (fun b e1 e2 => by injection e2 with e2; exact hvg b e1 e2)
  obtain ⟨A', cap', he, _, _, hx1⟩ := hv1.openS
  injection he with e1 _ e3
  subst e1 e3
  obtain ⟨b, off, rfl, _, hcell⟩ := hx1 x xs[x] (List.getElem?_eq_getElem hx)
  have HS1 := hide hs1; have HG1 := hide hg1; have HM := hide (List.getElem_mem hx); clear hs1 hg1 hx1 hv1
  generalize xs[x] = y at *
  go_wp2
  go_ret
  exact ⟨y, at2, rfl, HM.out, by omega, HS1.out, HG1.out⟩
def OnR (g : Nat) (cv : Value) (at' : Nat) (w : World) (e : Ending) (w' : World) : Prop := ∃ (b : Bool) (at2 : Nat), e = .returned (.bool b) ∧ at2 ≤ at' + 2 ∧ Src w' g cv at2 ∧ Gr g w w'
set_option maxHeartbeats 1000000 in
theorem c_one (g : Nat) (cv : Value) (bs : List UInt8) (at' n : Nat) (w : World) (h : Src w g cv at') (hr : RdY w cv bs) (hat : at' ≤ 1073741000) (hbs : bs.length ≤ 1073741824) (hg : 0 < bs.length → ∀ b, cv.ownBlock = some b → b ≠ g) (hn : 1 ≤ n ∧ n ≤ 60000) :
    Calls Tryd.prog 80 #[.pointer (some ⟨g, 0, none⟩), .int .i64 (n : Int)] w (OnR g cv at' w) := by
  have H := hide h; have HR := hide hr; clear h hr
  go_enter Tryd.func80, Tryd.ntmps80
  go_wp2_with fail
  refine (c_pick g cv bs at' n _ H.out HR.out hat hbs hg hn).mono ?_; rintro e w1 ⟨x, at2, rfl, hx, ha2, hs1, hg1⟩
  have HS1 := hide hs1; have HG1 := hide hg1; clear hs1 hg1
  go_wp2
  go_ret
  exact ⟨_, at2, rfl, by omega, HS1.out, HG1.out⟩
/-- A list of texts laid in a block of its own. -/
theorem lit_str (w : World) (cs : Array Value) (xs : List ByteArray) (n : Nat) (hn : cs.size = n) (hc : cs.toList = xs.map Value.string) (h0 : 0 < n) (hl : n ≤ 1000) : RdS (w.alloc (.cells cs 9)) (.slice (some ⟨w.heap.size, 0, none⟩) n n) xs := by
  have hxl : xs.length = n := by rw [← hn, ← Array.length_toList, hc, List.length_map]
  refine ⟨strV_len, flat_len strV_len _, some ⟨w.heap.size, 0, none⟩, n, by rw [hxl], by omega, by omega, fun _ => ⟨w.heap.size, 0, rfl, by simp, fun j u hu => ?_⟩⟩
  have hm : ∀ l : List ByteArray, l.flatMap strV = l.map Value.string := by
    intro l
    induction l with
    | nil => rfl
    | cons x t ih => rw [List.flatMap_cons, ih]; rfl
  have := (Bk.born w 9 cs).cell j
  rw [Nat.zero_add, this, ← Array.getElem?_toList, hc, ← hm xs]
  exact hu
end
section
open Go.RowKit
/-- A line that holds no newline and is short. -/
def Lne (x : ByteArray) : Prop := Pln x ∧ x.size ≤ 1000
def lits7 : List ByteArray := [⟨#[97]⟩, ⟨#[98]⟩, ⟨#[99]⟩, ⟨#[100]⟩, ⟨#[101]⟩, ⟨#[]⟩, ⟨#[97, 32, 98]⟩]
theorem lits7_lne : ∀ x ∈ lits7, Lne x := by
  intro x hx
  simp only [lits7, List.mem_cons, List.not_mem_nil, or_false] at hx
  rcases hx with rfl | rfl | rfl | rfl | rfl | rfl | rfl <;> exact ⟨by unfold Pln; decide, by decide⟩
def DlR (g : Nat) (cv : Value) (a most : Nat) (w : World) (e : Ending) (w' : World) : Prop := ∃ (v : Value) (xs : List ByteArray) (a2 : Nat), e = .returned v ∧ OwS 9 w' w.heap.size v xs ∧ (∀ x ∈ xs, Lne x) ∧ xs.length ≤ most ∧ a2 ≤ a + 2 + 2 * most ∧ Src w' g cv a2 ∧ w.grownBy w' (some g)
set_option maxHeartbeats 2000000 in
set_option maxRecDepth 100000 in
theorem c_l32DrawLines (g : Nat) (cv : Value) (bs : List UInt8) (a most : Nat) (w : World) (h : Src w g cv a) (hr : RdY w cv bs) (hat : a ≤ 1000000000) (hbs : bs.length ≤ 1073741824) (hg : 0 < bs.length → ∀ b, cv.ownBlock = some b → b ≠ g) (hm : most ≤ 4000) :
    Calls Tryd.prog 32 #[.pointer (some ⟨g, 0, none⟩), .int .i64 (most : Int)] w (DlR g cv a most w) := by
  have H := hide h; have HR := hide hr
  have hgl : g < w.heap.size := by obtain ⟨z, _, hb⟩ := h; exact hb.lt
  have HGL := hide hgl
  clear h hr hgl
  have HN := hide (new_str w)
  have HA := hide (World.grownBy_alloc w (.cells #[] 9) (some g))
  have HHD := hide hg; clear hg
  obtain ⟨m1, hm1⟩ : ∃ m1, most + 1 = m1 := ⟨_, rfl⟩
  have em1 : (most : Int) + 1 = (m1 : Int) := by omega
  go_enter Tryd.func32, Tryd.ntmps32
  go_wp2_with fail
  refine (c_pick g cv bs a m1 _ (H.out.alloc _) (Rd.alloc HR.out _) (by omega) hbs HHD.out (by omega)).mono ?_; rintro e w1 ⟨K, a1, rfl, hK, ha1, hs1, hg1⟩
  have HS1 := hide hs1; have HG1 := hide (HA.out.trans hg1.1); have HO1 := hide (HN.out.grb hg1.1 HGL.out); clear hs1 hg1
  have hKm : K ≤ most := by omega
  clear em1 hm1 hK
  go_wp2
  go_loopw [5, 6] (fun o kk wr => ∃ (k c : Nat) (out : List ByteArray), k ≤ K ∧ kk = .int .i64 k ∧ (∀ y ∈ out, Lne y) ∧ out.length + k = K ∧ c ≤ a1 + 2 * (K - k) ∧ Src wr g cv c ∧ OwS 9 wr w.heap.size o out ∧ w.grownBy wr (some g)) (fun _ kk _ => (intOf kk).toNat)
  case atStart => exact ⟨K, a1, [], Nat.le_refl _, rfl, by simp, by simp, by omega, HS1.out, HO1.out, HG1.out⟩
  case round =>
    obtain ⟨k, c, out, hkK, rfl, hos, hol, hc, hs, ho, hgb⟩ := hrel
    have HS := hide hs; have HO := hide ho; have HG := hide hgb; have HOS := hide hos; have hsz : w.heap.size ≤ wr.heap.size := hgb.size
    clear hs ho hgb hos
    by_cases hk : 0 < k
    · have hal : out.length + 1 ≤ 8796093022208 := by omega
      have hlit := lit_str wr #[.string ⟨#[97]⟩, .string ⟨#[98]⟩, .string ⟨#[99]⟩, .string ⟨#[100]⟩, .string ⟨#[101]⟩, .string ⟨#[]⟩, .string ⟨#[97, 32, 98]⟩] lits7 7 rfl rfl (by omega) (by omega)
      have hba := (Below.refl wr.heap.size wr).alloc (Nat.le_refl _) (.cells #[.string ⟨#[97]⟩, .string ⟨#[98]⟩, .string ⟨#[99]⟩, .string ⟨#[100]⟩, .string ⟨#[101]⟩, .string ⟨#[]⟩, .string ⟨#[97, 32, 98]⟩] 9)
      have HLIT := hide hlit; have HOa := hide (HO.out.all hba); have HGa := hide (HG.out.trans (World.grownBy_alloc wr (.cells #[.string ⟨#[97]⟩, .string ⟨#[98]⟩, .string ⟨#[99]⟩, .string ⟨#[100]⟩, .string ⟨#[101]⟩, .string ⟨#[]⟩, .string ⟨#[97, 32, 98]⟩] 9) (some g)))
      have HSa := hide (HS.out.alloc (.cells #[.string ⟨#[97]⟩, .string ⟨#[98]⟩, .string ⟨#[99]⟩, .string ⟨#[100]⟩, .string ⟨#[101]⟩, .string ⟨#[]⟩, .string ⟨#[97, 32, 98]⟩] 9))
      clear hlit hba
      go_wp2_with fail
      refine (c_text g cv _ lits7 bs c _ HSa.out (HR.out.gro HGa.out HHD.out) HLIT.out (by decide) (by omega) hbs HHD.out (fun b e => by injection e with e; have h1 := HGL.out; simp at e; omega)).mono ?_; rintro e w4 ⟨x, c2, rfl, hx, hc2, hs4, hg4⟩
      have HX := hide (lits7_lne x hx); have HS4 := hide hs4; have HO4 := hide (HOa.out.grb hg4.1 HGL.out); have HG4 := hide (HGa.out.trans hg4.1); have hs4z : w.heap.size ≤ w4.heap.size := (HGa.out.trans hg4.1).size
      clear hx hs4 hg4
      have HOS2 := hide (show ∀ y ∈ out ++ [x], Lne y from fun y hy => by
        simp only [List.mem_append, List.mem_singleton] at hy
        rcases hy with hy | rfl
        · exact HOS.out y hy
        · exact HX.out)
      go_wp2_with (at_builtin; refine app1_str (n := x) rfl _ _ rfl rfl HO4.out rfl hal hs4z ?_; intro v5 w5 ho5 hg5 hv5; have HO5 := hide ho5; have HG5 := hide (HG4.out.andThen hg5 (fun j e => .inl (HO4.out.lt j e).1)); have HS5 := hide (HS4.out.grown hg5 (fun e => by have h1 := (HO4.out.lt _ e.symm).1; have h2 := HGL.out; omega)); clear ho5 hg5 hv5)
      go_roundw
      case rel => exact ⟨k - 1, c2, out ++ [x], by omega, by go_num, HOS2.out, by rw [List.length_append]; simp; omega, by omega, HS5.out, HO5.out, HG5.out⟩
      case measure => first | (simp [intOf]; done) | (simp [intOf]; omega)
    · go_wp2
      go_ret
      exact ⟨_, out, c, rfl, HO.out, HOS.out, by omega, by omega, HS.out, HG.out⟩
end
open Go.RowKit
/-- append of all elements of a slice that reads, at a step of a region that draws its order. -/
theorem step_mult {P : Program} {w : World} {ops : Array Oper} {o : Oper} {a : Act} {K : Act → World → Prop} {Q : Exit → Act → World → Prop} {E : Prop} (hgd : o.guard = none) (s x : Operand) (t : TypeId)
    (ho : o.op = .call { callee := .builtin .append, args := #[s, x], argTypes := #[t, t] })
    (base : Nat) (e : TypeId) (z : Value) (size bytes : Nat) (ht : P.underlying t = some (.slice e)) (hinfo : (P.info? e).map (fun i => (i.zero, i.size, i.bytes)) = some (some z, size, bytes))
    (hzs : z.cells.size = size) (hsz : 0 < size)
    (v : Value) (n : Nat) (xs : List Value) (hs : a.eval s = v) (hown : w.ownsRow base e size v n xs)
    (y : Value) (m : Nat) (ys : List Value) (hx : a.eval x = y) (hr : Rd w y size m ys) (h1 : ∀ u ∈ ys, u.oneCell' = true)
    (hbytes : (n + m) * bytes ≤ 140737488355328) (h63 : n + m ≤ maxLen) (hbase : base ≤ w.heap.size)
    (h : ∀ v' w', w'.ownsRow base e size v' (n + m) (xs ++ ys) → w.grownBy w' v.ownBlock → (∀ k, v'.ownBlock = some k → v.ownBlock = some k ∨ w.heap.size ≤ k) → K (a.put o.dst v') w') :
    if Region.wanted o (yielded ops a.tmps) = true then Oper.wp P o a w K Q else E := by
  have hw : Region.wanted o (yielded ops a.tmps) = true := by simp [Region.wanted, hgd]
  rw [if_pos hw]
  obtain ⟨i0, hi, hz0, hz1, hz2⟩ := info_parts hinfo
  obtain ⟨hl, A, cap, rfl, hc1, hc2, hcell⟩ := hr
  rcases Nat.eq_zero_or_pos m with hm | hm
  · subst hm
    have hn : ys = [] := List.eq_nil_of_length_eq_zero (by simpa using hl)
    subst hn
    have hrun : (Builtin.append_ #[t, t] o.type #[v, .slice A 0 cap]).run P w = .ok v w := by
      rcases hown.2 with ⟨rfl, rfl⟩ | ⟨g, cap', cur, rfl, _, _, hnc, _⟩
      · cases A <;> simp [Builtin.append_, run_underlying ht, sizeOf, typeInfo, hi, Builtin.lenOf, Builtin.firstCells, loadCells, loadCellsFrom]
      · cases A <;> simp [Builtin.append_, run_underlying ht, sizeOf, typeInfo, hi, Builtin.lenOf, Builtin.firstCells, hnc, storeCells, loadCells, loadCellsFrom]
    unfold Oper.wp execOp
    simp only [ho, resolve, invoke, builtin, Sem.run_bind, Sem.run_pure, Result.andThen_ok, List.map_toArray, List.map_cons, List.map_nil, hs, hx, hrun]
    exact h v w (by simpa using hown) (World.grownBy.refl _ _) fun k hk => .inl hk
  · obtain ⟨b, off, rfl, hb, hcc⟩ := hcell hm
    refine wp_append_lies w s x t ho base e i0 z size bytes ht hi hz0 hz1 hz2 hzs hsz v n xs hs hown ⟨b, off, none⟩ m cap ys hx hl ?_ h1 hm h63 hbytes hbase _ rfl ?_
    · intro j u hu
      rw [show (⟨b, off, none⟩ : Addr).add j = ⟨b, off + j, none⟩ by unfold Addr.add; split <;> simp_all]
      exact hcc j u hu
    · intro g cap' w' h2 h3 h4 _
      refine h _ w' h2 h3 fun k hk => ?_
      injection hk with hk
      subst hk
      rcases h4 with h4 | h4
      · exact .inl h4
      · exact .inr (by rw [h4]; exact Nat.le_refl _)
theorem step_str {w : World} {ops : Array Oper} {o : Oper} {a : Act} {K : Act → World → Prop} {Q : Exit → Act → World → Prop} {E : Prop} (hgd : o.guard = none) (s x : Operand)
    (ho : o.op = .call { callee := .builtin .append, args := #[s, x], argTypes := #[53, 53] }) {B : Nat} {v : Value} {xs : List ByteArray} (hs : a.eval s = v) (hown : OwS 9 w B v xs)
    {y : Value} {ys : List ByteArray} (hx : a.eval x = y) (hr : RdS w y ys) (hl : xs.length + ys.length ≤ 8796093022208) (hB : B ≤ w.heap.size)
    (h : ∀ v' w', OwS 9 w' B v' (xs ++ ys) → w.grownBy w' v.ownBlock → (∀ k, v'.ownBlock = some k → v.ownBlock = some k ∨ w.heap.size ≤ k) → K (a.put o.dst v') w') :
    if Region.wanted o (yielded ops a.tmps) = true then Oper.wp Tryd.prog o a w K Q else E :=
  step_mult hgd s x _ ho B _ _ 1 16 Tryd.underlying53 info_str rfl (by omega) v xs.length _ hs hown.2 y ys.length _ hx hr.2 (str_oneCell _) (by omega) (by unfold maxLen; omega) hB
    fun v' w' h1 h2 h3 => h v' w' ⟨strV_len, by rw [flat_app, List.length_append]; exact h1⟩ h2 h3
def lits4 : List ByteArray := [⟨#[120]⟩, ⟨#[121]⟩, ⟨#[97]⟩, ⟨#[98]⟩]
def lits3 : List ByteArray := [⟨#[120]⟩, ⟨#[121]⟩, ⟨#[122]⟩]
def lits2 : List ByteArray := [⟨#[120]⟩, ⟨#[101, 110, 100]⟩]
theorem lits4_lne : ∀ x ∈ lits4, Lne x := by
  intro x hx
  simp only [lits4, List.mem_cons, List.not_mem_nil, or_false] at hx
  rcases hx with rfl | rfl | rfl | rfl <;> exact ⟨by unfold Pln; decide, by decide⟩
theorem lits3_lne : ∀ x ∈ lits3, Lne x := by
  intro x hx
  simp only [lits3, List.mem_cons, List.not_mem_nil, or_false] at hx
  rcases hx with rfl | rfl | rfl <;> exact ⟨by unfold Pln; decide, by decide⟩
theorem lits2_lne : ∀ x ∈ lits2, Lne x := by
  intro x hx
  simp only [lits2, List.mem_cons, List.not_mem_nil, or_false] at hx
  rcases hx with rfl | rfl <;> exact ⟨by unfold Pln; decide, by decide⟩
theorem lne_snoc {out : List ByteArray} {x : ByteArray} (h : ∀ y ∈ out, Lne y) (hx : Lne x) : ∀ y ∈ out ++ [x], Lne y := fun y hy => by
  simp only [List.mem_append, List.mem_singleton] at hy
  rcases hy with hy | rfl
  · exact h y hy
  · exact hx
def EdR (g : Nat) (cv : Value) (a n : Nat) (w : World) (e : Ending) (w' : World) : Prop := ∃ (v : Value) (xs : List ByteArray) (a2 : Nat), e = .returned v ∧ OwS 9 w' w.heap.size v xs ∧ (∀ x ∈ xs, Lne x) ∧ xs.length ≤ 2 * n + 1 ∧ a2 ≤ a + 4 + 4 * n ∧ Src w' g cv a2 ∧ w.grownBy w' (some g)
set_option maxHeartbeats 4000000 in
set_option maxRecDepth 100000 in
theorem c_l32Edit (g : Nat) (cv v : Value) (ls : List ByteArray) (bs : List UInt8) (a : Nat) (w : World) (h : Src w g cv a) (hr : RdY w cv bs) (hv : RdS w v ls) (hls : ∀ x ∈ ls, Lne x) (hn : ls.length ≤ 4000) (hat : a ≤ 1000000000) (hbs : bs.length ≤ 1073741824) (hg : 0 < bs.length → ∀ b, cv.ownBlock = some b → b ≠ g) (hvg : ∀ b, v.ownBlock = some b → b ≠ g) :
    Calls Tryd.prog 34 #[.pointer (some ⟨g, 0, none⟩), v] w (EdR g cv a ls.length w) := by
  have H := hide h; have HR := hide hr; have HLS := hide hls
  have hgl : g < w.heap.size := by obtain ⟨z, _, hb⟩ := h; exact hb.lt
  have HGL := hide hgl
  obtain ⟨A, cap, rfl, hl1, hc1, hx1⟩ := hv.openS
  have HXV := hide hx1; have HVG := hide hvg
  clear h hr hgl hv hls hx1 hvg
  have HN := hide (new_str w)
  have HA := hide (World.grownBy_alloc w (.cells #[] 9) (some g))
  have HHD := hide hg; clear hg
  go_enter Tryd.func34, Tryd.ntmps34
  go_wp2
  go_loopw [5, 6] (fun o ii wr => ∃ (k c : Nat) (out : List ByteArray), k ≤ ls.length ∧ ii = .int .i64 (k : Int) ∧ (∀ y ∈ out, Lne y) ∧ out.length ≤ 2 * k ∧ c ≤ a + 4 * k ∧ Src wr g cv c ∧ OwS 9 wr w.heap.size o out ∧ w.grownBy wr (some g)) (fun _ ii _ => ls.length - (intOf ii).toNat)
  case atStart => exact ⟨0, a, [], Nat.zero_le _, rfl, by simp, by simp, by omega, H.out.alloc _, HN.out, HA.out⟩
  case round =>
    obtain ⟨k, c, out, hkn, rfl, hos, hol, hc, hs, ho, hgb⟩ := hrel
    have HS := hide hs; have HO := hide ho; have HG := hide hgb; have HOS := hide hos; have hsz : w.heap.size ≤ wr.heap.size := hgb.size
    clear hs ho hgb hos
    by_cases hlt : k < ls.length
    · have hlt3 : (k : Int) < (ls.length : Int) := by omega
      obtain ⟨y, hy⟩ : ∃ y, ls[k]? = some y := ⟨_, List.getElem?_eq_getElem hlt⟩
      have HY := hide (HLS.out y (List.mem_of_getElem? hy))
      obtain ⟨b, off, rfl, hbw, ey⟩ := HXV.out k y hy
      have hbg : b ≠ g := HVG.out b rfl
      have EY := hide ey; clear ey hy
      go_wp2_with fail
      refine (c_pick g cv bs c 8 _ HS.out (HR.out.gro HG.out HHD.out) (by omega) hbs HHD.out (by omega)).mono ?_; rintro e w2 ⟨x0, c1, rfl, hx0, hc1x, hs1, hg1⟩
      have HS2 := hide hs1; have HG2 := hide (HG.out.trans hg1.1); have HO2 := hide (HO.out.grb hg1.1 HGL.out); have hsz2 : w.heap.size ≤ w2.heap.size := (HG.out.trans hg1.1).size; clear hs1 hg1
      have hk2 : w2.cell? ⟨b, off + k, none⟩ = some (.string y) := (World.cell?_of_block (HG2.out.block b hbw (fun e => hbg (by injection e)))).trans EY.out
      have hbw2 : b < w2.heap.size := Nat.lt_of_lt_of_le hbw hsz2
      obtain ⟨xi, hxi⟩ : ∃ xi : Int, (x0 : Int) = xi := ⟨_, rfl⟩
      rw [hxi]
      have HKI := hide (show xi = 0 ∨ xi = 1 ∨ xi = 2 ∨ 3 ≤ xi by omega)
      clear hxi hx0
      rcases HKI.out with hi | hi | hi | hi
      · have t0 : (xi == 0) = true := by rw [hi]; rfl
        clear hi
        go_wp2
        go_roundw
        case rel => exact ⟨k + 1, c1, out, by omega, by go_num, HOS.out, by omega, by omega, HS2.out, HO2.out, HG2.out⟩
        case measure => simp [intOf]; omega
      · have t0 : (xi == 0) = false := by rw [hi]; rfl
        have t1 : (xi == 1) = true := by rw [hi]; rfl
        clear hi
        have hlit := lit_str w2 #[.string ⟨#[120]⟩, .string ⟨#[121]⟩, .string ⟨#[97]⟩, .string ⟨#[98]⟩] lits4 4 rfl rfl (by omega) (by omega)
        have hba := (Below.refl w2.heap.size w2).alloc (Nat.le_refl _) (.cells #[.string ⟨#[120]⟩, .string ⟨#[121]⟩, .string ⟨#[97]⟩, .string ⟨#[98]⟩] 9)
        have HLIT := hide hlit; have HOa := hide (HO2.out.all hba); have HGa := hide (HG2.out.trans (World.grownBy_alloc w2 (.cells #[.string ⟨#[120]⟩, .string ⟨#[121]⟩, .string ⟨#[97]⟩, .string ⟨#[98]⟩] 9) (some g))); have HSa := hide (HS2.out.alloc (.cells #[.string ⟨#[120]⟩, .string ⟨#[121]⟩, .string ⟨#[97]⟩, .string ⟨#[98]⟩] 9))
        clear hlit hba
        go_wp2_with fail
        refine (c_text g cv _ lits4 bs c1 _ HSa.out (HR.out.gro HGa.out HHD.out) HLIT.out (by decide) (by omega) hbs HHD.out (fun b e => by injection e with e; have h1 := HGL.out; simp at e; omega)).mono ?_; rintro e w4 ⟨x, c2, rfl, hx, hc2, hs4, hg4⟩
        have HX := hide (lits4_lne x hx); have HS4 := hide hs4; have HO4 := hide (HOa.out.grb hg4.1 HGL.out); have HG4 := hide (HGa.out.trans hg4.1); have hs4z : w.heap.size ≤ w4.heap.size := (HGa.out.trans hg4.1).size
        have hk4 : w4.cell? ⟨b, off + k, none⟩ = some (.string y) := (World.cell?_of_block (HG4.out.block b hbw (fun e => hbg (by injection e)))).trans EY.out
        clear hx hs4 hg4
        go_wp2_with (first | (at_builtin; refine app1_str (n := y) rfl _ _ rfl rfl HO5.out rfl (by first | omega | (simp; omega)) hs5z ?_; intro v6 w6 ho hgx hvx; have HO6 := hide ho; have HG6 := hide (HG5.out.andThen hgx (fun j e => .inl (HO5.out.lt j e).1)); have HS6 := hide (HS5.out.grown hgx (fun e => by have h1 := (HO5.out.lt _ e.symm).1; have h2 := HGL.out; omega)); have hs6z : w.heap.size ≤ w6.heap.size := HG6.out.size; have hk6 : w6.cell? ⟨b, off + k, none⟩ = some (.string y) := (World.cell?_of_block (HG6.out.block b hbw (fun e => hbg (by injection e)))).trans EY.out; clear ho hgx hvx) | (at_builtin; refine app1_str (n := x) rfl _ _ rfl rfl HO4.out rfl (by first | omega | (simp; omega)) hs4z ?_; intro v5 w5 ho hgx hvx; have HO5 := hide ho; have HG5 := hide (HG4.out.andThen hgx (fun j e => .inl (HO4.out.lt j e).1)); have HS5 := hide (HS4.out.grown hgx (fun e => by have h1 := (HO4.out.lt _ e.symm).1; have h2 := HGL.out; omega)); have hs5z : w.heap.size ≤ w5.heap.size := HG5.out.size; have hk5 : w5.cell? ⟨b, off + k, none⟩ = some (.string y) := (World.cell?_of_block (HG5.out.block b hbw (fun e => hbg (by injection e)))).trans EY.out; clear ho hgx hvx))
        go_roundw
        case rel => exact ⟨k + 1, c2, out ++ [x] ++ [y], by omega, by go_num, lne_snoc (lne_snoc HOS.out HX.out) HY.out, by simp; omega, by omega, HS6.out, HO6.out, HG6.out⟩
        case measure => simp [intOf]; omega
      · have t0 : (xi == 0) = false := by rw [hi]; rfl
        have t1 : (xi == 1) = false := by rw [hi]; rfl
        have t2 : (xi == 2) = true := by rw [hi]; rfl
        clear hi
        have hlit := lit_str w2 #[.string ⟨#[120]⟩, .string ⟨#[121]⟩, .string ⟨#[122]⟩] lits3 3 rfl rfl (by omega) (by omega)
        have hba := (Below.refl w2.heap.size w2).alloc (Nat.le_refl _) (.cells #[.string ⟨#[120]⟩, .string ⟨#[121]⟩, .string ⟨#[122]⟩] 9)
        have HLIT := hide hlit; have HOa := hide (HO2.out.all hba); have HGa := hide (HG2.out.trans (World.grownBy_alloc w2 (.cells #[.string ⟨#[120]⟩, .string ⟨#[121]⟩, .string ⟨#[122]⟩] 9) (some g))); have HSa := hide (HS2.out.alloc (.cells #[.string ⟨#[120]⟩, .string ⟨#[121]⟩, .string ⟨#[122]⟩] 9))
        clear hlit hba
        go_wp2
        have HSd := hide (show Src (w2.alloc (.cells #[.string ⟨#[120]⟩, .string ⟨#[121]⟩, .string ⟨#[122]⟩] 9)).drew g cv c1 from HSa.out); have HGd : Sec (w.grownBy (w2.alloc (.cells #[.string ⟨#[120]⟩, .string ⟨#[121]⟩, .string ⟨#[122]⟩] 9)).drew (some g)) := hide ⟨HGa.out.os, HGa.out.tape, HGa.out.output, HGa.out.size, HGa.out.block⟩; have HOd := hide (show OwS 9 (w2.alloc (.cells #[.string ⟨#[120]⟩, .string ⟨#[121]⟩, .string ⟨#[122]⟩] 9)).drew w.heap.size _ out from HOa.out); have HLd := hide (show RdS (w2.alloc (.cells #[.string ⟨#[120]⟩, .string ⟨#[121]⟩, .string ⟨#[122]⟩] 9)).drew _ lits3 from HLIT.out)
        go_region_held_law (fun w' => w'.cell? ⟨b, off + k, none⟩ = some (.string y)) (first | go_keep | exact hk4 | exact hk5) (first | (go_at_call 79; refine (c_text g cv _ lits3 bs c1 _ HSd.out (HR.out.gro HGd.out HHD.out) HLd.out (by decide) (by omega) hbs HHD.out (fun b e => by injection e with e; have h1 := HGL.out; simp at e; omega)).mono ?_; rintro e w4 ⟨x, c2, rfl, hx, hc2, hs4, hg4⟩; have HX := hide (lits3_lne x hx); have HS4 := hide hs4; have HO4 := hide (HOd.out.grb hg4.1 HGL.out); have HG4 := hide (HGd.out.trans hg4.1); have hs4z : w.heap.size ≤ w4.heap.size := (HGd.out.trans hg4.1).size; have hk4 : w4.cell? ⟨b, off + k, none⟩ = some (.string y) := (World.cell?_of_block (HG4.out.block b hbw (fun e => hbg (by injection e)))).trans EY.out; clear hx hs4 hg4) | (refine step_str rfl _ _ rfl rfl (HO4.out.all (by repeat (first | exact Below.refl _ _ | refine Below.drew ?_ | refine below_drewN ?_ _ | refine Below.alloc ?_ (by first | exact Nat.le_refl _ | (simp <;> omega)) _))) rfl (ys := [x, y]) (by first | exact lit_str w4 #[.string x, .string y] [x, y] 2 rfl rfl (by omega) (by omega)) (by show out.length + 2 ≤ _; omega) (by first | exact hs4z | (simp; omega)) ?_; intro v5 w5 ho5 hg5 hv5; have HO5 := hide ho5; have HG5 := hide ((HG4.out.trans (grown_below (by repeat (first | exact Below.refl _ _ | refine Below.drew ?_ | refine below_drewN ?_ _ | refine Below.alloc ?_ (by first | exact Nat.le_refl _ | (simp <;> omega)) _)) (some g))).andThen hg5 (fun j e => .inl (HO4.out.lt j e).1)); have HS5 := hide ((HS4.out.grown (grown_below (by repeat (first | exact Below.refl _ _ | refine Below.drew ?_ | refine below_drewN ?_ _ | refine Below.alloc ?_ (by first | exact Nat.le_refl _ | (simp <;> omega)) _)) none) (by simp)).grown hg5 (fun e => by have h1 := (HO4.out.lt _ e.symm).1; have h2 := HGL.out; omega)); have hk5 : w5.cell? ⟨b, off + k, none⟩ = some (.string y) := (World.cell?_of_block (HG5.out.block b hbw (fun e => hbg (by injection e)))).trans EY.out; clear ho5 hg5 hv5))
        go_wp2
        go_roundw
        case rel => exact ⟨k + 1, c2, out ++ [x, y], by omega, by go_num, (by have := lne_snoc (lne_snoc HOS.out HX.out) HY.out; simpa using this), by simp; omega, by omega, HS5.out, HO5.out, HG5.out⟩
        case measure => simp [intOf]; omega
      · have t0 : (xi == 0) = false := by simp; omega
        have t1 : (xi == 1) = false := by simp; omega
        have t2 : (xi == 2) = false := by simp; omega
        clear hi
        go_wp2_with (at_builtin; refine app1_str (n := y) rfl _ _ rfl rfl HO2.out rfl (by first | omega | (simp; omega)) hsz2 ?_; intro v6 w6 ho hgx hvx; have HO6 := hide ho; have HG6 := hide (HG2.out.andThen hgx (fun j e => .inl (HO2.out.lt j e).1)); have HS6 := hide (HS2.out.grown hgx (fun e => by have h1 := (HO2.out.lt _ e.symm).1; have h2 := HGL.out; omega)); have hs6z : w.heap.size ≤ w6.heap.size := HG6.out.size; have hk6 : w6.cell? ⟨b, off + k, none⟩ = some (.string y) := (World.cell?_of_block (HG6.out.block b hbw (fun e => hbg (by injection e)))).trans EY.out; clear ho hgx hvx)
        go_roundw
        case rel => exact ⟨k + 1, c1, out ++ [y], by omega, by go_num, lne_snoc HOS.out HY.out, by simp; omega, by omega, HS6.out, HO6.out, HG6.out⟩
        case measure => simp [intOf]; omega
    · have hkn2 : k = ls.length := by omega
      have HKN := hide hkn2; clear hkn2
      go_wp2_with fail
      refine (c_one g cv bs c 5 _ HS.out (HR.out.gro HG.out HHD.out) (by omega) hbs HHD.out (by omega)).mono ?_; rintro e w2 ⟨bb, c1, rfl, hc1x, hs1, hg1⟩
      have HS2 := hide hs1; have HG2 := hide (HG.out.trans hg1.1); have HO2 := hide (HO.out.grb hg1.1 HGL.out); have hsz2 : w.heap.size ≤ w2.heap.size := (HG.out.trans hg1.1).size; clear hs1 hg1
      cases bb
      · go_wp2
        go_ret
        exact ⟨_, out, c1, rfl, HO2.out, HOS.out, by omega, by omega, HS2.out, HG2.out⟩
      · have hlit := lit_str w2 #[.string ⟨#[120]⟩, .string ⟨#[101, 110, 100]⟩] lits2 2 rfl rfl (by omega) (by omega)
        have hba := (Below.refl w2.heap.size w2).alloc (Nat.le_refl _) (.cells #[.string ⟨#[120]⟩, .string ⟨#[101, 110, 100]⟩] 9)
        have HLIT := hide hlit; have HOa := hide (HO2.out.all hba); have HGa := hide (HG2.out.trans (World.grownBy_alloc w2 (.cells #[.string ⟨#[120]⟩, .string ⟨#[101, 110, 100]⟩] 9) (some g))); have HSa := hide (HS2.out.alloc (.cells #[.string ⟨#[120]⟩, .string ⟨#[101, 110, 100]⟩] 9))
        clear hlit hba
        go_wp2_with fail
        refine (c_text g cv _ lits2 bs c1 _ HSa.out (HR.out.gro HGa.out HHD.out) HLIT.out (by decide) (by omega) hbs HHD.out (fun b e => by injection e with e; have h1 := HGL.out; simp at e; omega)).mono ?_; rintro e w4 ⟨x, c2, rfl, hx, hc2, hs4, hg4⟩
        have HX := hide (lits2_lne x hx); have HS4 := hide hs4; have HO4 := hide (HOa.out.grb hg4.1 HGL.out); have HG4 := hide (HGa.out.trans hg4.1); have hs4z : w.heap.size ≤ w4.heap.size := (HGa.out.trans hg4.1).size
        clear hx hs4 hg4
        go_wp2_with (at_builtin; refine app1_str (n := x) rfl _ _ rfl rfl HO4.out rfl (by omega) hs4z ?_; intro v5 w5 ho hgx hvx; have HO5 := hide ho; have HG5 := hide (HG4.out.andThen hgx (fun j e => .inl (HO4.out.lt j e).1)); have HS5 := hide (HS4.out.grown hgx (fun e => by have h1 := (HO4.out.lt _ e.symm).1; have h2 := HGL.out; omega)); clear ho hgx hvx)
        go_ret
        exact ⟨_, out ++ [x], c2, rfl, HO5.out, lne_snoc HOS.out HX.out, by simp; omega, by omega, HS5.out, HG5.out⟩
end Go.Proofs.YtpmflkoepnanoaaDoor
