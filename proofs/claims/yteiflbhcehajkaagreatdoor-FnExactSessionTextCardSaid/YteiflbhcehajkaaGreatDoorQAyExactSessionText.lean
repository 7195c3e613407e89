/- Contracts: the text of a session, by the program. A law of the model: the bytes of a string appended to a slice of bytes of the call's own. No program is named here. -/
import Derived.Test.YteiflbhcehajkaaGreatDoorQApExactSessionText
import Derived.Test.YteiflbhcehajkaaGreatDoorQAxExactSessionText
import Derived.Test.YteiflbhcehajkaaGreatDoorQAwExactSessionText
import Derived.Test.YteiflbhcehajkaaGreatDoorQAaExactSessionText
set_option linter.unusedVariables false
set_option linter.unusedSimpArgs false
section
namespace Go.Proofs.YteiflbhcehajkaaGreatDoor
open Go.RowKit
theorem zip_at {α β : Type} {xs : List α} {ys : List β} {k : Nat} {x : α} {y : β} (hx : xs[k]? = some x) (hy : ys[k]? = some y) : (xs.zip ys)[k]? = some (x, y) := by
  rw [List.getElem?_zip_eq_some]; exact ⟨hx, hy⟩
theorem zip_all {α β : Type} {xs : List α} {ys : List β} (h : xs.length = ys.length) : (xs.zip ys).take xs.length = xs.zip ys := List.take_of_length_le (by rw [List.length_zip]; omega)
set_option maxHeartbeats 16000000 in
set_option maxRecDepth 100000 in
theorem c_sessionText (x : GSession) (cs : List Value) (w : World) (hS : SessionOk x) (hg : x.good) (hs : x.small) (ht : TB w) (h : T.rds w x.fs cs) : Calls Tryz.prog 28 #[.agg cs.toArray] w fun e w' => e = .returned (.string (mkS (sesL x))) ∧ Below w.heap.size w w' := by
  obtain ⟨v1, v2, v3, v4, v5, rfl, h1, h2, h3, h4, h5⟩ := GSession.rd_open h
  clear h
  have R1 := hide h1; obtain ⟨va1, vc1, rfl, vl1, vm1, vx1⟩ := T.rd_openG h1
  have HX1 := hide vx1; clear vx1 h1
  have R2 := hide h2; obtain ⟨va2, vc2, rfl, vl2, vm2, vx2⟩ := T.rd_openG h2
  have HX2 := hide vx2; clear vx2 h2
  have h3i := T.rd_ints.1 h3; obtain ⟨va3, vc3, rfl, vl3, vm3, vx3⟩ := h3i.open_
  have R3 := hide h3i; have HX3 := hide vx3; clear vx3 h3 h3i
  have R4 := hide h4; obtain ⟨va4, vc4, rfl, vl4, vm4, vx4⟩ := T.rd_openG h4
  have HX4 := hide vx4; clear vx4 h4
  have R5 := hide h5; obtain ⟨va5, vc5, rfl, vl5, vm5, vx5⟩ := T.rd_openG h5
  have HX5 := hide vx5; clear vx5 h5
  have HB0 := hide (show Below w.heap.size w (w.alloc (.cells #[.int .i64 x.fLength, (.slice va1 x.fSources.length vc1), (.slice va2 x.fTracks.length vc2), (.slice va3 x.fFeeds.length vc3), (.slice va4 x.fEffects.length vc4), (.slice va5 x.fMixer.fStrips.length vc5)] 39)) from (Below.refl _ _).alloc (Nat.le_refl _) _)
  have HK0 := hide (Bk.born w 39 #[.int .i64 x.fLength, (.slice va1 x.fSources.length vc1), (.slice va2 x.fTracks.length vc2), (.slice va3 x.fFeeds.length vc3), (.slice va4 x.fEffects.length vc4), (.slice va5 x.fMixer.fStrips.length vc5)])
  have HTB := hide ht; have HS := hide hS; have HSM := hide hs
  obtain ⟨y1, y2, y3⟩ := ses_parts hS hg
  have GL := hide hg.1; have GS := hide hg.2.1; have GT := hide hg.2.2.1; have GF := hide hg.2.2.2.1; have GE := hide hg.2.2.2.2.1; have GM := hide (show x.fMixer.good from hg.2.2.2.2.2); clear hg ht
  have zL : (decS x.fLength).size ≤ 21 := by unfold decS; rw [size_mkS]; exact dec_len GL.out
  have HY1 := hide (show (lineL (wrdL [115, 101, 115, 115, 105, 111, 110] [x.fLength]) ++ x.fSources.flatMap (fun s => lineL (wrdL [115, 111, 117, 114, 99, 101] s))).length ≤ 528072 from y1); have HY2 := hide y2; have HY3 := hide y3; clear y1 y2 y3
  have HSES := hide (show sesL x = (lineL (wrdL [115, 101, 115, 115, 105, 111, 110] [x.fLength]) ++ x.fSources.flatMap (fun s => lineL (wrdL [115, 111, 117, 114, 99, 101] s))) ++ (x.fTracks.zip x.fFeeds).flatMap trackL ++ ((linesF (mkS (mixL x.fMixer))).zip x.fEffects).flatMap strL from rfl)
  have HEF := hide (hS.effect); have HFD := hide hS.feed; have HFW := hide hS.few
  have hml : (linesF (mkS (mixL x.fMixer))).length = x.fEffects.length := (mix_lines hS.mixer).trans hS.effect.symm
  have HML := hide hml; have hmz := mix_len hS.mixer GM.out; have HMZ := hide hmz; clear hml hmz
  have HLE := hide (fun (l : ByteArray) (hl : l ∈ linesF (mkS (mixL x.fMixer))) => (Nat.le_trans (line_le hl) (by rw [size_mkS]; exact HMZ.out) : l.size ≤ 1608))
  have HSPL := hide (fun W => c_splitLines (mkS (mixL x.fMixer)) W (by rw [size_mkS]; exact Nat.le_trans HMZ.out (by decide)))
  generalize linesF (mkS (mixL x.fMixer)) = ml at *
  have HMXT := hide (fun (W : World) (cs : List Value) (h : T.rds W x.fMixer.fs cs) (h2 : TB W) => c_MixerText x.fMixer cs W HS.out.mixer GM.out h2 h)
  have zmx : (mkS (mixL x.fMixer)).size ≤ 1608 := by rw [size_mkS]; exact HMZ.out
  generalize mkS (mixL x.fMixer) = mx at *
  generalize sesL x = tx at *; clear hS hs
  have h8 : (⟨#[115, 101, 115, 115, 105, 111, 110, 32]⟩ : ByteArray).size = 8 := rfl; have h10 : (⟨#[10]⟩ : ByteArray).size = 1 := rfl; have h6 : (⟨#[116, 114, 97, 99, 107, 32]⟩ : ByteArray).size = 6 := rfl; have h6' : (⟨#[115, 116, 114, 105, 112, 32]⟩ : ByteArray).size = 6 := rfl
  have HE0 := hide (show ((⟨#[115, 101, 115, 115, 105, 111, 110, 32]⟩ : ByteArray) ++ decS x.fLength) ++ (⟨#[10]⟩ : ByteArray) = mkS (lineL (wrdL [115, 101, 115, 115, 105, 111, 110] [x.fLength])) by apply str_is; simp [dat_app, dat_dec, wrdL, blanks, blankL, lineL])
  have z0 : ((⟨#[115, 101, 115, 115, 105, 111, 110, 32]⟩ : ByteArray) ++ decS x.fLength).size ≤ 29 := by rw [ByteArray.size_append, h8]; omega
  generalize lineL (wrdL [115, 101, 115, 115, 105, 111, 110] [x.fLength]) = l0 at *
  go_enter Tryz.func28, Tryz.ntmps28
  go_wp2_with fail
  refine (c_iDec x.fLength _ (HTB.out.below HB0.out) GL.out.1 GL.out.2).mono ?_; rintro e w1 ⟨rfl, hd⟩
  have hb : Below (w.alloc (.cells #[.int .i64 x.fLength, (.slice va1 x.fSources.length vc1), (.slice va2 x.fTracks.length vc2), (.slice va3 x.fFeeds.length vc3), (.slice va4 x.fEffects.length vc4), (.slice va5 x.fMixer.fStrips.length vc5)] 39)).heap.size (w.alloc (.cells #[.int .i64 x.fLength, (.slice va1 x.fSources.length vc1), (.slice va2 x.fTracks.length vc2), (.slice va3 x.fFeeds.length vc3), (.slice va4 x.fEffects.length vc4), (.slice va5 x.fMixer.fStrips.length vc5)] 39)) w1 := by first | exact hd | exact hd.to_below _ | exact hd ▸ Below.refl _ _
  have HK1 := hide (HK0.out.below hb HK0.out.lt); have HB1 := hide (bthen HB0.out HB0.out.size hb); clear hb hd; have ka := HK1.out.cell; have la := HK1.out.lt
  obtain ⟨X0, hX0⟩ : ∃ X0, ((⟨#[115, 101, 115, 115, 105, 111, 110, 32]⟩ : ByteArray) ++ decS x.fLength) ++ (⟨#[10]⟩ : ByteArray) = X0 := ⟨_, rfl⟩
  have HX0e := hide (show X0 = mkS l0 by rw [← hX0, HE0.out])
  go_wp2
  clear hX0 z0
  go_loopw [3, 20] (fun o i wr => ∃ (k : Nat) (X : ByteArray), k ≤ x.fSources.length ∧ i = .int .i64 (k : Int) ∧ o = .string X ∧ X = mkS (l0 ++ (x.fSources.take k).flatMap (fun s => lineL (wrdL [115, 111, 117, 114, 99, 101] s))) ∧ Below w1.heap.size w1 wr) (fun _ i _ => x.fSources.length - (intOf i).toNat)
  case atStart => exact ⟨0, _, Nat.zero_le _, rfl, rfl, by rw [HX0e.out, List.take_zero, List.flatMap_nil, List.append_nil], Below.refl _ _⟩
  case round =>
    obtain ⟨k, X, hk, rfl, rfl, hX, hbw⟩ := hrel
    have zX : X.size ≤ 1100000 := by rw [hX, size_mkS]; simp only [List.length_append]; have h1 := flat_cut (xs := x.fSources) (fun s => lineL (wrdL [115, 111, 117, 114, 99, 101] s)) k; have h2 := HY1.out; simp only [List.length_append] at h2; omega
    have HXX := hide hX; have HW := hide hbw; have HB := hide (bthen HB1.out HB1.out.size hbw); have HK := hide (HK1.out.below hbw HK1.out.lt); clear hX hbw ka la
    have ka := HK.out.cell; have la := HK.out.lt
    by_cases hlt : k < x.fSources.length
    ·
      have hgk := List.getElem?_eq_getElem hlt
      obtain ⟨b1, off, cs1, rfl, hb1, hcs, hcell⟩ := HX1.out k x.fSources[k] hgk
      have hgl := GS.out x.fSources[k] (List.getElem_mem hlt); have hsl := HSM.out.1.2 x.fSources[k] (List.getElem_mem hlt)
      have hs4 : x.fSources[k].length ≤ 4000 := by have e := HS.out.sources.each k _ hgk; unfold sigB at e; simp only [Bool.and_eq_true, decide_eq_true_eq] at e; exact e.1
      generalize x.fSources[k] = l at *
      have HG := hide hgk; have GL1 := hide hgl; have SL := hide hsl; clear hgk hgl hsl
      obtain ⟨u3, rfl⟩ := T.rd_one hcs
      have d0 := (HB.out.cell hb1).trans (hcell 0 u3 rfl)
      rw [Nat.mul_one, Nat.add_zero] at d0
      have hb2 : b1 < wr.heap.size := Nat.lt_of_lt_of_le hb1 HB.out.size
      have RL := hide (T.rd_ints.1 hcs); clear hcs hcell
      obtain ⟨A3, c3, rfl, l3, m3, x3⟩ := RL.out.open_; clear x3
      have zw : (mkS (wrdL [115, 111, 117, 114, 99, 101] l)).size ≤ 88006 := by rw [size_mkS]; have := word_len (p := [115, 111, 117, 114, 99, 101]) GL1.out hs4; have : ([115, 111, 117, 114, 99, 101] : List UInt8).length = 6 := rfl; omega
      obtain ⟨ws, hws⟩ : ∃ ws, mkS (wrdL (⟨#[115, 111, 117, 114, 99, 101]⟩ : ByteArray).data.toList l) = ws := ⟨_, rfl⟩
      have zws : ws.size ≤ 88006 := by rw [← hws]; exact zw
      have HCS := hide (show Calls Tryz.prog 78 #[.string ⟨#[115, 111, 117, 114, 99, 101]⟩, .slice A3 l.length c3] wr fun e w' => e = .returned (.string ws) ∧ Below wr.heap.size wr w' by have := c_spaced ⟨#[115, 111, 117, 114, 99, 101]⟩ _ l _ (Rd.below RL.out HB.out) GL1.out SL.out (by decide) (HTB.out.below HB.out); rwa [hws] at this)
      have HWS := hide hws; clear hws zw
      have zw1 : (ws ++ (⟨#[10]⟩ : ByteArray)).size ≤ 88007 := by rw [ByteArray.size_append, h10]; omega
      go_wp2_with (go_at_call 78; refine HCS.out.mono ?_; rintro e w3 ⟨rfl, hb⟩; have HW3 := hide (bthen HW.out HW.out.size hb); clear hb)
      go_roundw
      case rel => exact ⟨k + 1, _, by omega, by go_num, rfl, by rw [HXX.out, flat_take _ HG.out, ← HWS.out]; apply str_is; simp [dat_app, dat_mk, lineL], HW3.out⟩
      case measure => simp [intOf]; omega
    obtain rfl : k = x.fSources.length := by omega
    rw [List.take_length] at HXX
    generalize hl1 : l0 ++ x.fSources.flatMap (fun s => lineL (wrdL [115, 111, 117, 114, 99, 101] s)) = l1 at *; clear hl1
    have HXA := hide (show X = mkS l1 from HXX.out); clear HXX hlt hk zX HB HK
    have HWA := HW; clear HW
    go_wp2
    go_loopw [3, 33] (fun o i wr => ∃ (k : Nat) (X : ByteArray), k ≤ x.fTracks.length ∧ i = .int .i64 (k : Int) ∧ o = .string X ∧ X = mkS (l1 ++ ((x.fTracks.zip x.fFeeds).take k).flatMap trackL) ∧ Below w1.heap.size w1 wr) (fun _ i _ => x.fTracks.length - (intOf i).toNat)
    case atStart => exact ⟨0, _, Nat.zero_le _, rfl, rfl, by rw [HXA.out, List.take_zero, List.flatMap_nil, List.append_nil], HWA.out⟩
    case round =>
      obtain ⟨k, X, hk, rfl, rfl, hX, hbw⟩ := hrel
      have zX : X.size ≤ 1100000 := by rw [hX, size_mkS]; simp only [List.length_append]; have h1 := flat_cut (xs := (x.fTracks.zip x.fFeeds)) trackL k; have h2 := HY1.out; have h3 := HY2.out; omega
      have HXX := hide hX; have HW := hide hbw; have HB := hide (bthen HB1.out HB1.out.size hbw); have HK := hide (HK1.out.below hbw HK1.out.lt); clear hX hbw ka la
      have ka := HK.out.cell; have la := HK.out.lt
      by_cases hlt : k < x.fTracks.length
      ·
        have hfl : k < x.fFeeds.length := by have := HFD.out; omega
        have hfg := List.getElem?_eq_getElem hfl
        obtain ⟨bf, of, rfl, hbf, hcf⟩ := HX3.out k _ hfg
        have hff := GF.out _ (List.getElem_mem hfl)
        generalize x.fFeeds[k] = fd at *
        have HFG := hide hfg; have HFF := hide hff; clear hfg hff
        have f0 := (HB.out.cell hbf).trans hcf; have hbf2 : bf < wr.heap.size := Nat.lt_of_lt_of_le hbf HB.out.size; clear hcf
        have hgk := List.getElem?_eq_getElem hlt
        obtain ⟨b1, off, cs1, hA, hb1, hcs, hcell⟩ := HX2.out k x.fTracks[k] hgk
        subst hA
        generalize x.fTracks[k] = y at *
        have HG := hide hgk; clear hgk
        obtain ⟨u0, rfl, hRY0⟩ := GTrack.rd_open (show T.rds _ _ _ by simpa only [GTrack.t, T.rd] using hcs)
        have d0 := (HB.out.cell hb1).trans (hcell 0 (u0) rfl)
        rw [show off + (k * 1 + 0) = off + k by omega] at d0
        have RY0 := hide (T.rd_below hRY0 HB.out); clear hRY0
        clear hcs hcell
        obtain ⟨ua0, uc0, rfl, ul0, um0, ux0⟩ := T.rd_openG RY0.out; clear ux0
        have hq1 : b1 < wr.heap.size := Nat.lt_of_lt_of_le hb1 HB.out.size
        have UX0 := hide (rd_elems RY0.out)
        have zf : (decS fd).size ≤ 21 := by unfold decS; rw [size_mkS]; exact dec_len HFF.out
        have HTO := hide (HS.out.tracks k y HG.out).1; have HGT := hide (GT.out y (List.mem_of_getElem? HG.out))
        have hc12 : y.fClips.length ≤ 12 := HTO.out.few
        have HWX := hide (show Below w1.heap.size w1 (wr.alloc (.cells #[(.slice ua0 y.fClips.length uc0)] 114)) from HW.out.alloc HW.out.size _); have HBX := hide (show Below w.heap.size w (wr.alloc (.cells #[(.slice ua0 y.fClips.length uc0)] 114)) from HB.out.alloc HB.out.size _); have HRX := hide (show Below wr.heap.size wr (wr.alloc (.cells #[(.slice ua0 y.fClips.length uc0)] 114)) from (Below.refl _ _).alloc (Nat.le_refl _) _)
        have HKX := hide (HK.out.alloc (.cells #[(.slice ua0 y.fClips.length uc0)] 114)); have HNX := hide (Bk.born wr 114 #[(.slice ua0 y.fClips.length uc0)])
        clear ka la; have ka := HKX.out.cell; have la := HKX.out.lt; have kn := HNX.out.cell; have ln := HNX.out.lt
        have f1 := (HRX.out.cell hbf2).trans f0; have hbf3 : bf < (wr.alloc (.cells #[(.slice ua0 y.fClips.length uc0)] 114)).heap.size := Nat.lt_of_lt_of_le hbf2 HRX.out.size
        have HT0 := hide (show ((⟨#[116, 114, 97, 99, 107, 32]⟩ : ByteArray) ++ decS fd) ++ (⟨#[10]⟩ : ByteArray) = mkS (lineL (wrdL [116, 114, 97, 99, 107] [fd])) by apply str_is; simp [dat_app, dat_dec, wrdL, blanks, blankL, lineL])
        have zt0 : ((⟨#[116, 114, 97, 99, 107, 32]⟩ : ByteArray) ++ decS fd).size ≤ 27 := by rw [ByteArray.size_append, h6]; omega
        have zt1 : (((⟨#[116, 114, 97, 99, 107, 32]⟩ : ByteArray) ++ decS fd) ++ (⟨#[10]⟩ : ByteArray)).size ≤ 28 := by rw [ByteArray.size_append, h10]; omega
        go_wp2_with fail
        refine (c_iDec fd _ (HTB.out.below HBX.out) HFF.out.1 HFF.out.2).mono ?_; rintro e w3 ⟨rfl, hb⟩
        have HR3 := hide (bthen HRX.out HRX.out.size hb); have HW3 := hide (bthen HWX.out HWX.out.size hb); have HB3 := hide (bthen HBX.out HBX.out.size hb); have HK3 := hide (HKX.out.below hb HKX.out.lt); have HN3 := hide (HNX.out.below hb HNX.out.lt); clear hb ka la kn ln f1 hbf3
        have ka := HK3.out.cell; have la := HK3.out.lt; have kn := HN3.out.cell; have ln := HN3.out.lt
        obtain ⟨X3, hX3⟩ : ∃ X3, X ++ (((⟨#[116, 114, 97, 99, 107, 32]⟩ : ByteArray) ++ decS fd) ++ (⟨#[10]⟩ : ByteArray)) = X3 := ⟨_, rfl⟩
        have HX3e := hide (show X3 = mkS ((l1 ++ ((x.fTracks.zip x.fFeeds).take k).flatMap trackL) ++ lineL (wrdL [116, 114, 97, 99, 107] [fd])) by rw [← hX3, HXX.out, HT0.out, mkS_append])
        have zX3 : X3.size ≤ 1100028 := by rw [← hX3, ByteArray.size_append]; omega
        go_wp2
        clear hX3 zt0 zt1
        have HZ3 := hide (show Below w3.heap.size w3 w3 from Below.refl _ _)
        generalize hB1q : wr.heap.size = B1 at *
        have HB1q := hide hB1q; clear hB1q
        go_loopw [3, 51] (fun o i wr => ∃ (q : Nat) (Z : ByteArray), q ≤ y.fClips.length ∧ i = .int .i64 (q : Int) ∧ o = .string Z ∧ Z = mkS ((l1 ++ ((x.fTracks.zip x.fFeeds).take k).flatMap trackL) ++ lineL (wrdL [116, 114, 97, 99, 107] [fd]) ++ (y.fClips.take q).flatMap clipL) ∧ Below w3.heap.size w3 wr) (fun _ i _ => y.fClips.length - (intOf i).toNat)
        case atStart => exact ⟨0, _, Nat.zero_le _, rfl, rfl, by rw [HX3e.out, List.take_zero, List.flatMap_nil, List.append_nil], Below.refl _ _⟩
        case round =>
          obtain ⟨q, Z, hq, rfl, rfl, hZ, hb⟩ := hrel
          have zZ : Z.size ≤ 1110000 := by
            have h1 := congrArg ByteArray.size HX3e.out; rw [size_mkS] at h1
            rw [hZ, size_mkS, List.length_append]
            have h2 := flat_cut (xs := y.fClips) clipL q; have h3 := flat_le (f := clipL) (c := 115) (xs := y.fClips) (fun c hc => clip_len (HGT.out c hc))
            omega
          have HZZ := hide hZ; have HC := hide hb; have HBi := hide (bthen HB3.out HB3.out.size hb); have HWi := hide (bthen HW3.out HW3.out.size hb); have HKi := hide (HK3.out.below hb HK3.out.lt); have HNi := hide (HN3.out.below hb HN3.out.lt); have hz3 : B1 ≤ w3.heap.size := Nat.le_of_lt ln; have HRi := hide (bthen HR3.out hz3 hb); clear hZ hb ka la kn
          have ka := HKi.out.cell; have la := HKi.out.lt; have kn := HNi.out.cell; have ln2 := HNi.out.lt
          by_cases hlq : q < y.fClips.length
          rotate_left
          ·
            obtain rfl : q = y.fClips.length := by omega
            have HZE := hide (show Z = mkS (l1 ++ ((x.fTracks.zip x.fFeeds).take (k + 1)).flatMap trackL) by rw [HZZ.out, List.take_length, flat_take _ (zip_at HG.out HFG.out)]; unfold trackL; simp)
            go_wp2
            go_roundw
            case rel => exact ⟨k + 1, _, by omega, by go_num, rfl, HZE.out, HWi.out⟩
            case measure => simp [intOf]; omega
          have hgq := List.getElem?_eq_getElem hlq
          obtain ⟨b2, off2, cs2, hA2, hb2, hcs2, hcell2⟩ := UX0.out q y.fClips[q] hgq
          subst hA2
          have hgc := HGT.out y.fClips[q] (List.getElem_mem hlq)
          generalize y.fClips[q] = c at *
          have HGC := hide hgq; have HCG := hide hgc; clear hgq hgc
          obtain rfl := GClip.rd_open (show T.rds _ _ _ by simpa only [GClip.t, T.rd] using hcs2)
          have s0 := (HRi.out.cell hb2).trans (hcell2 0 (.int .i64 c.fSource) rfl)
          have s1 := (HRi.out.cell hb2).trans (hcell2 1 (.int .i64 c.fFrom) rfl)
          have s2 := (HRi.out.cell hb2).trans (hcell2 2 (.int .i64 c.fLength) rfl)
          have s3 := (HRi.out.cell hb2).trans (hcell2 3 (.int .i64 c.fAt) rfl)
          have s4 := (HRi.out.cell hb2).trans (hcell2 4 (.int .i64 c.fGain) rfl)
          rw [show off2 + (q * 5 + 0) = off2 + q * 5 by omega] at s0
          rw [show off2 + (q * 5 + 1) = off2 + q * 5 + 1 by omega] at s1
          rw [show off2 + (q * 5 + 2) = off2 + q * 5 + 2 by omega] at s2
          rw [show off2 + (q * 5 + 3) = off2 + q * 5 + 3 by omega] at s3
          rw [show off2 + (q * 5 + 4) = off2 + q * 5 + 4 by omega] at s4
          clear hcs2 hcell2
          have hb2' : b2 < wr.heap.size := by have := HC.out.size; omega
          have HBY := hide (show Below w.heap.size w ((wr.alloc (.cells #[.int .i64 c.fSource, .int .i64 c.fFrom, .int .i64 c.fLength, .int .i64 c.fAt, .int .i64 c.fGain] 141)).alloc (.cells #[.int .i64 c.fSource, .int .i64 c.fFrom, .int .i64 c.fLength, .int .i64 c.fAt, .int .i64 c.fGain] 2)) from (HBi.out.alloc HBi.out.size _).alloc (by have := HBi.out.size; simp; omega) _)
          have HCY := hide (show Below w3.heap.size w3 ((wr.alloc (.cells #[.int .i64 c.fSource, .int .i64 c.fFrom, .int .i64 c.fLength, .int .i64 c.fAt, .int .i64 c.fGain] 141)).alloc (.cells #[.int .i64 c.fSource, .int .i64 c.fFrom, .int .i64 c.fLength, .int .i64 c.fAt, .int .i64 c.fGain] 2)) from (HC.out.alloc HC.out.size _).alloc (by have := HC.out.size; simp; omega) _)
          have HRL := hide (rdI_bk (xs := [c.fSource, c.fFrom, c.fLength, c.fAt, c.fGain]) (Bk.born (wr.alloc (.cells #[.int .i64 c.fSource, .int .i64 c.fFrom, .int .i64 c.fLength, .int .i64 c.fAt, .int .i64 c.fGain] 141)) 2 #[.int .i64 c.fSource, .int .i64 c.fFrom, .int .i64 c.fLength, .int .i64 c.fAt, .int .i64 c.fGain]) rfl (by simp))
          have hI5 : ∀ n ∈ [c.fSource, c.fFrom, c.fLength, c.fAt, c.fGain], I64 n := by intro n hn; obtain ⟨i1, i2, i3, i4, i5⟩ := HCG.out; simp only [List.mem_cons, List.not_mem_nil, or_false] at hn; rcases hn with rfl | rfl | rfl | rfl | rfl <;> assumption
          have HI5 := hide hI5; clear hI5
          have zw : (mkS (wrdL [99, 108, 105, 112] [c.fSource, c.fFrom, c.fLength, c.fAt, c.fGain])).size ≤ 114 := by rw [size_mkS]; have := word_len (p := [99, 108, 105, 112]) (c := 5) HI5.out (Nat.le_refl _); have : ([99, 108, 105, 112] : List UInt8).length = 4 := rfl; omega
          obtain ⟨ws, hws⟩ : ∃ ws, mkS (wrdL (⟨#[99, 108, 105, 112]⟩ : ByteArray).data.toList [c.fSource, c.fFrom, c.fLength, c.fAt, c.fGain]) = ws := ⟨_, rfl⟩
          have zws : ws.size ≤ 114 := by rw [← hws]; exact zw
          have HCS := hide (c_spaced ⟨#[99, 108, 105, 112]⟩ _ [c.fSource, c.fFrom, c.fLength, c.fAt, c.fGain] _ HRL.out HI5.out (by simp) (by decide) (HTB.out.below HBY.out)); rw [hws, show (wr.alloc (.cells #[.int .i64 c.fSource, .int .i64 c.fFrom, .int .i64 c.fLength, .int .i64 c.fAt, .int .i64 c.fGain] 141)).heap.size = wr.heap.size + 1 by simp] at HCS
          have HWS := hide hws; clear hws zw
          have zw1 : (ws ++ (⟨#[10]⟩ : ByteArray)).size ≤ 115 := by rw [ByteArray.size_append, h10]; omega
          have hsy := HCY.out.size
          go_wp2_with (go_at_call 78; refine HCS.out.mono ?_; rintro e w5 ⟨rfl, hb⟩; have HC5 := hide (bthen HCY.out hsy hb); clear hb)
          go_roundw
          case rel => exact ⟨q + 1, _, by omega, by go_num, rfl, by rw [HZZ.out, flat_take _ HGC.out, ← HWS.out]; apply str_is; simp [dat_app, dat_mk, clipL, lineL], HC5.out⟩
          case measure => simp [intOf]; omega
      obtain rfl : k = x.fTracks.length := by omega
      have HXB := hide (show X = mkS (l1 ++ (x.fTracks.zip x.fFeeds).flatMap trackL) by rw [HXX.out, zip_all HFD.out.symm]); clear HXX hlt hk zX
      have zX2 : (l1 ++ (x.fTracks.zip x.fFeeds).flatMap trackL).length ≤ 540000 := by rw [List.length_append]; have := HY1.out; have := HY2.out; omega
      generalize l1 ++ (x.fTracks.zip x.fFeeds).flatMap trackL = l2 at *
      have HWB := HW; clear HW
      go_wp2_with fail
      refine (HMXT.out _ _ (GMixer.rd_mk (T.rd_below R5.out HB.out)) (HTB.out.below HB.out)).mono ?_; rintro e w4 ⟨rfl, hb4⟩
      have HB4 := hide (bthen HB.out HB.out.size hb4); have HW4 := hide (bthen HWB.out HWB.out.size hb4); clear hb4 ka la
      go_wp2_with fail
      refine (HSPL.out _).mono ?_; rintro e w5 ⟨v5, rfl, ho5, hb5⟩
      have HR5 := hide ho5.rd; have HB5 := hide (bthen HB4.out HB4.out.size hb5); have HW5 := hide (bthen HW4.out HW4.out.size hb5); clear hb5 ho5
      have HK5 := hide (HK1.out.below HW5.out HK1.out.lt)
      obtain ⟨A5, c5, rfl, l5, m5, x5⟩ := HR5.out.openS; have HXL := hide x5; clear x5
      have ka := HK5.out.cell; have la := HK5.out.lt
      go_wp2
      clear ka la HB HK
      go_loopw [3, 77] (fun o i wr => ∃ (k : Nat) (X : ByteArray), k ≤ ml.length ∧ i = .int .i64 (k : Int) ∧ o = .string X ∧ X = mkS (l2 ++ ((ml.zip x.fEffects).take k).flatMap strL) ∧ Below w5.heap.size w5 wr) (fun _ i _ => ml.length - (intOf i).toNat)
      case atStart => exact ⟨0, _, Nat.zero_le _, rfl, rfl, by rw [HXB.out, List.take_zero, List.flatMap_nil, List.append_nil], Below.refl _ _⟩
      case round =>
        obtain ⟨k, X, hk, rfl, rfl, hX, hbw⟩ := hrel
        have zX : X.size ≤ 1100000 := by rw [hX, size_mkS, List.length_append]; have h1 := flat_cut (xs := ml.zip x.fEffects) strL k; have h2 := HY3.out; omega
        have HXX := hide hX; have HV := hide hbw; have HB := hide (bthen HB5.out HB5.out.size hbw); have HK := hide (HK5.out.below hbw HK5.out.lt); clear hX hbw
        have ka := HK.out.cell; have la := HK.out.lt
        by_cases hlm : k < ml.length
        rotate_left
        ·
          obtain rfl : k = ml.length := by omega
          have HE := hide (show X = mkS tx by rw [HXX.out, zip_all HML.out, HSES.out])
          go_wp2
          go_ret
          exact ⟨ret_str (by rw [HE.out]), HB.out⟩
        have hgm := List.getElem?_eq_getElem hlm
        obtain ⟨b6, o6, rfl, hb6, hc6⟩ := HXL.out k _ hgm
        have m0 := (HV.out.cell hb6).trans hc6; have hb6' : b6 < wr.heap.size := Nat.lt_of_lt_of_le hb6 HV.out.size
        have zl := HLE.out ml[k] (List.getElem_mem hlm)
        generalize ml[k] = l at *
        have HGM := hide hgm; clear hgm hc6
        have hlt : k < x.fEffects.length := by have := HML.out; omega
        have hgk := List.getElem?_eq_getElem hlt
        obtain ⟨b1, off, cs1, hA, hb1, hcs, hcell⟩ := HX4.out k x.fEffects[k] hgk
        subst hA
        generalize x.fEffects[k] = y at *
        have HG := hide hgk; clear hgk
        obtain ⟨u1, u2, u3, rfl, hRY1, hRY2, hRY3⟩ := GPatch.rd_open (show T.rds _ _ _ by simpa only [GPatch.t, T.rd] using hcs)
        have d0 := (HB.out.cell hb1).trans (hcell 0 (.int .i64 y.fInputs) rfl)
        have d1 := (HB.out.cell hb1).trans (hcell 1 (u1) rfl)
        have d2 := (HB.out.cell hb1).trans (hcell 2 (u2) rfl)
        have d3 := (HB.out.cell hb1).trans (hcell 3 (u3) rfl)
        rw [show off + (k * 4 + 0) = off + k * 4 by omega] at d0
        rw [show off + (k * 4 + 1) = off + k * 4 + 1 by omega] at d1
        rw [show off + (k * 4 + 2) = off + k * 4 + 2 by omega] at d2
        rw [show off + (k * 4 + 3) = off + k * 4 + 3 by omega] at d3
        have RY1 := hide (T.rd_below hRY1 HB.out); clear hRY1
        have RY2 := hide (T.rd_below hRY2 HB.out); clear hRY2
        have RY3 := hide (T.rd_below hRY3 HB.out); clear hRY3
        clear hcs hcell
        obtain ⟨ua1, uc1, rfl, ul1, um1, ux1⟩ := T.rd_openG RY1.out; clear ux1
        obtain ⟨ua2, uc2, rfl, ul2, um2, ux2⟩ := T.rd_openG RY2.out; clear ux2
        have RY3i := hide (T.rd_ints.1 RY3.out); obtain ⟨ua3, uc3, rfl, ul3, um3, ux3⟩ := RY3i.out.open_; clear ux3
        have hq1 : b1 < wr.heap.size := Nat.lt_of_lt_of_le hb1 HB.out.size
        have HEO := hide (HS.out.effects k y HG.out); have HGP := hide (GE.out y (List.mem_of_getElem? HG.out)); have HSP := hide (HSM.out.2.2.2.1.2 y (List.mem_of_getElem? HG.out))
        have zs1 : ((⟨#[115, 116, 114, 105, 112, 32]⟩ : ByteArray) ++ l).size ≤ 1614 := by rw [ByteArray.size_append, h6']; omega
        have zs2 : (((⟨#[115, 116, 114, 105, 112, 32]⟩ : ByteArray) ++ l) ++ (⟨#[10]⟩ : ByteArray)).size ≤ 1615 := by rw [ByteArray.size_append, h10]; omega
        have zs3 : (X ++ (((⟨#[115, 116, 114, 105, 112, 32]⟩ : ByteArray) ++ l) ++ (⟨#[10]⟩ : ByteArray))).size ≤ 1101615 := by rw [ByteArray.size_append]; omega
        have HRD := hide (fun (W : World) (hb : Below wr.heap.size wr W) => (GPatch.rd_mk (T.rd_below RY1.out hb) (T.rd_below RY2.out hb) (T.rd_below RY3.out hb) : T.rds W y.fs [.int .i64 y.fInputs, (.slice ua1 y.fTables.length uc1), (.slice ua2 y.fNodes.length uc2), (.slice ua3 y.fOutputs.length uc3)]))
        by_cases he : y = noPatch
        ·
          have q0 := tf_yes he
          have HEE := hide (show effL y = [] by rw [eff_pre, if_pos he]); clear he
          go_wp2_with fail
          refine (c_isEmpty y _ _ (HRD.out _ (Below.refl _ _))).mono ?_; rintro e w6 ⟨rfl, hb⟩; rw [q0]
          have HV6 := hide (bthen HV.out HV.out.size hb); clear hb ka la
          go_wp2
          go_roundw
          case rel => exact ⟨k + 1, _, by omega, by go_num, rfl, by rw [HXX.out, flat_take _ (zip_at HGM.out HG.out)]; apply str_is; unfold strL; rw [HEE.out]; simp [dat_app, dat_mk], HV6.out⟩
          case measure => simp [intOf]; omega
        ·
          have q0 := tf_no he
          have HPO := hide (HEO.out.resolve_left he).1.formed; have HEE := hide (show effL y = preL [58, 32] (linesF (mkS (patchL y))) by rw [eff_pre, if_neg he]); clear he
          have HPL := hide (patch_len HPO.out HGP.out); have HEL := hide (eff_len HEO.out HGP.out)
          have HPT := hide (fun (W : World) (hb : Below wr.heap.size wr W) => c_patchText y _ W HPO.out HGP.out HSP.out (HTB.out.below (bthen HB.out HB.out.size hb)) (HRD.out W hb))
          have HPF := hide (fun W => c_prefixed (mkS (patchL y)) (⟨#[58, 32]⟩ : ByteArray) W (by rw [size_mkS]; exact Nat.le_trans HPL.out (by decide)) (by decide))
          obtain ⟨pp, hpp⟩ : ∃ pp, mkS (patchL y) = pp := ⟨_, rfl⟩
          rw [hpp] at HPT HPF HEE
          obtain ⟨pf, hpf⟩ : ∃ pf, mkS (preL ((⟨#[58, 32]⟩ : ByteArray)).data.toList (linesF pp)) = pf := ⟨_, rfl⟩
          rw [hpf] at HPF
          have zpf : pf.size ≤ 60000 := by rw [← hpf, size_mkS]; have := HEL.out; rw [HEE.out] at this; exact this
          have HEF2 := hide (show mkS (effL y) = pf by rw [HEE.out]; exact hpf); clear hpf hpp
          go_wp2_with fail
          refine (c_isEmpty y _ _ (HRD.out _ (Below.refl _ _))).mono ?_; rintro e w6 ⟨rfl, hb⟩; rw [q0]
          have HV6 := hide (bthen HV.out HV.out.size hb); have HR6 := hide hb; have HK6 := hide (HK.out.below hb HK.out.lt); clear hb ka la
          have ka := HK6.out.cell; have la := HK6.out.lt
          have d0' := (HR6.out.cell hq1).trans d0
          have d1' := (HR6.out.cell hq1).trans d1
          have d2' := (HR6.out.cell hq1).trans d2
          have d3' := (HR6.out.cell hq1).trans d3
          have hq6 : b1 < w6.heap.size := Nat.lt_of_lt_of_le hq1 HR6.out.size
          go_wp2_with fail
          refine (HPT.out _ HR6.out).mono ?_; rintro e w7 ⟨rfl, hb⟩
          have HV7 := hide (bthen HV6.out HV6.out.size hb); clear hb ka la
          go_wp2_with (go_at_call 82; refine (HPF.out _).mono ?_; rintro e w8 ⟨rfl, hb⟩; have HV8 := hide (bthen HV7.out HV7.out.size hb); clear hb)
          go_roundw
          case rel => exact ⟨k + 1, _, by omega, by go_num, rfl, by rw [HXX.out, flat_take _ (zip_at HGM.out HG.out), ← HEF2.out]; apply str_is; unfold strL; simp [dat_app, dat_mk], HV8.out⟩
          case measure => simp [intOf]; omega
end Go.Proofs.YteiflbhcehajkaaGreatDoor
end
section
namespace Go.Proofs.YteiflbhcehajkaaGreatDoor
open Go.RowKit
def byV (s : ByteArray) : List Value := s.data.toList.map fun b => Value.int .u8 (b.toNat : Int)
theorem byV_len (s : ByteArray) : (byV s).length = s.size := by simp [byV]
theorem first_str {P : Program} (w : World) (s : ByteArray) : (Builtin.firstCells 1 s.size (.string s)).run P w = .ok (byV s).toArray w := by
  simp only [Builtin.firstCells]
  have : (s.extract 0 s.size).data.map (fun b : UInt8 => Value.int .u8 (b.toNat : Int)) = (byV s).toArray := by
    rw [ByteArray.extract_zero_size]
    apply Array.ext'
    simp [byV]
  show Result.ok _ w = _
  rw [this]
theorem append_own_str {P : Program} {w : World} (base : Nat) (t u ty e : TypeId) (i : TypeInfo) (z : Value) (ht : P.underlying t = some (.slice e)) (hu : P.underlying u = some .string) (hi : P.info? e = some i) (hz : i.zero = some z)
    (hsize : i.size = 1) (hby : i.bytes = 1) (hzs : z.cells.size = 1) (v : Value) (n : Nat) (xs : List Value) (hown : w.ownsRow base e 1 v n xs) (s : ByteArray)
    (hbytes : n + s.size ≤ 140737488355328) (hbase : base ≤ w.heap.size) :
    ∃ v' w', (Builtin.append_ #[t, u] ty #[v, .string s]).run P w = .ok v' w' ∧ w'.ownsRow base e 1 v' (n + s.size) (xs ++ byV s) ∧ w.grownBy w' v.ownBlock ∧ (v'.ownBlock = v.ownBlock ∨ v'.ownBlock = some w.heap.size) := by
  have hlen : (xs ++ byV s).length = (n + s.size) * 1 := by rw [List.length_append, hown.1, byV_len]; omega
  have h1 : ∀ u ∈ byV s, u.oneCell' = true := by
    intro x hx
    simp only [byV, List.mem_map] at hx
    obtain ⟨b, _, rfl⟩ := hx
    rfl
  have grown : ∀ (old : Nat), old < n + s.size → ∀ (row : Option Nat),
      (w.drew.alloc (.cells (xs.toArray ++ (byV s).toArray ++ Builtin.zeroCells z.cells (grownCap w (n + s.size) old e - (n + s.size))) e)).ownsRow base e 1
        (.slice (some ⟨w.heap.size, 0, none⟩) (n + s.size) (grownCap w (n + s.size) old e)) (n + s.size) (xs ++ byV s) ∧
      w.grownBy (w.drew.alloc (.cells (xs.toArray ++ (byV s).toArray ++ Builtin.zeroCells z.cells (grownCap w (n + s.size) old e - (n + s.size))) e)) row := by
    intro old ho row
    have hge := grownCap_ge w (n + s.size) old e
    have hcm : grownCap w (n + s.size) old e ≤ maxLen := grownCap_le_maxLen w (n + s.size) old e (by unfold maxLen; omega)
    refine ⟨⟨hlen, .inr ⟨w.heap.size, _, _, rfl, hbase, heap_alloc_new w.drew _, hge, hcm, ?_, ?_⟩⟩, ⟨rfl, rfl, rfl, by simp, fun k hk _ => Below.heap_alloc w.drew _ k hk⟩⟩
    · simp only [Array.size_append, List.size_toArray, size_zeroCells, hzs, hown.1, byV_len]
      omega
    · simp only [Array.toList_append, List.append_assoc]
      rw [← List.append_assoc, ← hlen]
      exact List.take_left
  rcases hown.2 with ⟨rfl, rfl⟩ | ⟨g, cap, cur, rfl, hbg, hg, hnc, hcm, hcs, htake⟩
  · have hx : xs = [] := List.eq_nil_of_length_eq_zero (by simpa using hown.1)
    subst hx
    by_cases hm : s.size = 0
    · have hs : byV s = [] := List.eq_nil_of_length_eq_zero (by rw [byV_len]; exact hm)
      refine ⟨.slice none 0 0, w, ?_, ?_, ⟨rfl, rfl, rfl, Nat.le_refl _, fun _ _ _ => rfl⟩, Or.inl rfl⟩
      · have hf := first_str (P := P) w s
        rw [hs, hm] at hf
        simp [Builtin.append_, run_underlying ht, run_underlying hu, sizeOf, typeInfo, hi, Builtin.lenOf, hm, hsize, hf]
      · rw [hs, hm]; exact World.ownsRow_nil w base e 1
    · have hf := first_str (P := P) w.drew s
      have h63' : ¬ (9223372036854775807 < (s.size : Int)) := by omega
      have h48' : ¬ (281474976710656 < Builtin.nextslicecap s.size 0 * i.bytes) := by rw [nextslicecap_zero (by omega), hby]; omega
      have hgr := grown 0 (by omega) (Value.ownBlock (.slice none 0 0))
      simp only [Nat.zero_add, List.nil_append, Array.empty_append] at hgr ⊢
      refine ⟨_, _, ?_, hgr.1, hgr.2, Or.inr rfl⟩
      simp [Builtin.append_, run_underlying ht, run_underlying hu, sizeOf, typeInfo, zeroValue, hi, hz, Builtin.lenOf, hm, h63', h48', Question.forced, run_firstCells_none, hf, newRow, grownCap, hsize]
  · by_cases hroom : n + s.size ≤ cap
    · have hf := first_str (P := P) w s
      have hfit : n * 1 + (byV s).length ≤ cur.size := by rw [byV_len, hcs]; omega
      have hst := run_storeCells_at P g (n * 1) e (byV s) 0 cur w hg (by simpa using hfit) h1
      simp only [Nat.add_zero] at hst
      refine ⟨.slice (some ⟨g, 0, none⟩) (n + s.size) cap, w.setRow g (cur.toList.take (n * 1) ++ byV s ++ cur.toList.drop (n * 1 + (byV s).length)).toArray, ?_, ⟨hlen, .inr ⟨g, cap, _, rfl, hbg, setRow_heap w g cur _ e _ hg, hroom, hcm, ?_, ?_⟩⟩, ⟨rfl, rfl, rfl, by simp, fun k _ hk => setRow_other w g k _ (fun e => hk (by simp [Value.ownBlock, e]))⟩, Or.inl rfl⟩
      · simp only [Nat.mul_one] at hst ⊢
        simp [Builtin.append_, run_underlying ht, run_underlying hu, sizeOf, typeInfo, hi, Builtin.lenOf, hroom, hf, Addr.add_lit, hst, hsize]
      · simp only [List.size_toArray, List.length_append, List.length_take, List.length_drop, Array.length_toList]
        omega
      · rw [htake, ← hlen]
        exact List.take_left
    · have holds : ∀ j u, xs[j]? = some u → w.cell? ((⟨g, 0, none⟩ : Addr).add j) = some u := World.ownsRow.cells hown (g := g) rfl
      have hfo := run_firstCells_some (P := P) w.drew 1 n ⟨g, 0, none⟩ n cap xs hown.1 (by simpa using holds)
      have hf := first_str (P := P) w.drew s
      have h63' : ¬ (9223372036854775807 < ((n : Int) + (s.size : Int))) := by omega
      have h48' : ¬ (281474976710656 < Builtin.nextslicecap (n + s.size) cap * i.bytes) := by
        have := growslice_fits (need := n + s.size) (old := cap) (bytes := 1) (by omega) (by omega)
        rw [hby]; omega
      have hgr := grown cap (by omega) (Value.ownBlock (.slice (some ⟨g, 0, none⟩) n cap))
      refine ⟨_, _, ?_, hgr.1, hgr.2, Or.inr rfl⟩
      simp [Builtin.append_, run_underlying ht, run_underlying hu, sizeOf, typeInfo, zeroValue, hi, hz, Builtin.lenOf, hroom, h63', h48', Question.forced, hf, hfo, newRow, grownCap, hsize]
      try (congr 2; apply Array.ext'; simp [List.append_assoc])
/-- append of a string's bytes to a slice of bytes of the call's own, in a walk. -/
theorem app_string {P : Program} {w : World} {ops : Array Oper} {rest : List Oper} {o : Oper} {a : Act} {Q : Exit → Act → World → Prop} (hgd : o.guard = none) (s x : Operand) (t u : TypeId)
    (ho : o.op = .call { callee := .builtin .append, args := #[s, x], argTypes := #[t, u] })
    (base : Nat) (e : TypeId) (z : Value) (ht : P.underlying t = some (.slice e)) (hu : P.underlying u = some .string) (hinfo : (P.info? e).map (fun i => (i.zero, i.size, i.bytes)) = some (some z, 1, 1)) (hzs : z.cells.size = 1)
    (v : Value) (xs : List UInt8) (hs : a.eval s = v) (hown : OwY e w base v xs) (y : ByteArray) (hx : a.eval x = .string y)
    (hl : xs.length + y.size ≤ 140737488355328) (hbase : base ≤ w.heap.size)
    (h : ∀ v' w', OwY e w' base v' (xs ++ y.data.toList) → w.grownBy w' v.ownBlock → (∀ k, v'.ownBlock = some k → v.ownBlock = some k ∨ w.heap.size ≤ k) → wpList P ops Q rest (a.put o.dst v') w') :
    wpList P ops Q (o :: rest) a w := by
  obtain ⟨i0, hi, hz0, hz1, hz2⟩ := info_parts hinfo
  refine wpList_plain hgd fun K hK => ?_
  obtain ⟨v', w', hr, h2, h3, h5⟩ := append_own_str (P := P) base t u o.type e i0 z ht hu hi hz0 hz1 hz2 hzs v xs.length _ hown y hl hbase
  unfold Oper.wp execOp
  simp only [ho, resolve, invoke, builtin, Sem.run_bind, Sem.run_pure, Result.andThen_ok, List.map_toArray, List.map_cons, List.map_nil, hs, hx, hr]
  refine hK _ _ (h v' w' ?_ h3 fun k hk => ?_)
  · unfold OwY
    have e1 : (xs ++ y.data.toList).length = xs.length + y.size := by simp
    rw [e1, List.map_append]
    exact h2
  · rcases h5 with h5 | h5
    · exact .inl (h5 ▸ hk)
    · rw [h5] at hk; simp at hk; exact .inr (by omega)
end Go.Proofs.YteiflbhcehajkaaGreatDoor
end
