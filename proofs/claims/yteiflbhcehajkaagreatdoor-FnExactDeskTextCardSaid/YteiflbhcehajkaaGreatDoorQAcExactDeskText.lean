/- Nested data: sessions, desks and their parts; how they lie in memory. Arguments: a slice of structs that came in reads as a list. No program is named here. Arguments that are structs of slices of structs read as nested data. No program is named here. -/
import Derived.Test.YteiflbhcehajkaaGreatDoorQAbExactDeskText
import Derived.Test.YteiflbhcehajkaaGreatDoorRows
import Derived.Test.YteiflbhcehajkaaGreatDoorQAaExactDeskText
import Derived.Deep.Slices
import Derived.ChangeSame
import Derived.ChangeArms
set_option linter.unusedVariables false
set_option linter.unusedSimpArgs false
section
namespace Go.Proofs.YteiflbhcehajkaaGreatDoor
open Go.RowKit
structure GFrac where
  fNum : Int
  fDen : Int
deriving DecidableEq
def GFrac.fs (x : GFrac) : List T := [.num x.fNum, .num x.fDen]
def GFrac.t (x : GFrac) : T := .st x.fs
theorem GFrac.wide_t (x : GFrac) : T.wide x.t = 2 := by simp [GFrac.t, GFrac.fs, T.wide, T.wides]
def GFrac.good (x : GFrac) : Prop := I64 x.fNum ∧ I64 x.fDen
def GFrac.small (x : GFrac) : Prop := True
theorem GFrac.rd_open {w : World} {x : GFrac} {cs : List Value} (h : T.rds w x.fs cs) : cs = [.int .i64 x.fNum, .int .i64 x.fDen] := by
  simp only [GFrac.fs, T.rds_num, T.rds_str, T.rds_sl, T.rds_nil] at h
  obtain ⟨_, rfl, _, rfl, rfl⟩ := h
  exact rfl
theorem GFrac.rd_mk {w : World} {x : GFrac} : T.rds w x.fs [.int .i64 x.fNum, .int .i64 x.fDen] := by
  unfold GFrac.fs; exact T.c_rn (T.c_rn (T.c_re))
theorem GFrac.ow_mk {w : World} {x : GFrac} : T.ows w x.fs [] [.int .i64 x.fNum, .int .i64 x.fDen] := by
  unfold GFrac.fs; exact T.c_on (T.c_on (T.c_oe))
structure GClip where
  fSource : Int
  fFrom : Int
  fLength : Int
  fAt : Int
  fGain : Int
deriving DecidableEq
def GClip.fs (x : GClip) : List T := [.num x.fSource, .num x.fFrom, .num x.fLength, .num x.fAt, .num x.fGain]
def GClip.t (x : GClip) : T := .st x.fs
theorem GClip.wide_t (x : GClip) : T.wide x.t = 5 := by simp [GClip.t, GClip.fs, T.wide, T.wides]
def GClip.good (x : GClip) : Prop := I64 x.fSource ∧ I64 x.fFrom ∧ I64 x.fLength ∧ I64 x.fAt ∧ I64 x.fGain
def GClip.small (x : GClip) : Prop := True
theorem GClip.rd_open {w : World} {x : GClip} {cs : List Value} (h : T.rds w x.fs cs) : cs = [.int .i64 x.fSource, .int .i64 x.fFrom, .int .i64 x.fLength, .int .i64 x.fAt, .int .i64 x.fGain] := by
  simp only [GClip.fs, T.rds_num, T.rds_str, T.rds_sl, T.rds_nil] at h
  obtain ⟨_, rfl, _, rfl, _, rfl, _, rfl, _, rfl, rfl⟩ := h
  exact rfl
theorem GClip.rd_mk {w : World} {x : GClip} : T.rds w x.fs [.int .i64 x.fSource, .int .i64 x.fFrom, .int .i64 x.fLength, .int .i64 x.fAt, .int .i64 x.fGain] := by
  unfold GClip.fs; exact T.c_rn (T.c_rn (T.c_rn (T.c_rn (T.c_rn (T.c_re)))))
theorem GClip.ow_mk {w : World} {x : GClip} : T.ows w x.fs [] [.int .i64 x.fSource, .int .i64 x.fFrom, .int .i64 x.fLength, .int .i64 x.fAt, .int .i64 x.fGain] := by
  unfold GClip.fs; exact T.c_on (T.c_on (T.c_on (T.c_on (T.c_on (T.c_oe)))))
structure GTrack where
  fClips : List GClip
deriving DecidableEq
def GTrack.fs (x : GTrack) : List T := [T.sl 141 5 (x.fClips.map GClip.t)]
def GTrack.t (x : GTrack) : T := .st x.fs
theorem GTrack.wide_t (x : GTrack) : T.wide x.t = 1 := by simp [GTrack.t, GTrack.fs, T.wide, T.wides]
def GTrack.good (x : GTrack) : Prop := (∀ y ∈ x.fClips, GClip.good y)
def GTrack.small (x : GTrack) : Prop := x.fClips.length ≤ 1048576
theorem GTrack.rd_open {w : World} {x : GTrack} {cs : List Value} (h : T.rds w x.fs cs) : ∃ v0, cs = [v0] ∧ T.rd w (T.sl 141 5 (x.fClips.map GClip.t)) [v0] := by
  simp only [GTrack.fs, T.rds_num, T.rds_str, T.rds_sl, T.rds_nil] at h
  obtain ⟨v0, _, rfl, h0, rfl⟩ := h
  exact ⟨v0, rfl, h0⟩
theorem GTrack.rd_mk {w : World} {x : GTrack} {v0 : Value} (h0 : T.rd w (T.sl 141 5 (x.fClips.map GClip.t)) [v0]) : T.rds w x.fs [v0] := by
  unfold GTrack.fs; exact T.c_rl h0 (T.c_re)
theorem GTrack.ow_mk {w : World} {x : GTrack} {v0 : Value} {F0 : List Nat} (h0 : T.ow w (T.sl 141 5 (x.fClips.map GClip.t)) F0 [v0]) : T.ows w x.fs (F0 ++ []) [v0] := by
  unfold GTrack.fs; exact T.c_ol h0 (T.c_oe)
structure GSend where
  fTo : Int
  fGain : Int
deriving DecidableEq
def GSend.fs (x : GSend) : List T := [.num x.fTo, .num x.fGain]
def GSend.t (x : GSend) : T := .st x.fs
theorem GSend.wide_t (x : GSend) : T.wide x.t = 2 := by simp [GSend.t, GSend.fs, T.wide, T.wides]
def GSend.good (x : GSend) : Prop := I64 x.fTo ∧ I64 x.fGain
def GSend.small (x : GSend) : Prop := True
theorem GSend.rd_open {w : World} {x : GSend} {cs : List Value} (h : T.rds w x.fs cs) : cs = [.int .i64 x.fTo, .int .i64 x.fGain] := by
  simp only [GSend.fs, T.rds_num, T.rds_str, T.rds_sl, T.rds_nil] at h
  obtain ⟨_, rfl, _, rfl, rfl⟩ := h
  exact rfl
theorem GSend.ow_mk {w : World} {x : GSend} : T.ows w x.fs [] [.int .i64 x.fTo, .int .i64 x.fGain] := by
  unfold GSend.fs; exact T.c_on (T.c_on (T.c_oe))
structure GStrip where
  fName : ByteArray
  fLatency : Int
  fSends : List GSend
deriving DecidableEq
def GStrip.fs (x : GStrip) : List T := [.str x.fName, .num x.fLatency, T.sl 203 2 (x.fSends.map GSend.t)]
def GStrip.t (x : GStrip) : T := .st x.fs
theorem GStrip.wide_t (x : GStrip) : T.wide x.t = 3 := by simp [GStrip.t, GStrip.fs, T.wide, T.wides]
def GStrip.good (x : GStrip) : Prop := x.fName.size ≤ 9223372036854775807 ∧ I64 x.fLatency ∧ (∀ y ∈ x.fSends, GSend.good y)
def GStrip.small (x : GStrip) : Prop := x.fName.size ≤ 1048576 ∧ x.fSends.length ≤ 1048576
theorem GStrip.rd_open {w : World} {x : GStrip} {cs : List Value} (h : T.rds w x.fs cs) : ∃ v2, cs = [.string x.fName, .int .i64 x.fLatency, v2] ∧ T.rd w (T.sl 203 2 (x.fSends.map GSend.t)) [v2] := by
  simp only [GStrip.fs, T.rds_num, T.rds_str, T.rds_sl, T.rds_nil] at h
  obtain ⟨_, rfl, _, rfl, v2, _, rfl, h2, rfl⟩ := h
  exact ⟨v2, rfl, h2⟩
theorem GStrip.ow_mk {w : World} {x : GStrip} {v2 : Value} {F2 : List Nat} (h2 : T.ow w (T.sl 203 2 (x.fSends.map GSend.t)) F2 [v2]) : T.ows w x.fs (F2 ++ []) [.string x.fName, .int .i64 x.fLatency, v2] := by
  unfold GStrip.fs; exact T.c_os (T.c_on (T.c_ol h2 (T.c_oe)))
structure GMixer where
  fStrips : List GStrip
deriving DecidableEq
def GMixer.fs (x : GMixer) : List T := [T.sl 153 3 (x.fStrips.map GStrip.t)]
def GMixer.t (x : GMixer) : T := .st x.fs
def GMixer.good (x : GMixer) : Prop := (∀ y ∈ x.fStrips, GStrip.good y)
def GMixer.small (x : GMixer) : Prop := smL GStrip.small x.fStrips
theorem GMixer.rd_open {w : World} {x : GMixer} {cs : List Value} (h : T.rds w x.fs cs) : ∃ v0, cs = [v0] ∧ T.rd w (T.sl 153 3 (x.fStrips.map GStrip.t)) [v0] := by
  simp only [GMixer.fs, T.rds_num, T.rds_str, T.rds_sl, T.rds_nil] at h
  obtain ⟨v0, _, rfl, h0, rfl⟩ := h
  exact ⟨v0, rfl, h0⟩
theorem GMixer.rd_mk {w : World} {x : GMixer} {v0 : Value} (h0 : T.rd w (T.sl 153 3 (x.fStrips.map GStrip.t)) [v0]) : T.rds w x.fs [v0] := by
  unfold GMixer.fs; exact T.c_rl h0 (T.c_re)
structure GNode where
  fKind : Int
  fA : Int
  fB : Int
  fFrom : List Int
deriving DecidableEq
def GNode.fs (x : GNode) : List T := [.num x.fKind, .num x.fA, .num x.fB, T.ints 2 x.fFrom]
def GNode.t (x : GNode) : T := .st x.fs
theorem GNode.wide_t (x : GNode) : T.wide x.t = 4 := by simp [GNode.t, GNode.fs, T.wide, T.wides]
def GNode.good (x : GNode) : Prop := I64 x.fKind ∧ I64 x.fA ∧ I64 x.fB ∧ (∀ y ∈ x.fFrom, I64 y)
def GNode.small (x : GNode) : Prop := x.fFrom.length ≤ 1048576
theorem GNode.rd_open {w : World} {x : GNode} {cs : List Value} (h : T.rds w x.fs cs) : ∃ v3, cs = [.int .i64 x.fKind, .int .i64 x.fA, .int .i64 x.fB, v3] ∧ T.rd w (T.ints 2 x.fFrom) [v3] := by
  simp only [GNode.fs, T.rds_num, T.rds_str, T.rds_sl, T.rds_nil] at h
  obtain ⟨_, rfl, _, rfl, _, rfl, v3, _, rfl, h3, rfl⟩ := h
  exact ⟨v3, rfl, h3⟩
theorem GNode.rd_mk {w : World} {x : GNode} {v3 : Value} (h3 : T.rd w (T.ints 2 x.fFrom) [v3]) : T.rds w x.fs [.int .i64 x.fKind, .int .i64 x.fA, .int .i64 x.fB, v3] := by
  unfold GNode.fs; exact T.c_rn (T.c_rn (T.c_rn (T.c_rl h3 (T.c_re))))
theorem GNode.ow_mk {w : World} {x : GNode} {v3 : Value} {F3 : List Nat} (h3 : T.ow w (T.ints 2 x.fFrom) F3 [v3]) : T.ows w x.fs (F3 ++ []) [.int .i64 x.fKind, .int .i64 x.fA, .int .i64 x.fB, v3] := by
  unfold GNode.fs; exact T.c_on (T.c_on (T.c_on (T.c_ol h3 (T.c_oe))))
structure GPatch where
  fInputs : Int
  fTables : List (List Int)
  fNodes : List GNode
  fOutputs : List Int
deriving DecidableEq
def GPatch.fs (x : GPatch) : List T := [.num x.fInputs, T.sl 24 1 (x.fTables.map (T.ints 2)), T.sl 207 4 (x.fNodes.map GNode.t), T.ints 2 x.fOutputs]
def GPatch.t (x : GPatch) : T := .st x.fs
theorem GPatch.wide_t (x : GPatch) : T.wide x.t = 4 := by simp [GPatch.t, GPatch.fs, T.wide, T.wides]
def GPatch.good (x : GPatch) : Prop := I64 x.fInputs ∧ (∀ l ∈ x.fTables, ∀ y ∈ l, I64 y) ∧ (∀ y ∈ x.fNodes, GNode.good y) ∧ (∀ y ∈ x.fOutputs, I64 y)
def GPatch.small (x : GPatch) : Prop := smL (fun l : List Int => l.length ≤ 1048576) x.fTables ∧ smL GNode.small x.fNodes ∧ x.fOutputs.length ≤ 1048576
theorem GPatch.rd_open {w : World} {x : GPatch} {cs : List Value} (h : T.rds w x.fs cs) : ∃ v1 v2 v3, cs = [.int .i64 x.fInputs, v1, v2, v3] ∧ T.rd w (T.sl 24 1 (x.fTables.map (T.ints 2))) [v1] ∧ T.rd w (T.sl 207 4 (x.fNodes.map GNode.t)) [v2] ∧ T.rd w (T.ints 2 x.fOutputs) [v3] := by
  simp only [GPatch.fs, T.rds_num, T.rds_str, T.rds_sl, T.rds_nil] at h
  obtain ⟨_, rfl, v1, _, rfl, h1, v2, _, rfl, h2, v3, _, rfl, h3, rfl⟩ := h
  exact ⟨v1, v2, v3, rfl, h1, h2, h3⟩
theorem GPatch.rd_mk {w : World} {x : GPatch} {v1 : Value} {v2 : Value} {v3 : Value} (h1 : T.rd w (T.sl 24 1 (x.fTables.map (T.ints 2))) [v1]) (h2 : T.rd w (T.sl 207 4 (x.fNodes.map GNode.t)) [v2]) (h3 : T.rd w (T.ints 2 x.fOutputs) [v3]) : T.rds w x.fs [.int .i64 x.fInputs, v1, v2, v3] := by
  unfold GPatch.fs; exact T.c_rn (T.c_rl h1 (T.c_rl h2 (T.c_rl h3 (T.c_re))))
theorem GPatch.ow_mk {w : World} {x : GPatch} {v1 : Value} {F1 : List Nat} {v2 : Value} {F2 : List Nat} {v3 : Value} {F3 : List Nat} (h1 : T.ow w (T.sl 24 1 (x.fTables.map (T.ints 2))) F1 [v1]) (h2 : T.ow w (T.sl 207 4 (x.fNodes.map GNode.t)) F2 [v2]) (h3 : T.ow w (T.ints 2 x.fOutputs) F3 [v3]) : T.ows w x.fs (F1 ++ (F2 ++ (F3 ++ []))) [.int .i64 x.fInputs, v1, v2, v3] := by
  unfold GPatch.fs; exact T.c_on (T.c_ol h1 (T.c_ol h2 (T.c_ol h3 (T.c_oe))))
structure GSession where
  fLength : Int
  fSources : List (List Int)
  fTracks : List GTrack
  fFeeds : List Int
  fEffects : List GPatch
  fMixer : GMixer
deriving DecidableEq
def GSession.fs (x : GSession) : List T := [.num x.fLength, T.sl 24 1 (x.fSources.map (T.ints 2)), T.sl 114 1 (x.fTracks.map GTrack.t), T.ints 2 x.fFeeds, T.sl 136 4 (x.fEffects.map GPatch.t), T.sl 153 3 (x.fMixer.fStrips.map GStrip.t)]
def GSession.t (x : GSession) : T := .st x.fs
def GSession.good (x : GSession) : Prop := I64 x.fLength ∧ (∀ l ∈ x.fSources, ∀ y ∈ l, I64 y) ∧ (∀ y ∈ x.fTracks, GTrack.good y) ∧ (∀ y ∈ x.fFeeds, I64 y) ∧ (∀ y ∈ x.fEffects, GPatch.good y) ∧ (∀ y ∈ x.fMixer.fStrips, GStrip.good y)
def GSession.small (x : GSession) : Prop := smL (fun l : List Int => l.length ≤ 1048576) x.fSources ∧ smL GTrack.small x.fTracks ∧ x.fFeeds.length ≤ 1048576 ∧ smL GPatch.small x.fEffects ∧ smL GStrip.small x.fMixer.fStrips
theorem GSession.rd_open {w : World} {x : GSession} {cs : List Value} (h : T.rds w x.fs cs) : ∃ v1 v2 v3 v4 v5, cs = [.int .i64 x.fLength, v1, v2, v3, v4, v5] ∧ T.rd w (T.sl 24 1 (x.fSources.map (T.ints 2))) [v1] ∧ T.rd w (T.sl 114 1 (x.fTracks.map GTrack.t)) [v2] ∧ T.rd w (T.ints 2 x.fFeeds) [v3] ∧ T.rd w (T.sl 136 4 (x.fEffects.map GPatch.t)) [v4] ∧ T.rd w (T.sl 153 3 (x.fMixer.fStrips.map GStrip.t)) [v5] := by
  simp only [GSession.fs, T.rds_num, T.rds_str, T.rds_sl, T.rds_nil] at h
  obtain ⟨_, rfl, v1, _, rfl, h1, v2, _, rfl, h2, v3, _, rfl, h3, v4, _, rfl, h4, v5, _, rfl, h5, rfl⟩ := h
  exact ⟨v1, v2, v3, v4, v5, rfl, h1, h2, h3, h4, h5⟩
theorem GSession.rd_mk {w : World} {x : GSession} {v1 : Value} {v2 : Value} {v3 : Value} {v4 : Value} {v5 : Value} (h1 : T.rd w (T.sl 24 1 (x.fSources.map (T.ints 2))) [v1]) (h2 : T.rd w (T.sl 114 1 (x.fTracks.map GTrack.t)) [v2]) (h3 : T.rd w (T.ints 2 x.fFeeds) [v3]) (h4 : T.rd w (T.sl 136 4 (x.fEffects.map GPatch.t)) [v4]) (h5 : T.rd w (T.sl 153 3 (x.fMixer.fStrips.map GStrip.t)) [v5]) : T.rds w x.fs [.int .i64 x.fLength, v1, v2, v3, v4, v5] := by
  unfold GSession.fs; exact T.c_rn (T.c_rl h1 (T.c_rl h2 (T.c_rl h3 (T.c_rl h4 (T.c_rl h5 (T.c_re))))))
structure GNote where
  fAt : GFrac
  fLength : GFrac
  fKey : Int
  fVelocity : Int
  fChannel : Int
deriving DecidableEq
def GNote.fs (x : GNote) : List T := [.num x.fAt.fNum, .num x.fAt.fDen, .num x.fLength.fNum, .num x.fLength.fDen, .num x.fKey, .num x.fVelocity, .num x.fChannel]
def GNote.t (x : GNote) : T := .st x.fs
theorem GNote.wide_t (x : GNote) : T.wide x.t = 7 := by simp [GNote.t, GNote.fs, T.wide, T.wides]
def GNote.good (x : GNote) : Prop := I64 x.fAt.fNum ∧ I64 x.fAt.fDen ∧ I64 x.fLength.fNum ∧ I64 x.fLength.fDen ∧ I64 x.fKey ∧ I64 x.fVelocity ∧ I64 x.fChannel
def GNote.small (x : GNote) : Prop := True
theorem GNote.rd_open {w : World} {x : GNote} {cs : List Value} (h : T.rds w x.fs cs) : cs = [.int .i64 x.fAt.fNum, .int .i64 x.fAt.fDen, .int .i64 x.fLength.fNum, .int .i64 x.fLength.fDen, .int .i64 x.fKey, .int .i64 x.fVelocity, .int .i64 x.fChannel] := by
  simp only [GNote.fs, T.rds_num, T.rds_str, T.rds_sl, T.rds_nil] at h
  obtain ⟨_, rfl, _, rfl, _, rfl, _, rfl, _, rfl, _, rfl, _, rfl, rfl⟩ := h
  exact rfl
theorem GNote.rd_mk {w : World} {x : GNote} : T.rds w x.fs [.int .i64 x.fAt.fNum, .int .i64 x.fAt.fDen, .int .i64 x.fLength.fNum, .int .i64 x.fLength.fDen, .int .i64 x.fKey, .int .i64 x.fVelocity, .int .i64 x.fChannel] := by
  unfold GNote.fs; exact T.c_rn (T.c_rn (T.c_rn (T.c_rn (T.c_rn (T.c_rn (T.c_rn (T.c_re)))))))
theorem GNote.ow_mk {w : World} {x : GNote} : T.ows w x.fs [] [.int .i64 x.fAt.fNum, .int .i64 x.fAt.fDen, .int .i64 x.fLength.fNum, .int .i64 x.fLength.fDen, .int .i64 x.fKey, .int .i64 x.fVelocity, .int .i64 x.fChannel] := by
  unfold GNote.fs; exact T.c_on (T.c_on (T.c_on (T.c_on (T.c_on (T.c_on (T.c_on (T.c_oe)))))))
structure GScore where
  fNotes : List GNote
deriving DecidableEq
def GScore.fs (x : GScore) : List T := [T.sl 104 7 (x.fNotes.map GNote.t)]
def GScore.t (x : GScore) : T := .st x.fs
def GScore.good (x : GScore) : Prop := (∀ y ∈ x.fNotes, GNote.good y)
def GScore.small (x : GScore) : Prop := x.fNotes.length ≤ 1048576
theorem GScore.rd_open {w : World} {x : GScore} {cs : List Value} (h : T.rds w x.fs cs) : ∃ v0, cs = [v0] ∧ T.rd w (T.sl 104 7 (x.fNotes.map GNote.t)) [v0] := by
  simp only [GScore.fs, T.rds_num, T.rds_str, T.rds_sl, T.rds_nil] at h
  obtain ⟨v0, _, rfl, h0, rfl⟩ := h
  exact ⟨v0, rfl, h0⟩
theorem GScore.rd_mk {w : World} {x : GScore} {v0 : Value} (h0 : T.rd w (T.sl 104 7 (x.fNotes.map GNote.t)) [v0]) : T.rds w x.fs [v0] := by
  unfold GScore.fs; exact T.c_rl h0 (T.c_re)
structure GTempo where
  fBeat : GFrac
  fSamples : Int
deriving DecidableEq
def GTempo.fs (x : GTempo) : List T := [.num x.fBeat.fNum, .num x.fBeat.fDen, .num x.fSamples]
def GTempo.t (x : GTempo) : T := .st x.fs
theorem GTempo.wide_t (x : GTempo) : T.wide x.t = 3 := by simp [GTempo.t, GTempo.fs, T.wide, T.wides]
def GTempo.good (x : GTempo) : Prop := I64 x.fBeat.fNum ∧ I64 x.fBeat.fDen ∧ I64 x.fSamples
def GTempo.small (x : GTempo) : Prop := True
theorem GTempo.rd_open {w : World} {x : GTempo} {cs : List Value} (h : T.rds w x.fs cs) : cs = [.int .i64 x.fBeat.fNum, .int .i64 x.fBeat.fDen, .int .i64 x.fSamples] := by
  simp only [GTempo.fs, T.rds_num, T.rds_str, T.rds_sl, T.rds_nil] at h
  obtain ⟨_, rfl, _, rfl, _, rfl, rfl⟩ := h
  exact rfl
theorem GTempo.ow_mk {w : World} {x : GTempo} : T.ows w x.fs [] [.int .i64 x.fBeat.fNum, .int .i64 x.fBeat.fDen, .int .i64 x.fSamples] := by
  unfold GTempo.fs; exact T.c_on (T.c_on (T.c_on (T.c_oe)))
structure GTempoMap where
  fTempos : List GTempo
deriving DecidableEq
def GTempoMap.fs (x : GTempoMap) : List T := [T.sl 107 3 (x.fTempos.map GTempo.t)]
def GTempoMap.t (x : GTempoMap) : T := .st x.fs
def GTempoMap.good (x : GTempoMap) : Prop := (∀ y ∈ x.fTempos, GTempo.good y)
def GTempoMap.small (x : GTempoMap) : Prop := x.fTempos.length ≤ 1048576
theorem GTempoMap.rd_open {w : World} {x : GTempoMap} {cs : List Value} (h : T.rds w x.fs cs) : ∃ v0, cs = [v0] ∧ T.rd w (T.sl 107 3 (x.fTempos.map GTempo.t)) [v0] := by
  simp only [GTempoMap.fs, T.rds_num, T.rds_str, T.rds_sl, T.rds_nil] at h
  obtain ⟨v0, _, rfl, h0, rfl⟩ := h
  exact ⟨v0, rfl, h0⟩
theorem GTempoMap.rd_mk {w : World} {x : GTempoMap} {v0 : Value} (h0 : T.rd w (T.sl 107 3 (x.fTempos.map GTempo.t)) [v0]) : T.rds w x.fs [v0] := by
  unfold GTempoMap.fs; exact T.c_rl h0 (T.c_re)
structure GTuning where
  fBase : GFrac
  fOctave : GFrac
  fRatios : List GFrac
deriving DecidableEq
def GTuning.fs (x : GTuning) : List T := [.num x.fBase.fNum, .num x.fBase.fDen, .num x.fOctave.fNum, .num x.fOctave.fDen, T.sl 64 2 (x.fRatios.map GFrac.t)]
def GTuning.t (x : GTuning) : T := .st x.fs
def GTuning.good (x : GTuning) : Prop := I64 x.fBase.fNum ∧ I64 x.fBase.fDen ∧ I64 x.fOctave.fNum ∧ I64 x.fOctave.fDen ∧ (∀ y ∈ x.fRatios, GFrac.good y)
def GTuning.small (x : GTuning) : Prop := x.fRatios.length ≤ 1048576
theorem GTuning.rd_open {w : World} {x : GTuning} {cs : List Value} (h : T.rds w x.fs cs) : ∃ v4, cs = [.int .i64 x.fBase.fNum, .int .i64 x.fBase.fDen, .int .i64 x.fOctave.fNum, .int .i64 x.fOctave.fDen, v4] ∧ T.rd w (T.sl 64 2 (x.fRatios.map GFrac.t)) [v4] := by
  simp only [GTuning.fs, T.rds_num, T.rds_str, T.rds_sl, T.rds_nil] at h
  obtain ⟨_, rfl, _, rfl, _, rfl, _, rfl, v4, _, rfl, h4, rfl⟩ := h
  exact ⟨v4, rfl, h4⟩
theorem GTuning.rd_mk {w : World} {x : GTuning} {v4 : Value} (h4 : T.rd w (T.sl 64 2 (x.fRatios.map GFrac.t)) [v4]) : T.rds w x.fs [.int .i64 x.fBase.fNum, .int .i64 x.fBase.fDen, .int .i64 x.fOctave.fNum, .int .i64 x.fOctave.fDen, v4] := by
  unfold GTuning.fs; exact T.c_rn (T.c_rn (T.c_rn (T.c_rn (T.c_rl h4 (T.c_re)))))
structure GDesk where
  fScore : GScore
  fTempos : GTempoMap
  fTuning : GTuning
  fSignal : List Int
  fSession : GSession
deriving DecidableEq
def GDesk.fs (x : GDesk) : List T := [T.sl 104 7 (x.fScore.fNotes.map GNote.t), T.sl 107 3 (x.fTempos.fTempos.map GTempo.t), .num x.fTuning.fBase.fNum, .num x.fTuning.fBase.fDen, .num x.fTuning.fOctave.fNum, .num x.fTuning.fOctave.fDen, T.sl 64 2 (x.fTuning.fRatios.map GFrac.t), T.ints 2 x.fSignal, .num x.fSession.fLength, T.sl 24 1 (x.fSession.fSources.map (T.ints 2)), T.sl 114 1 (x.fSession.fTracks.map GTrack.t), T.ints 2 x.fSession.fFeeds, T.sl 136 4 (x.fSession.fEffects.map GPatch.t), T.sl 153 3 (x.fSession.fMixer.fStrips.map GStrip.t)]
def GDesk.t (x : GDesk) : T := .st x.fs
def GDesk.good (x : GDesk) : Prop := (∀ y ∈ x.fScore.fNotes, GNote.good y) ∧ (∀ y ∈ x.fTempos.fTempos, GTempo.good y) ∧ I64 x.fTuning.fBase.fNum ∧ I64 x.fTuning.fBase.fDen ∧ I64 x.fTuning.fOctave.fNum ∧ I64 x.fTuning.fOctave.fDen ∧ (∀ y ∈ x.fTuning.fRatios, GFrac.good y) ∧ (∀ y ∈ x.fSignal, I64 y) ∧ I64 x.fSession.fLength ∧ (∀ l ∈ x.fSession.fSources, ∀ y ∈ l, I64 y) ∧ (∀ y ∈ x.fSession.fTracks, GTrack.good y) ∧ (∀ y ∈ x.fSession.fFeeds, I64 y) ∧ (∀ y ∈ x.fSession.fEffects, GPatch.good y) ∧ (∀ y ∈ x.fSession.fMixer.fStrips, GStrip.good y)
def GDesk.small (x : GDesk) : Prop := x.fScore.fNotes.length ≤ 1048576 ∧ x.fTempos.fTempos.length ≤ 1048576 ∧ x.fTuning.fRatios.length ≤ 1048576 ∧ x.fSignal.length ≤ 1048576 ∧ smL (fun l : List Int => l.length ≤ 1048576) x.fSession.fSources ∧ smL GTrack.small x.fSession.fTracks ∧ x.fSession.fFeeds.length ≤ 1048576 ∧ smL GPatch.small x.fSession.fEffects ∧ smL GStrip.small x.fSession.fMixer.fStrips
theorem GDesk.rd_open {w : World} {x : GDesk} {cs : List Value} (h : T.rds w x.fs cs) : ∃ v0 v1 v6 v7 v9 v10 v11 v12 v13, cs = [v0, v1, .int .i64 x.fTuning.fBase.fNum, .int .i64 x.fTuning.fBase.fDen, .int .i64 x.fTuning.fOctave.fNum, .int .i64 x.fTuning.fOctave.fDen, v6, v7, .int .i64 x.fSession.fLength, v9, v10, v11, v12, v13] ∧ T.rd w (T.sl 104 7 (x.fScore.fNotes.map GNote.t)) [v0] ∧ T.rd w (T.sl 107 3 (x.fTempos.fTempos.map GTempo.t)) [v1] ∧ T.rd w (T.sl 64 2 (x.fTuning.fRatios.map GFrac.t)) [v6] ∧ T.rd w (T.ints 2 x.fSignal) [v7] ∧ T.rd w (T.sl 24 1 (x.fSession.fSources.map (T.ints 2))) [v9] ∧ T.rd w (T.sl 114 1 (x.fSession.fTracks.map GTrack.t)) [v10] ∧ T.rd w (T.ints 2 x.fSession.fFeeds) [v11] ∧ T.rd w (T.sl 136 4 (x.fSession.fEffects.map GPatch.t)) [v12] ∧ T.rd w (T.sl 153 3 (x.fSession.fMixer.fStrips.map GStrip.t)) [v13] := by
  simp only [GDesk.fs, T.rds_num, T.rds_str, T.rds_sl, T.rds_nil] at h
  obtain ⟨v0, _, rfl, h0, v1, _, rfl, h1, _, rfl, _, rfl, _, rfl, _, rfl, v6, _, rfl, h6, v7, _, rfl, h7, _, rfl, v9, _, rfl, h9, v10, _, rfl, h10, v11, _, rfl, h11, v12, _, rfl, h12, v13, _, rfl, h13, rfl⟩ := h
  exact ⟨v0, v1, v6, v7, v9, v10, v11, v12, v13, rfl, h0, h1, h6, h7, h9, h10, h11, h12, h13⟩
theorem GDesk.rd_mk {w : World} {x : GDesk} {v0 : Value} {v1 : Value} {v6 : Value} {v7 : Value} {v9 : Value} {v10 : Value} {v11 : Value} {v12 : Value} {v13 : Value} (h0 : T.rd w (T.sl 104 7 (x.fScore.fNotes.map GNote.t)) [v0]) (h1 : T.rd w (T.sl 107 3 (x.fTempos.fTempos.map GTempo.t)) [v1]) (h6 : T.rd w (T.sl 64 2 (x.fTuning.fRatios.map GFrac.t)) [v6]) (h7 : T.rd w (T.ints 2 x.fSignal) [v7]) (h9 : T.rd w (T.sl 24 1 (x.fSession.fSources.map (T.ints 2))) [v9]) (h10 : T.rd w (T.sl 114 1 (x.fSession.fTracks.map GTrack.t)) [v10]) (h11 : T.rd w (T.ints 2 x.fSession.fFeeds) [v11]) (h12 : T.rd w (T.sl 136 4 (x.fSession.fEffects.map GPatch.t)) [v12]) (h13 : T.rd w (T.sl 153 3 (x.fSession.fMixer.fStrips.map GStrip.t)) [v13]) : T.rds w x.fs [v0, v1, .int .i64 x.fTuning.fBase.fNum, .int .i64 x.fTuning.fBase.fDen, .int .i64 x.fTuning.fOctave.fNum, .int .i64 x.fTuning.fOctave.fDen, v6, v7, .int .i64 x.fSession.fLength, v9, v10, v11, v12, v13] := by
  unfold GDesk.fs; exact T.c_rl h0 (T.c_rl h1 (T.c_rn (T.c_rn (T.c_rn (T.c_rn (T.c_rl h6 (T.c_rl h7 (T.c_rn (T.c_rl h9 (T.c_rl h10 (T.c_rl h11 (T.c_rl h12 (T.c_rl h13 (T.c_re))))))))))))))
structure GCache where
  fSession : GSession
  fMix : List Int
  fDirty : List Int
deriving DecidableEq
def GCache.fs (x : GCache) : List T := [.num x.fSession.fLength, T.sl 24 1 (x.fSession.fSources.map (T.ints 2)), T.sl 114 1 (x.fSession.fTracks.map GTrack.t), T.ints 2 x.fSession.fFeeds, T.sl 136 4 (x.fSession.fEffects.map GPatch.t), T.sl 153 3 (x.fSession.fMixer.fStrips.map GStrip.t), T.ints 2 x.fMix, T.ints 2 x.fDirty]
def GCache.t (x : GCache) : T := .st x.fs
def GCache.good (x : GCache) : Prop := I64 x.fSession.fLength ∧ (∀ l ∈ x.fSession.fSources, ∀ y ∈ l, I64 y) ∧ (∀ y ∈ x.fSession.fTracks, GTrack.good y) ∧ (∀ y ∈ x.fSession.fFeeds, I64 y) ∧ (∀ y ∈ x.fSession.fEffects, GPatch.good y) ∧ (∀ y ∈ x.fSession.fMixer.fStrips, GStrip.good y) ∧ (∀ y ∈ x.fMix, I64 y) ∧ (∀ y ∈ x.fDirty, I64 y)
def GCache.small (x : GCache) : Prop := smL (fun l : List Int => l.length ≤ 1048576) x.fSession.fSources ∧ smL GTrack.small x.fSession.fTracks ∧ x.fSession.fFeeds.length ≤ 1048576 ∧ smL GPatch.small x.fSession.fEffects ∧ smL GStrip.small x.fSession.fMixer.fStrips ∧ x.fMix.length ≤ 1048576 ∧ x.fDirty.length ≤ 1048576
structure GEdit where
  fKind : Int
  fTrack : Int
  fClip : Int
  fValue : Int
  fNew : GClip
deriving DecidableEq
def GEdit.fs (x : GEdit) : List T := [.num x.fKind, .num x.fTrack, .num x.fClip, .num x.fValue, .num x.fNew.fSource, .num x.fNew.fFrom, .num x.fNew.fLength, .num x.fNew.fAt, .num x.fNew.fGain]
def GEdit.t (x : GEdit) : T := .st x.fs
def GEdit.good (x : GEdit) : Prop := I64 x.fKind ∧ I64 x.fTrack ∧ I64 x.fClip ∧ I64 x.fValue ∧ I64 x.fNew.fSource ∧ I64 x.fNew.fFrom ∧ I64 x.fNew.fLength ∧ I64 x.fNew.fAt ∧ I64 x.fNew.fGain
def GEdit.small (x : GEdit) : Prop := True
end Go.Proofs.YteiflbhcehajkaaGreatDoor
end
section
namespace Go.Proofs.YteiflbhcehajkaaGreatDoor
open Go.RowKit Go.ChangeShapes Go.WideShapes Go.Deep
end Go.Proofs.YteiflbhcehajkaaGreatDoor
end
section
namespace Go.Proofs.YteiflbhcehajkaaGreatDoor
open Go.RowKit Go.ChangeShapes Go.WideShapes Go.Deep
theorem rds_range {w : World} (tr : Nat → T) (g : Nat → List Value) : ∀ (l : List Nat), (∀ i ∈ l, T.rd w (tr i) (g i)) → T.rds w (l.map tr) (l.flatMap g)
  | [], _ => T.c_re
  | i :: l, h => by
    simp only [List.map_cons, List.flatMap_cons, T.rds]
    exact ⟨_, _, rfl, h i (by simp), rds_range tr g l (fun j hj => h j (by simp [hj]))⟩
theorem rdT_open {α H : Type} {enc : TypeId × Value → H} {P : Program} {w : World} {base : Nat} {spare : Nat → Bool} {held : Bool} {t e : TypeId} {fuel : Nat} {cs : List Value} {x : DataW H × List MemPlace} (E : TypeId)
    (tr : α → T) {sz : Nat} (good : α → Prop) (hw : ∀ x, T.wide (tr x) = sz) (hs : 0 < sz) (dflt : α) (ht : P.underlying t = some (.slice e)) (ce : P.cellsOf e = sz)
    (hel : ∀ n cs' y, DataW.trod enc P w base spare held n e cs' = some y → ∃ z, T.rd w (tr z) cs' ∧ good z)
    (h : DataW.trod enc P w base spare held fuel t cs = some x) : ∃ (v : Value) (xs : List α), cs = [v] ∧ T.rd w (.sl E sz (xs.map tr)) [v] ∧ ∀ z ∈ xs, good z := by
  rcases open_slice ht h with ⟨rfl, _⟩ | ⟨a, len, cap, m, n, D, Pl, rfl, hb, hl, hm, hmm, _, hx⟩
  · refine ⟨_, [], rfl, ?_, by simp⟩
    simp only [T.rd, List.map_nil]
    exact ⟨_, [], rfl, by simp, Rd.nil_ w sz, by simp [T.rds]⟩
  · have hlm : len ≤ m := by rw [hmm]; split <;> omega
    have each : ∀ i, i < len → ∃ z : α × List Value, z.2.length = sz ∧ T.rd w (tr z.1) z.2 ∧ good z.1 ∧ ∀ j, j < sz → w.cell? (a.add (i * sz + j)) = z.2[j]? := by
      intro i hi
      obtain ⟨cs', h1, h2⟩ := hx i (by omega)
      rw [ce] at h1
      obtain ⟨_, hlen, hcell⟩ := World.cells?_some h1
      obtain ⟨z, hz, hg⟩ := hel _ _ _ h2
      refine ⟨(z, cs'), hlen, hz, hg, fun j hj => ?_⟩
      rw [← hcell j hj, add_add]
    obtain ⟨f, hf⟩ := @choose_lt (α × List Value) ⟨(dflt, [])⟩ len _ each
    let g : Nat → List Value := fun i => if i < len then (f i).2 else List.replicate sz (.bool true)
    have hgl : ∀ i, (g i).length = sz := fun i => by
      show (if i < len then (f i).2 else _).length = sz
      split
      · next hi => exact (hf i hi).1
      · simp
    have hgi : ∀ i, i < len → g i = (f i).2 := fun i hi => if_pos hi
    refine ⟨_, (List.range len).map fun i => (f i).1, rfl, ?_, ?_⟩
    · simp only [T.rd]
      refine ⟨_, (List.range len).flatMap g, rfl, ?_, ?_, ?_⟩
      · intro y hy
        obtain ⟨z, _, rfl⟩ := List.mem_map.1 hy
        exact hw z
      · have hlen : (((List.range len).map fun i => (f i).1).map tr).length = len := by simp
        rw [hlen]
        refine ⟨by rw [flat_len hgl]; simp, some a, cap, rfl, hl, by unfold maxLen at hm; omega, fun hn => ?_⟩
        have hc0 := (hf 0 hn).2.2.2 0 hs
        rw [List.getElem?_eq_getElem (by rw [(hf 0 hn).1]; exact hs)] at hc0
        have hz : a.add (0 * sz + 0) = a := by simp [Addr.add]
        rw [hz] at hc0
        have hsp : a.spot = none := by
          unfold World.cell? at hc0
          split at hc0
          · split at hc0
            · cases hc0
            · rename_i h'; simpa using h'
          · cases hc0
        obtain ⟨b, off, sp⟩ := a
        simp only at hsp
        subst hsp
        refine ⟨b, off, rfl, World.block_lt_of_cell? w _ hc0, fun j u hu => ?_⟩
        have hj : j < len * sz := by have := (List.getElem?_eq_some_iff.1 hu).1; rw [flat_len hgl] at this; simpa using this
        have hk : j / sz < len := (Nat.div_lt_iff_lt_mul hs).2 hj
        have hjm : j % sz < sz := Nat.mod_lt _ hs
        have ej : j / sz * sz + j % sz = j := by have := Nat.div_add_mod j sz; rw [Nat.mul_comm] at this; exact this
        have h1 := (hf (j / sz) hk).2.2.2 (j % sz) hjm
        have hin : (g (j / sz))[j % sz]? = some ((g (j / sz))[j % sz]'(by rw [hgl]; exact hjm)) := List.getElem?_eq_getElem _
        have h3 := flat_at hgl (xs := List.range len) (k := j / sz) (j := j % sz) (x := j / sz) (by simp [hk]) hin
        rw [ej, hu] at h3
        rw [ej, ← hgi _ hk, hin, ← h3] at h1
        rw [show (⟨b, off + j, none⟩ : Addr) = (⟨b, off, none⟩ : Addr).add j by unfold Addr.add; split <;> simp_all]
        exact h1
      · have := rds_range (w := w) (fun i => tr (f i).1) g (List.range len) (fun i hi => by
          have hi' := List.mem_range.1 hi
          rw [hgi i hi']; exact (hf i hi').2.1)
        rw [List.map_map]
        exact this
    · intro z hz
      simp only [List.mem_map, List.mem_range] at hz
      obtain ⟨i, hi, rfl⟩ := hz
      exact (hf i hi).2.2.1
end Go.Proofs.YteiflbhcehajkaaGreatDoor
end
