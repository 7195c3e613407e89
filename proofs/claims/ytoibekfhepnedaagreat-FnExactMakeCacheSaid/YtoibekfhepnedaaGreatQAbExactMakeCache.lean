/- Nested data: sessions, desks and their parts; how they lie in memory. What valid sessions and caches are, in plain words. Words: a slice of elements opened; a struct behind a pointer. Contracts of the smallest functions. Contracts: lists of samples, copies, differences. Contracts: equal lists, marks, copies, differences. Contracts: wrapped numbers, copies, differences. Contracts: differences of an order; PredictSignal of both sides. -/
import Derived.Test.YtoibekfhepnedaaGreatQAaExactMakeCache
import Derived.Test.YtoibekfhepnedaaGreatRows
import Derived.Deep.RegionWith
set_option linter.unusedVariables false
set_option linter.unusedSimpArgs false
set_option maxHeartbeats 400000
namespace Go.Proofs.YtoibekfhepnedaaGreat
section
open Go.RowKit
structure xL where
 zU:Int
 zH:Int
 zF:Int
 zX:Int
 zS:Int
deriving DecidableEq
def xL.fs (x:xL):List T:= [.num x.zU,.num x.zH,.num x.zF,.num x.zX,.num x.zS]
def xL.t (x:xL):T:= .st x.fs
theorem xL.wide_t (x:xL):T.wide x.t=5:=by simp[xL.t,xL.fs,T.wide,T.wides]
def xL.good (x:xL):Prop:=I64 x.zU∧I64 x.zH∧I64 x.zF∧I64 x.zX∧I64 x.zS
theorem xL.yO {w:World} {x:xL} {cs:List Value} (h:T.rds w x.fs cs):cs= [.int .i64 x.zU,.int .i64 x.zH,.int .i64 x.zF,.int .i64 x.zX,.int .i64 x.zS]:=by
 simp only[xL.fs,T.rds_num,T.rds_str,T.rds_sl,T.rds_nil] at h
 obtain⟨_,rfl,_,rfl,_,rfl,_,rfl,_,rfl,rfl⟩:=h
 exact rfl
theorem xL.rd_mk {w:World} {x:xL} :T.rds w x.fs [.int .i64 x.zU,.int .i64 x.zH,.int .i64 x.zF,.int .i64 x.zX,.int .i64 x.zS]:=by
 unfold xL.fs;exact T.c_rn (T.c_rn (T.c_rn (T.c_rn (T.c_rn (T.c_re)))))
theorem xL.ow_mk {w:World} {x:xL} :T.ows w x.fs [] [.int .i64 x.zU,.int .i64 x.zH,.int .i64 x.zF,.int .i64 x.zX,.int .i64 x.zS]:=by
 unfold xL.fs;exact T.c_on (T.c_on (T.c_on (T.c_on (T.c_on (T.c_oe)))))
structure xI where
 zR:List xL
deriving DecidableEq
def xI.fs (x:xI):List T:= [T.sl 39 5 (x.zR.map xL.t)]
def xI.t (x:xI):T:= .st x.fs
theorem xI.wide_t (x:xI):T.wide x.t=1:=by simp[xI.t,xI.fs,T.wide,T.wides]
def xI.good (x:xI):Prop:=(∀ y ∈ x.zR,xL.good y)
def xI.small (x:xI):Prop:=x.zR.length≤1048576
theorem xI.yO {w:World} {x:xI} {cs:List Value} (h:T.rds w x.fs cs): ∃ v0,cs= [v0]∧T.rd w (T.sl 39 5 (x.zR.map xL.t)) [v0]:=by
 simp only[xI.fs,T.rds_num,T.rds_str,T.rds_sl,T.rds_nil] at h
 obtain⟨v0,_,rfl,h0,rfl⟩:=h
 exact⟨v0,rfl,h0⟩
theorem xI.rd_mk {w:World} {x:xI} {v0:Value} (h0:T.rd w (T.sl 39 5 (x.zR.map xL.t)) [v0]):T.rds w x.fs [v0]:=by
 unfold xI.fs;exact T.c_rl h0 (T.c_re)
theorem xI.ow_open {w:World} {x:xI} {F:List Nat} {cs:List Value} (h:T.ows w x.fs F cs): ∃ v0 F0,cs= [v0]∧F=F0++ []∧T.ow w (T.sl 39 5 (x.zR.map xL.t)) F0 [v0]:=by
 simp only[xI.fs,T.ows_num,T.ows_str,T.ows_sl,T.ows_nil] at h
 obtain⟨v0,_,F0,_,rfl,rfl,h0,rfl,rfl⟩:=h
 exact⟨v0,F0,rfl,rfl,h0⟩
theorem xI.ow_mk {w:World} {x:xI} {v0:Value} {F0:List Nat} (h0:T.ow w (T.sl 39 5 (x.zR.map xL.t)) F0 [v0]):T.ows w x.fs (F0++ []) [v0]:=by
 unfold xI.fs;exact T.c_ol h0 (T.c_oe)
structure xM where
 zW:Int
 zS:Int
deriving DecidableEq
def xM.fs (x:xM):List T:= [.num x.zW,.num x.zS]
def xM.t (x:xM):T:= .st x.fs
theorem xM.wide_t (x:xM):T.wide x.t=2:=by simp[xM.t,xM.fs,T.wide,T.wides]
def xM.good (x:xM):Prop:=I64 x.zW∧I64 x.zS
theorem xM.yO {w:World} {x:xM} {cs:List Value} (h:T.rds w x.fs cs):cs= [.int .i64 x.zW,.int .i64 x.zS]:=by
 simp only[xM.fs,T.rds_num,T.rds_str,T.rds_sl,T.rds_nil] at h
 obtain⟨_,rfl,_,rfl,rfl⟩:=h
 exact rfl
theorem xM.ow_mk {w:World} {x:xM} :T.ows w x.fs [] [.int .i64 x.zW,.int .i64 x.zS]:=by
 unfold xM.fs;exact T.c_on (T.c_on (T.c_oe))
structure xH where
 zV:ByteArray
 zI:Int
 zM:List xM
deriving DecidableEq
def xH.fs (x:xH):List T:= [.str x.zV,.num x.zI,T.sl 98 2 (x.zM.map xM.t)]
def xH.t (x:xH):T:= .st x.fs
theorem xH.wide_t (x:xH):T.wide x.t=3:=by simp[xH.t,xH.fs,T.wide,T.wides]
def xH.good (x:xH):Prop:=x.zV.size≤9223372036854775807∧I64 x.zI∧(∀ y ∈ x.zM,xM.good y)
def xH.small (x:xH):Prop:=x.zV.size≤1048576∧x.zM.length≤1048576
theorem xH.yO {w:World} {x:xH} {cs:List Value} (h:T.rds w x.fs cs): ∃ v2,cs= [.string x.zV,.int .i64 x.zI,v2]∧T.rd w (T.sl 98 2 (x.zM.map xM.t)) [v2]:=by
 simp only[xH.fs,T.rds_num,T.rds_str,T.rds_sl,T.rds_nil] at h
 obtain⟨_,rfl,_,rfl,v2,_,rfl,h2,rfl⟩:=h
 exact⟨v2,rfl,h2⟩
theorem xH.ow_open {w:World} {x:xH} {F:List Nat} {cs:List Value} (h:T.ows w x.fs F cs): ∃ v2 F2,cs= [.string x.zV,.int .i64 x.zI,v2]∧F=F2++ []∧T.ow w (T.sl 98 2 (x.zM.map xM.t)) F2 [v2]:=by
 simp only[xH.fs,T.ows_num,T.ows_str,T.ows_sl,T.ows_nil] at h
 obtain⟨_,rfl,_,rfl,v2,_,F2,_,rfl,rfl,h2,rfl,rfl⟩:=h
 exact⟨v2,F2,rfl,rfl,h2⟩
theorem xH.ow_mk {w:World} {x:xH} {v2:Value} {F2:List Nat} (h2:T.ow w (T.sl 98 2 (x.zM.map xM.t)) F2 [v2]):T.ows w x.fs (F2++ []) [.string x.zV,.int .i64 x.zI,v2]:=by
 unfold xH.fs;exact T.c_os (T.c_on (T.c_ol h2 (T.c_oe)))
structure xU where
 zC:List xH
deriving DecidableEq
def xU.fs (x:xU):List T:= [T.sl 101 3 (x.zC.map xH.t)]
def xU.good (x:xU):Prop:=(∀ y ∈ x.zC,xH.good y)
def xU.small (x:xU):Prop:=smL xH.small x.zC
theorem xU.yO {w:World} {x:xU} {cs:List Value} (h:T.rds w x.fs cs): ∃ v0,cs= [v0]∧T.rd w (T.sl 101 3 (x.zC.map xH.t)) [v0]:=by
 simp only[xU.fs,T.rds_num,T.rds_str,T.rds_sl,T.rds_nil] at h
 obtain⟨v0,_,rfl,h0,rfl⟩:=h
 exact⟨v0,rfl,h0⟩
theorem xU.rd_mk {w:World} {x:xU} {v0:Value} (h0:T.rd w (T.sl 101 3 (x.zC.map xH.t)) [v0]):T.rds w x.fs [v0]:=by
 unfold xU.fs;exact T.c_rl h0 (T.c_re)
structure xJ where
 zD:Int
 fA:Int
 fB:Int
 zH:List Int
deriving DecidableEq
def xJ.fs (x:xJ):List T:= [.num x.zD,.num x.fA,.num x.fB,T.ints 2 x.zH]
def xJ.t (x:xJ):T:= .st x.fs
theorem xJ.wide_t (x:xJ):T.wide x.t=4:=by simp[xJ.t,xJ.fs,T.wide,T.wides]
def xJ.good (x:xJ):Prop:=I64 x.zD∧I64 x.fA∧I64 x.fB∧(∀ y ∈ x.zH,I64 y)
def xJ.small (x:xJ):Prop:=x.zH.length≤1048576
theorem xJ.yO {w:World} {x:xJ} {cs:List Value} (h:T.rds w x.fs cs): ∃ v3,cs= [.int .i64 x.zD,.int .i64 x.fA,.int .i64 x.fB,v3]∧T.rd w (T.ints 2 x.zH) [v3]:=by
 simp only[xJ.fs,T.rds_num,T.rds_str,T.rds_sl,T.rds_nil] at h
 obtain⟨_,rfl,_,rfl,_,rfl,v3,_,rfl,h3,rfl⟩:=h
 exact⟨v3,rfl,h3⟩
theorem xJ.rd_mk {w:World} {x:xJ} {v3:Value} (h3:T.rd w (T.ints 2 x.zH) [v3]):T.rds w x.fs [.int .i64 x.zD,.int .i64 x.fA,.int .i64 x.fB,v3]:=by
 unfold xJ.fs;exact T.c_rn (T.c_rn (T.c_rn (T.c_rl h3 (T.c_re))))
theorem xJ.ow_open {w:World} {x:xJ} {F:List Nat} {cs:List Value} (h:T.ows w x.fs F cs): ∃ v3 F3,cs= [.int .i64 x.zD,.int .i64 x.fA,.int .i64 x.fB,v3]∧F=F3++ []∧T.ow w (T.ints 2 x.zH) F3 [v3]:=by
 simp only[xJ.fs,T.ows_num,T.ows_str,T.ows_sl,T.ows_nil] at h
 obtain⟨_,rfl,_,rfl,_,rfl,v3,_,F3,_,rfl,rfl,h3,rfl,rfl⟩:=h
 exact⟨v3,F3,rfl,rfl,h3⟩
theorem xJ.ow_mk {w:World} {x:xJ} {v3:Value} {F3:List Nat} (h3:T.ow w (T.ints 2 x.zH) F3 [v3]):T.ows w x.fs (F3++ []) [.int .i64 x.zD,.int .i64 x.fA,.int .i64 x.fB,v3]:=by
 unfold xJ.fs;exact T.c_on (T.c_on (T.c_on (T.c_ol h3 (T.c_oe))))
structure xG where
 zJ:Int
 zN:List (List Int)
 zB:List xJ
 zK:List Int
deriving DecidableEq
def xG.fs (x:xG):List T:= [.num x.zJ,T.sl 26 1 (x.zN.map (T.ints 2)),T.sl 167 4 (x.zB.map xJ.t),T.ints 2 x.zK]
def xG.t (x:xG):T:= .st x.fs
theorem xG.wide_t (x:xG):T.wide x.t=4:=by simp[xG.t,xG.fs,T.wide,T.wides]
def xG.good (x:xG):Prop:=I64 x.zJ∧(∀ l ∈ x.zN,∀ y ∈ l,I64 y)∧(∀ y ∈ x.zB,xJ.good y)∧(∀ y ∈ x.zK,I64 y)
def xG.small (x:xG):Prop:=smL (fun l:List Int=>l.length≤1048576) x.zN∧smL xJ.small x.zB∧x.zK.length≤1048576
theorem xG.yO {w:World} {x:xG} {cs:List Value} (h:T.rds w x.fs cs): ∃ v1 v2 v3,cs= [.int .i64 x.zJ,v1,v2,v3]∧T.rd w (T.sl 26 1 (x.zN.map (T.ints 2))) [v1]∧T.rd w (T.sl 167 4 (x.zB.map xJ.t)) [v2]∧T.rd w (T.ints 2 x.zK) [v3]:=by
 simp only[xG.fs,T.rds_num,T.rds_str,T.rds_sl,T.rds_nil] at h
 obtain⟨_,rfl,v1,_,rfl,h1,v2,_,rfl,h2,v3,_,rfl,h3,rfl⟩:=h
 exact⟨v1,v2,v3,rfl,h1,h2,h3⟩
theorem xG.rd_mk {w:World} {x:xG} {v1:Value} {v2:Value} {v3:Value} (h1:T.rd w (T.sl 26 1 (x.zN.map (T.ints 2))) [v1]) (h2:T.rd w (T.sl 167 4 (x.zB.map xJ.t)) [v2]) (h3:T.rd w (T.ints 2 x.zK) [v3]):T.rds w x.fs [.int .i64 x.zJ,v1,v2,v3]:=by
 unfold xG.fs;exact T.c_rn (T.c_rl h1 (T.c_rl h2 (T.c_rl h3 (T.c_re))))
theorem xG.ow_open {w:World} {x:xG} {F:List Nat} {cs:List Value} (h:T.ows w x.fs F cs): ∃ v1 v2 v3 F1 F2 F3,cs= [.int .i64 x.zJ,v1,v2,v3]∧F=F1++(F2++(F3++ []))∧T.ow w (T.sl 26 1 (x.zN.map (T.ints 2))) F1 [v1]∧T.ow w (T.sl 167 4 (x.zB.map xJ.t)) F2 [v2]∧T.ow w (T.ints 2 x.zK) F3 [v3]:=by
 simp only[xG.fs,T.ows_num,T.ows_str,T.ows_sl,T.ows_nil] at h
 obtain⟨_,rfl,v1,_,F1,_,rfl,rfl,h1,v2,_,F2,_,rfl,rfl,h2,v3,_,F3,_,rfl,rfl,h3,rfl,rfl⟩:=h
 exact⟨v1,v2,v3,F1,F2,F3,rfl,rfl,h1,h2,h3⟩
theorem xG.ow_mk {w:World} {x:xG} {v1:Value} {F1:List Nat} {v2:Value} {F2:List Nat} {v3:Value} {F3:List Nat} (h1:T.ow w (T.sl 26 1 (x.zN.map (T.ints 2))) F1 [v1]) (h2:T.ow w (T.sl 167 4 (x.zB.map xJ.t)) F2 [v2]) (h3:T.ow w (T.ints 2 x.zK) F3 [v3]):T.ows w x.fs (F1++(F2++(F3++ []))) [.int .i64 x.zJ,v1,v2,v3]:=by
 unfold xG.fs;exact T.c_on (T.c_ol h1 (T.c_ol h2 (T.c_ol h3 (T.c_oe))))
structure xK where
 zF:Int
 zL:List (List Int)
 zO:List xI
 zQ:List Int
 zP:List xG
 zG:xU
deriving DecidableEq
def xK.fs (x:xK):List T:= [.num x.zF,T.sl 26 1 (x.zL.map (T.ints 2)),T.sl 96 1 (x.zO.map xI.t),T.ints 2 x.zQ,T.sl 108 4 (x.zP.map xG.t),T.sl 101 3 (x.zG.zC.map xH.t)]
def xK.good (x:xK):Prop:=I64 x.zF∧(∀ l ∈ x.zL,∀ y ∈ l,I64 y)∧(∀ y ∈ x.zO,xI.good y)∧(∀ y ∈ x.zQ,I64 y)∧(∀ y ∈ x.zP,xG.good y)∧(∀ y ∈ x.zG.zC,xH.good y)
def xK.small (x:xK):Prop:=smL (fun l:List Int=>l.length≤1048576) x.zL∧smL xI.small x.zO∧x.zQ.length≤1048576∧smL xG.small x.zP∧smL xH.small x.zG.zC
theorem xK.yO {w:World} {x:xK} {cs:List Value} (h:T.rds w x.fs cs): ∃ v1 v2 v3 v4 v5,cs= [.int .i64 x.zF,v1,v2,v3,v4,v5]∧T.rd w (T.sl 26 1 (x.zL.map (T.ints 2))) [v1]∧T.rd w (T.sl 96 1 (x.zO.map xI.t)) [v2]∧T.rd w (T.ints 2 x.zQ) [v3]∧T.rd w (T.sl 108 4 (x.zP.map xG.t)) [v4]∧T.rd w (T.sl 101 3 (x.zG.zC.map xH.t)) [v5]:=by
 simp only[xK.fs,T.rds_num,T.rds_str,T.rds_sl,T.rds_nil] at h
 obtain⟨_,rfl,v1,_,rfl,h1,v2,_,rfl,h2,v3,_,rfl,h3,v4,_,rfl,h4,v5,_,rfl,h5,rfl⟩:=h
 exact⟨v1,v2,v3,v4,v5,rfl,h1,h2,h3,h4,h5⟩
theorem xK.rd_mk {w:World} {x:xK} {v1:Value} {v2:Value} {v3:Value} {v4:Value} {v5:Value} (h1:T.rd w (T.sl 26 1 (x.zL.map (T.ints 2))) [v1]) (h2:T.rd w (T.sl 96 1 (x.zO.map xI.t)) [v2]) (h3:T.rd w (T.ints 2 x.zQ) [v3]) (h4:T.rd w (T.sl 108 4 (x.zP.map xG.t)) [v4]) (h5:T.rd w (T.sl 101 3 (x.zG.zC.map xH.t)) [v5]):T.rds w x.fs [.int .i64 x.zF,v1,v2,v3,v4,v5]:=by
 unfold xK.fs;exact T.c_rn (T.c_rl h1 (T.c_rl h2 (T.c_rl h3 (T.c_rl h4 (T.c_rl h5 (T.c_re))))))
theorem xK.ow_open {w:World} {x:xK} {F:List Nat} {cs:List Value} (h:T.ows w x.fs F cs): ∃ v1 v2 v3 v4 v5 F1 F2 F3 F4 F5,cs= [.int .i64 x.zF,v1,v2,v3,v4,v5]∧F=F1++(F2++(F3++(F4++(F5++ []))))∧T.ow w (T.sl 26 1 (x.zL.map (T.ints 2))) F1 [v1]∧T.ow w (T.sl 96 1 (x.zO.map xI.t)) F2 [v2]∧T.ow w (T.ints 2 x.zQ) F3 [v3]∧T.ow w (T.sl 108 4 (x.zP.map xG.t)) F4 [v4]∧T.ow w (T.sl 101 3 (x.zG.zC.map xH.t)) F5 [v5]:=by
 simp only[xK.fs,T.ows_num,T.ows_str,T.ows_sl,T.ows_nil] at h
 obtain⟨_,rfl,v1,_,F1,_,rfl,rfl,h1,v2,_,F2,_,rfl,rfl,h2,v3,_,F3,_,rfl,rfl,h3,v4,_,F4,_,rfl,rfl,h4,v5,_,F5,_,rfl,rfl,h5,rfl,rfl⟩:=h
 exact⟨v1,v2,v3,v4,v5,F1,F2,F3,F4,F5,rfl,rfl,h1,h2,h3,h4,h5⟩
theorem xK.ow_mk {w:World} {x:xK} {v1:Value} {F1:List Nat} {v2:Value} {F2:List Nat} {v3:Value} {F3:List Nat} {v4:Value} {F4:List Nat} {v5:Value} {F5:List Nat} (h1:T.ow w (T.sl 26 1 (x.zL.map (T.ints 2))) F1 [v1]) (h2:T.ow w (T.sl 96 1 (x.zO.map xI.t)) F2 [v2]) (h3:T.ow w (T.ints 2 x.zQ) F3 [v3]) (h4:T.ow w (T.sl 108 4 (x.zP.map xG.t)) F4 [v4]) (h5:T.ow w (T.sl 101 3 (x.zG.zC.map xH.t)) F5 [v5]):T.ows w x.fs (F1++(F2++(F3++(F4++(F5++ []))))) [.int .i64 x.zF,v1,v2,v3,v4,v5]:=by
 unfold xK.fs;exact T.c_on (T.c_ol h1 (T.c_ol h2 (T.c_ol h3 (T.c_ol h4 (T.c_ol h5 (T.c_oe))))))
structure wS where
 zT:xK
 zZ:List Int
 zY:List Int
deriving DecidableEq
def wS.fs (x:wS):List T:= [.num x.zT.zF,T.sl 26 1 (x.zT.zL.map (T.ints 2)),T.sl 96 1 (x.zT.zO.map xI.t),T.ints 2 x.zT.zQ,T.sl 108 4 (x.zT.zP.map xG.t),T.sl 101 3 (x.zT.zG.zC.map xH.t),T.ints 2 x.zZ,T.ints 2 x.zY]
def wS.small (x:wS):Prop:=smL (fun l:List Int=>l.length≤1048576) x.zT.zL∧smL xI.small x.zT.zO∧x.zT.zQ.length≤1048576∧smL xG.small x.zT.zP∧smL xH.small x.zT.zG.zC∧x.zZ.length≤1048576∧x.zY.length≤1048576
theorem wS.yO {w:World} {x:wS} {cs:List Value} (h:T.rds w x.fs cs): ∃ v1 v2 v3 v4 v5 v6 v7,cs= [.int .i64 x.zT.zF,v1,v2,v3,v4,v5,v6,v7]∧T.rd w (T.sl 26 1 (x.zT.zL.map (T.ints 2))) [v1]∧T.rd w (T.sl 96 1 (x.zT.zO.map xI.t)) [v2]∧T.rd w (T.ints 2 x.zT.zQ) [v3]∧T.rd w (T.sl 108 4 (x.zT.zP.map xG.t)) [v4]∧T.rd w (T.sl 101 3 (x.zT.zG.zC.map xH.t)) [v5]∧T.rd w (T.ints 2 x.zZ) [v6]∧T.rd w (T.ints 2 x.zY) [v7]:=by
 simp only[wS.fs,T.rds_num,T.rds_str,T.rds_sl,T.rds_nil] at h
 obtain⟨_,rfl,v1,_,rfl,h1,v2,_,rfl,h2,v3,_,rfl,h3,v4,_,rfl,h4,v5,_,rfl,h5,v6,_,rfl,h6,v7,_,rfl,h7,rfl⟩:=h
 exact⟨v1,v2,v3,v4,v5,v6,v7,rfl,h1,h2,h3,h4,h5,h6,h7⟩
theorem wS.ow_open {w:World} {x:wS} {F:List Nat} {cs:List Value} (h:T.ows w x.fs F cs): ∃ v1 v2 v3 v4 v5 v6 v7 F1 F2 F3 F4 F5 F6 F7,cs= [.int .i64 x.zT.zF,v1,v2,v3,v4,v5,v6,v7]∧F=F1++(F2++(F3++(F4++(F5++(F6++(F7++ []))))))∧T.ow w (T.sl 26 1 (x.zT.zL.map (T.ints 2))) F1 [v1]∧T.ow w (T.sl 96 1 (x.zT.zO.map xI.t)) F2 [v2]∧T.ow w (T.ints 2 x.zT.zQ) F3 [v3]∧T.ow w (T.sl 108 4 (x.zT.zP.map xG.t)) F4 [v4]∧T.ow w (T.sl 101 3 (x.zT.zG.zC.map xH.t)) F5 [v5]∧T.ow w (T.ints 2 x.zZ) F6 [v6]∧T.ow w (T.ints 2 x.zY) F7 [v7]:=by
 simp only[wS.fs,T.ows_num,T.ows_str,T.ows_sl,T.ows_nil] at h
 obtain⟨_,rfl,v1,_,F1,_,rfl,rfl,h1,v2,_,F2,_,rfl,rfl,h2,v3,_,F3,_,rfl,rfl,h3,v4,_,F4,_,rfl,rfl,h4,v5,_,F5,_,rfl,rfl,h5,v6,_,F6,_,rfl,rfl,h6,v7,_,F7,_,rfl,rfl,h7,rfl,rfl⟩:=h
 exact⟨v1,v2,v3,v4,v5,v6,v7,F1,F2,F3,F4,F5,F6,F7,rfl,rfl,h1,h2,h3,h4,h5,h6,h7⟩
theorem wS.ow_mk {w:World} {x:wS} {v1:Value} {F1:List Nat} {v2:Value} {F2:List Nat} {v3:Value} {F3:List Nat} {v4:Value} {F4:List Nat} {v5:Value} {F5:List Nat} {v6:Value} {F6:List Nat} {v7:Value} {F7:List Nat} (h1:T.ow w (T.sl 26 1 (x.zT.zL.map (T.ints 2))) F1 [v1]) (h2:T.ow w (T.sl 96 1 (x.zT.zO.map xI.t)) F2 [v2]) (h3:T.ow w (T.ints 2 x.zT.zQ) F3 [v3]) (h4:T.ow w (T.sl 108 4 (x.zT.zP.map xG.t)) F4 [v4]) (h5:T.ow w (T.sl 101 3 (x.zT.zG.zC.map xH.t)) F5 [v5]) (h6:T.ow w (T.ints 2 x.zZ) F6 [v6]) (h7:T.ow w (T.ints 2 x.zY) F7 [v7]):T.ows w x.fs (F1++(F2++(F3++(F4++(F5++(F6++(F7++ []))))))) [.int .i64 x.zT.zF,v1,v2,v3,v4,v5,v6,v7]:=by
 unfold wS.fs;exact T.c_on (T.c_ol h1 (T.c_ol h2 (T.c_ol h3 (T.c_ol h4 (T.c_ol h5 (T.c_ol h6 (T.c_ol h7 (T.c_oe))))))))
structure GEdit where
 zD:Int
 yB:Int
 yD:Int
 yC:Int
 yE:xL
deriving DecidableEq
end
section
open Go.RowKit
noncomputable def tf (p:Prop):Bool:= @decide p (Classical.propDecidable p)
theorem xA {p:Prop} (h:p):tf p=true:=by unfold tf;exact @decide_eq_true p (Classical.propDecidable p) h
theorem yZ {p:Prop} (h: ¬ p):tf p=false:=by unfold tf;exact @decide_eq_false p (Classical.propDecidable p) h
theorem tf_iff {p q:Prop} (h:p↔q):tf p=tf q:=by rw[propext h]
theorem tf_dec {p:Prop} [d:Decidable p]:tf p=decide p:=by
 by_cases h:p
 ·rw[xA h,decide_eq_true h]
 ·rw[yZ h,decide_eq_false h]
/-- The first k elements are right; all are. -/
def vI {α:Type} (xs:List α) (Q:Nat→α→Prop) (k:Nat):Prop:= ∀ i x,i<k→xs[i]?=some x→Q i x
def Each {α:Type} (xs:List α) (Q:Nat→α→Prop):Prop:= ∀ i x,xs[i]?=some x→Q i x
section
variable {α:Type} {xs:List α} {Q:Nat→α→Prop} {k:Nat} {x:α}
theorem vI.zero:vI xs Q 0:=fun i _ h=>absurd h (Nat.not_lt_zero i)
theorem vI.step (h:vI xs Q k) (hx:xs[k]?=some x) (q:Q k x):vI xs Q (k+1):=by
 intro i y hi hy
 by_cases e:i=k
 ·subst e
  rw[hx] at hy
  injection hy with hy
  subst hy
  exact q
 ·exact h i y (by omega) hy
theorem vI.all (h:vI xs Q k) (hk:xs.length≤k):Each xs Q:=fun i y hy=>h i y (lL (List.getElem?_eq_some_iff.1 hy).1 hk) hy
theorem Each.of_mem {P:α→Prop} :Each xs (fun _ y=>P y)↔ ∀ y ∈ xs,P y:=by
 constructor
 ·intro h y hy
  obtain⟨i,hi,rfl⟩:=List.mem_iff_getElem.1 hy
  exact h i _ (gE hi)
 ·intro h i y hy
  exact h y (List.mem_of_getElem? hy)
end
/-- Numbers from 0 on and below n. -/
def Idx (l:List Int) (n:Int):Prop:=Each l fun _ x=>0≤x∧x≤n - 1
structure ClipOk (c:xL):Prop where
 source:inB c.zU 0 5=true
 length:inB c.zF 1 4000=true
 from_:inB c.zH 0 (4000 - c.zF)=true
 at_:inB c.zX 0 (4000 - c.zF)=true
 gain:Smp c.zS
structure TrackOk (t:xI):Prop where
 clips:Each t.zR fun i c=>ClipOk c∧ ∀ p,0<i→t.zR[i - 1]?=some p→p.zX≤c.zX
 few:t.zR.length≤12
def befS (l:List xM) (strip:Int) (i:Nat):Int:=if i=0 then strip else (l.getD (i - 1) ⟨0,0⟩).zW
structure SendsOk (l:List xM) (strip n:Int):Prop where
 each:Each l fun i x=>inB x.zW (befS l strip i+1) (n - 1)=true∧Smp x.zS
 last:strip=n - 1→l.length=0
 few:strip≠n - 1→1≤l.length∧l.length≤4
def smallN (c:Nat):Prop:=97≤c∧c≤122
def digitN (c:Nat):Prop:=48≤c∧c≤57
structure NameOk (s:ByteArray):Prop where
 some_:1≤s.size
 few:s.size≤10
 each: ∀ i,i<s.size→smallN (bA s i)∨(digitN (bA s i)∧i≠0)
structure StripOk (x:xH) (i n:Int):Prop where
 name:NameOk x.zV
 latency:inB x.zI 0 32=true
 sends:SendsOk x.zM i n
structure vU (m:xU):Prop where
 some_:1≤m.zC.length
 few:m.zC.length≤8
 each:Each m.zC fun i x=>StripOk x (i:Int) (m.zC.length:Int)∧ ∀ j y,j<i→m.zC[j]?=some y→y.zV≠x.zV
structure zAz (ss:List (List Int)):Prop where
 each:Each ss fun _ l=>sigB l=true
 few:ss.length≤6
structure TablesOk (ts:List (List Int)):Prop where
 each:Each ts fun _ t=>(t.length=2∨t.length=4∨t.length=8∨t.length=16)∧smpB t=true
 few:ts.length≤4
/-- What is known of a kind of nodes: its inputs, the range of A (none if the first is greater), whether it has B. -/
structure Knd where
 inputs:Int
 low:Int
 high:Int
 linear:Bool
 hasB:Bool
def kndL:List Knd:= [⟨0,0,3,true,false⟩,⟨0,-2147483648,2147483647,false,false⟩,⟨2,1,0,true,false⟩,⟨2,1,0,true,false⟩,⟨1,-2147483648,2147483647,true,false⟩,⟨1,1,16,true,false⟩,⟨1,1,0,true,false⟩,⟨1,1,0,true,false⟩,⟨2,1,0,false,false⟩,⟨1,0,31,false,false⟩,⟨1,0,2147483647,false,false⟩,⟨1,-2147483648,2147483647,false,false⟩,⟨1,0,3,false,false⟩,⟨0,-2147483648,2147483647,false,false⟩,⟨3,1,0,false,false⟩,⟨2,1,0,false,false⟩,⟨1,-2147483648,2147483647,true,true⟩]
def kndF (k:Int):Knd:=kndL.getD (k - 1).toNat ⟨0,0,0,false,false⟩
structure NodeOk (x:xJ) (tables:Int):Prop where
 kind:inB x.zD 1 17=true
 a:if (kndF x.zD).low≤(kndF x.zD).high then inB x.fA (kndF x.zD).low (kndF x.zD).high=true else x.fA=0
 b:if (kndF x.zD).hasB then inB x.fB 1 16=true else x.fB=0
 from_:Each x.zH fun _ f=>inB f 0 23=true
 arity:(x.zH.length:Int)=(kndF x.zD).inputs
 table:x.zD=13→x.fA<tables
structure FormedOk (p:xG):Prop where
 inputs:inB p.zJ 0 4=true
 tables:TablesOk p.zN
 few:p.zB.length≤24
 outs:p.zK.length≤4
 outputs:Idx p.zK (p.zB.length:Int)
 nodes:Each p.zB fun _ x=>NodeOk x (p.zN.length:Int)∧Idx x.zH (p.zB.length:Int)∧(x.zD=1→x.fA<p.zJ)
/-- The nodes that a node waits for. -/
def vY (x:xJ):List Int:=if x.zD=6 then [] else x.zH
def readyB (nodes:List xJ) (out:List Int) (i:Nat):Bool:= !out.contains (i:Int) && ((nodes[i]?).map fun x=>(vY x).all fun f=>out.contains f).getD false
def nextF (nodes:List xJ) (out:List Int):Option Nat:=(List.range nodes.length).find? (readyB nodes out)
/-- The order in which nodes are computed: the first steps. -/
def xB (nodes:List xJ):Nat→List Int
 |0=> []
 |k+1=>match nextF nodes (xB nodes k) with
  |some i=>xB nodes k++ [(i:Int)]
  |none=>xB nodes k
def xR (nodes:List xJ):List Int:=xB nodes nodes.length
theorem ordNodes_stop {nodes:List xJ} {k:Nat} (h:nextF nodes (xB nodes k)=none): ∀ m,xB nodes (k+m)=xB nodes k:=by
 intro m
 induction m with
 |zero=>rfl
 |succ m ih=>
  rw[←Nat.add_assoc]
  simp only[xB]
  rw[ih,h]
theorem ordNodes_len {nodes:List xJ} : ∀ k,(xB nodes k).length≤k
 |0=>Nat.le_refl _
 |k+1=>by
  have ih:=ordNodes_len (nodes:=nodes) k
  simp only[xB]
  split
  ·simp;omega
  ·omega
theorem nextF_some {nodes:List xJ} {out:List Int} {i:Nat} (hi:i<nodes.length) (hr:readyB nodes out i=true) (hb: ∀ j,j<i→readyB nodes out j=false):nextF nodes out=some i:=by
 unfold nextF
 rw[List.find?_eq_some_iff_getElem]
 refine⟨hr,i,by simpa using hi,by simp,fun j hj=>by simp[hb j hj]⟩
theorem nextF_none {nodes:List xJ} {out:List Int} (hb: ∀ j,j<nodes.length→readyB nodes out j=false):nextF nodes out=none:=by
 unfold nextF
 rw[List.find?_eq_none]
 intro j hj
 simp[hb j (by simpa using hj)]
theorem nextF_inv {nodes:List xJ} {out:List Int} {i:Nat} (h:nextF nodes out=some i):i<nodes.length∧readyB nodes out i=true:=by
 unfold nextF at h
 exact⟨by simpa using List.mem_of_find?_eq_some h,List.find?_some h⟩
theorem ordNodes_in {nodes:List xJ} : ∀ k,(xB nodes k).Nodup∧ ∀ x ∈ xB nodes k,0≤x∧x<(nodes.length:Int)
 |0=>by simp[xB]
 |k+1=>by
  obtain⟨h1,h2⟩:=ordNodes_in (nodes:=nodes) k
  simp only[xB]
  split
  ·next i h=>
   obtain⟨hi,hr⟩:=nextF_inv h
   have hn:(i:Int) ∉ xB nodes k:=by
    simp only[readyB,Bool.and_eq_true,Bool.not_eq_true'] at hr
    simpa using hr.1
   refine⟨?_,?_⟩
   ·rw[List.nodup_append]
    refine⟨h1,by simp,fun a ha b hb e=>?_⟩
    simp at hb
    subst hb e
    exact hn ha
   ·intro x hx
    rcases List.mem_append.1 hx with hx|hx
    ·exact h2 x hx
    ·simp at hx;subst hx;omega
  ·exact⟨h1,h2⟩
theorem nodup_range: ∀ (n:Nat) (l:List Nat),l.Nodup→(∀ x ∈ l,x<n)→l.length≤n
 |0,[],_,_=>Nat.le_refl _
 |0,x :: _,_,h=>absurd (h x (by simp)) (by omega)
 |n+1,l,h1,h2=>by
  by_cases hm:n ∈ l
  ·have h3:=nodup_range n (l.erase n) (h1.erase n) (fun x hx=>by
    have:=(h1.mem_erase_iff).1 hx
    have h4:=h2 x this.2
    have h5:=this.1
    omega)
   rw[List.length_erase_of_mem hm] at h3
   omega
  ·have h3:=nodup_range n l h1 (fun x hx=>by
    have h4:=h2 x hx
    have:x≠n:=fun e=>hm (e ▸ hx)
    omega)
   omega
theorem nodup_bound {n:Nat} {l:List Int} (h1:l.Nodup) (h2: ∀ x ∈ l,0≤x∧x<(n:Int)):l.length≤n:=by
 have h3:(l.map Int.toNat).Nodup:=by
  rw[List.Nodup,List.pairwise_map]
  refine List.Pairwise.imp_of_mem ?_ h1
  intro a b ha hb hab e
  have:=h2 a ha
  have:=h2 b hb
  omega
 have:=nodup_range n _ h3 (fun x hx=>by
  obtain⟨y,hy,rfl⟩:=List.mem_map.1 hx
  have:=h2 y hy
  omega)
 simpa using this
theorem ordNodes_cap {nodes:List xJ} (k:Nat):(xB nodes k).length≤nodes.length:=nodup_bound (ordNodes_in k).1 (ordNodes_in k).2
/-- Where the order stops, it has stopped for good. -/
theorem orderF_of_stop {nodes:List xJ} {k:Nat} (h:nextF nodes (xB nodes k)=none) (hk:(xB nodes k).length=k):xR nodes=xB nodes k:=by
 have hc:=ordNodes_cap (nodes:=nodes) k
 unfold xR
 rw[show nodes.length=k+(nodes.length - k) by omega]
 exact ordNodes_stop h _
theorem ordNodes_snoc {nodes:List xJ} {k i:Nat} (h:nextF nodes (xB nodes k)=some i):xB nodes (k+1)=xB nodes k++ [(i:Int)]:=by
 simp only[xB,h]
structure wZ (p:xG):Prop where
 formed:FormedOk p
 order:(xR p.zB).length=p.zB.length
def uP:xG:=⟨0,[],[],[]⟩
def EffectOk (p:xG):Prop:=p=uP∨(wZ p∧p.zJ=1∧p.zK.length=1)
structure vL (s:xK):Prop where
 length:inB s.zF 0 1000=true
 sources:zAz s.zL
 few:s.zO.length≤6
 mixer:vU s.zG
 feed:s.zQ.length=s.zO.length
 feeds:Idx s.zQ (s.zG.zC.length:Int)
 effect:s.zP.length=s.zG.zC.length
 tracks:Each s.zO fun _ t=>TrackOk t∧Each t.zR fun _ c=>c.zU<(s.zL.length:Int)
 effects:Each s.zP fun _ p=>EffectOk p
end
section
open Go.RowKit
theorem T.yN {w:World} {E:TypeId} {sz:Nat} {α:Type} {tr:α→T} {xs:List α} {v:Value} (h:T.rd w (.sl E sz (xs.map tr)) [v]):
  ∃ A cap,v= .slice A xs.length cap∧xs.length≤cap∧cap≤9223372036854775807∧
   (∀ k x,xs[k]?=some x→ ∃ b off cs,A=some ⟨b,off,none⟩∧b<w.heap.size∧T.rd w (tr x) cs∧ ∀ j u,cs[j]?=some u→w.cell? ⟨b,off+(k * sz+j),none⟩=some u):=by
 obtain⟨A,cap,hv,h1,h2,h3⟩:=T.yO h
 rw[List.length_map] at hv h1
 exact⟨A,cap,hv,h1,h2,fun k x hk=>h3 k (tr x) (by rw[List.getElem?_map,hk];rfl)⟩
theorem T.rds_below' {w w':World} {x:List T} {cs:List Value} (h:T.rds w x cs) (hb:Below w.heap.size w w'):T.rds w' x cs:=T.rds_keep hb.size hb.block x cs h
/-- The struct's cells lie from place o of block b on. -/
def T.at (w:World) (fs:List T) (b o:Nat):Prop:=b<w.heap.size∧ ∃ cs,T.rds w fs cs∧ ∀ j u,cs[j]?=some u→w.cell? ⟨b,o+j,none⟩=some u
theorem T.at_below {w w':World} {fs:List T} {b o:Nat} (h:T.at w fs b o) (hb:Below w.heap.size w w'):T.at w' fs b o:=by
 obtain⟨h1,cs,h2,h3⟩:=h
 exact⟨lL h1 hb.size,cs,T.rds_below' h2 hb,fun j u hj=>(hb.cell h1).trans (h3 j u hj)⟩
/-- An element of a slice, as a struct behind a pointer. -/
theorem T.at_elem {w:World} {fs:List T} {b off k sz o:Nat} {cs:List Value} (hb:b<w.heap.size) (h:T.rds w fs cs) (hc: ∀ j u,cs[j]?=some u→w.cell? ⟨b,off+(k * sz+j),none⟩=some u) (ho:o=off+k * sz):T.at w fs b o:=
 ⟨hb,cs,h,fun j u hj=>by rw[ho,Nat.add_assoc];exact hc j u hj⟩
/-- A block known whole, as a struct behind a pointer. -/
theorem T.at_bk {w:World} {fs:List T} {b:Nat} {t:TypeId} {cs:List Value} (hk:Bk w b t cs.toArray) (h:T.rds w fs cs):T.at w fs b 0:=
 ⟨hk.lt,cs,h,fun j u hj=>by rw[Nat.zero_add,hk.cell j];simpa using hj⟩
theorem yR {a b:Int} (h:a≠b):(a == b)=false:=beq_false_of_ne h
theorem yS {a b:Int} (h:a=b):(a == b)=true:=by simp[h]
theorem bneI_t {a b:Int} (h:a≠b):(a != b)=true:=by simp[h]
theorem bneI_f {a b:Int} (h:a=b):(a != b)=false:=by simp[h]
/-- Any world in which what lies in W still lies as it did. -/
noncomputable def bel (W u:World):World:= @ite _ (Below W.heap.size W u) (Classical.propDecidable _) u W
theorem yH (W u:World):Below W.heap.size W (bel W u):=by
 unfold bel
 split
 ·assumption
 ·exact Below.refl _ _
theorem bel_of {W u:World} (h:Below W.heap.size W u):u=bel W u:=by
 unfold bel
 rw[if_pos h]
theorem yG {W:World} {b o:Nat} {v:Value} (h:W.cell? ⟨b,o,none⟩=some v): ∀ u,(bel W u).cell? ⟨b,o,none⟩=some v:=fun u=>
 ((yH W u).cell (World.block_lt_of_cell? W _ h)).trans h
theorem xE {W:World} {g:Nat} {t:TypeId} {cs:Array Value} (h:Bk W g t cs): ∀ u i,(bel W u).cell? ⟨g,i,none⟩=cs[i]?:=fun u i=>
 (h.below (yH W u) h.lt).cell i
/-- A region that draws its order, whose operations and calls leave what was there as it was: one walk in the order of the text. -/
theorem xD {P:Program} {id:Nat} {Q:Exit→Act→World→Prop} {a:Act} {w:World} {l:List Oper} (hm:P.follows .mixedOrders=true) (hB:Region.lexB .any l.toArray=true)
  (h:wpQuiet P l.toArray (fun w'=> ∃ u,w'=bel w u) (fun a'=> ∀ w',(∃ u,w'=bel w u)→Q .normal a' w') l a):(Code.region id l.toArray true).wp P Q a w:=
 wp_region_quiet (C:=fun w'=> ∃ u,w'=bel w u) hm hB ⟨_,bel_of ⟨rfl,rfl,rfl,Nat.le_refl _,fun _ _=>rfl⟩⟩ (by simpa using h)
theorem Calls.yL {P:Program} {f:FuncId} {args:Array Value} {w u:World} {v:Value}
  (h:Calls P f args (bel w u) fun e w'=>e= .returned v∧Below (bel w u).heap.size (bel w u) w'):Calls P f args (bel w u) fun e w''=>e= .returned v∧ ∃ m,w''=bel w m:=
 h.mono fun _ w' ⟨he,hb⟩=>⟨he,w',bel_of (yJ (yH w u) (yH w u).size hb)⟩
theorem Calls.yK {P:Program} {f:FuncId} {args:Array Value} {w u:World} {v:Value}
  (h:Calls P f args (bel w u) fun e w'=>e= .returned v∧bel w u=w'):Calls P f args (bel w u) fun e w''=>e= .returned v∧ ∃ m,w''=bel w m:=
 h.mono fun _ w' ⟨he,hb⟩=>⟨he,u,hb.symm⟩
end
section
open Go.RowKit
theorem xX (n a b:Int) (w:World):Calls Tryz.prog 87 #[.int .i64 n,.int .i64 a,.int .i64 b] w fun e w'=>e= .returned (.bool (inB n a b))∧w=w':=by
 by_cases h:a≤n
 all_goals
  go_enter Tryz.func87,Tryz.ntmps87
  go_wp2
  go_ret
  exact⟨by first|(simp[inB,h];done)|(simp[inB];omega),rfl⟩
theorem xS (n a b:Int) (w:World):Calls Tryz.prog 89 #[.int .i64 n,.int .i64 a,.int .i64 b] w fun e w'=>e= .returned (.bool (inB n a b))∧w=w':=by
 by_cases h:a≤n
 all_goals
  go_enter Tryz.func89,Tryz.ntmps89
  go_wp2
  go_ret
  exact⟨by first|(simp[inB,h];done)|(simp[inB];omega),rfl⟩
theorem wG (n:Int) (w:World):Calls Tryz.prog 158 #[.int .i64 n] w fun e w'=>e= .returned (.bool (decide (Smp n)))∧w=w':=by
 go_enter Tryz.func158,Tryz.ntmps158
 go_wp2_with (go_at_call 87;refine(xX _ _ _ _).mono ?_;rintro e w' ⟨rfl,rfl⟩)
 go_ret
 exact⟨rfl,rfl⟩
theorem c_isSample (n:Int) (w:World):Calls Tryz.prog 169 #[.int .i64 n] w fun e w'=>e= .returned (.bool (decide (Smp n)))∧w=w':=by
 go_enter Tryz.func169,Tryz.ntmps169
 go_wp2_with (go_at_call 89;refine(xS _ _ _ _).mono ?_;rintro e w' ⟨rfl,rfl⟩)
 go_ret
 exact⟨rfl,rfl⟩
theorem c_l03Ok (v:Value) (xs:List Int) (w:World) (hr:RdI w v xs):Calls Tryz.prog 123 #[v] w fun e w'=>e= .returned (.bool (sigB xs))∧w=w':=by
 obtain⟨A,cap,rfl,hl,hc,hx⟩:=hr.open_
 have HX:=hide hx;clear hx hr
 by_cases h4:xs.length≤4000
 ·go_enter Tryz.func123,Tryz.ntmps123
  go_wp2
  go_loop [3] (fun i=> ∃ k:Nat,k≤xs.length∧i= .int .i64 k∧smpB (xs.take k)=true) (fun i=>xs.length - (intOf i).toNat)
  case atStart=>exact⟨0,Nat.zero_le _,rfl,by simp[smpB]⟩
  case round=>
   obtain⟨k,hk,rfl,hs⟩:=hrel
   have HS:=hide hs;clear hs
   by_cases hlt:k<xs.length
   ·obtain⟨b,off,rfl,hb,hcell⟩:=HX.out k xs[k] (gE hlt)
    by_cases hsm:Smp xs[k]
    ·have hd:decide (Smp xs[k])=true:=by simpa using hsm
     go_wp2_with (go_at_call 158;refine(wG _ _).mono ?_;rintro e w' ⟨rfl,rfl⟩)
     go_round
     case rel=>exact⟨k+1,by omega,by go_num,smpB_take_succ (gE hlt) HS.out hsm⟩
     case measure=>simp[intOf];omega
    ·have hd:decide (Smp xs[k])=false:=by simpa using hsm
     go_wp2_with (go_at_call 158;refine(wG _ _).mono ?_;rintro e w' ⟨rfl,rfl⟩)
     go_ret
     exact⟨by simp[sigB,smpB_no (gE hlt) hsm],rfl⟩
   ·go_wp2
    go_ret
    have:k=xs.length:=by omega
    subst this
    have:=HS.out
    rw[List.take_length] at this
    exact⟨by simp[sigB,h4,this],rfl⟩
 ·go_enter Tryz.func123,Tryz.ntmps123
  go_wp2
  go_ret
  exact⟨by simp[sigB];omega,rfl⟩
end
section
open Go.RowKit
theorem info_i64:(Tryz.prog.info? 2).map (fun i=>(i.zero,i.size,i.bytes))=some (some (.int .i64 0),1,8):=by kernel_rfl
theorem uQ {w:World} {ops:Array Oper} {rest:List Oper} {o:Oper} {a:Act} {Q:Exit→Act→World→Prop} {n:Int} (hgd:o.guard=none) (s x:Operand)
  (ho:o.op= .call { callee:= .builtin .append,args:= #[s,x],argTypes:= #[26,26] }) {B:Nat} {v:Value} {xs:List Int} (hs:a.eval s=v) (hown:OwI 2 w B v xs)
  (hx:a.eval x= .slice (some ⟨w.heap.size,0,none⟩) 1 1) (hl:xs.length+1≤17592186044416) (hB:B≤w.heap.size)
  (h: ∀ v' w',OwI 2 w' B v' (xs++ [n])→w.grownBy w' v.ownBlock→(∀ k,v'.ownBlock=some k→v.ownBlock=some k∨w.heap.size≤k)→wpList Tryz.prog ops Q rest (a.put o.dst v') w'):
  wpList Tryz.prog ops Q (o :: rest) a (w.alloc (.cells #[.int .i64 n] 2)):=
 app_one hgd s x _ ho B _ _ 1 8 Tryz.underlying26 info_i64 rfl (by omega) v xs.length _ hs hown hx rfl (by simp[Value.oneCell']) (by omega) (by omega) hB
  fun v' w' h1 h2 h3=>h v' w' (by unfold OwI;simpa using h1) h2 h3
theorem appm_i64 {w:World} {ops:Array Oper} {rest:List Oper} {o:Oper} {a:Act} {Q:Exit→Act→World→Prop} (hgd:o.guard=none) (s x:Operand)
  (ho:o.op= .call { callee:= .builtin .append,args:= #[s,x],argTypes:= #[26,26] }) {B:Nat} {v:Value} {xs:List Int} (hs:a.eval s=v) (hown:OwI 2 w B v xs)
  {y:Value} {ys:List Int} (hx:a.eval x=y) (hr:RdI w y ys) (hl:xs.length+ys.length≤17592186044416) (hB:B≤w.heap.size)
  (h: ∀ v' w',OwI 2 w' B v' (xs++ys)→w.grownBy w' v.ownBlock→(∀ k,v'.ownBlock=some k→v.ownBlock=some k∨w.heap.size≤k)→wpList Tryz.prog ops Q rest (a.put o.dst v') w'):
  wpList Tryz.prog ops Q (o :: rest) a w:=
 app_many hgd s x _ ho B _ _ 1 8 Tryz.underlying26 info_i64 rfl (by omega) v xs.length _ hs hown y ys.length _ hx hr (ints_oneCell _ _) (by omega) (by omega) hB
  fun v' w' h1 h2 h3=>h v' w' (by unfold OwI;simpa using h1) h2 h3
theorem vC (w:World):OwI 2 (w.alloc (.cells #[] 2)) w.heap.size (.slice (some ⟨w.heap.size,0,none⟩) 0 0) []:=World.ownsRow_made w #[] 0 (Nat.le_refl _) (by decide) rfl
theorem vZ (v:Value) (xs:List Int) (w:World) (hr:RdI w v xs):Calls Tryz.prog 131 #[v] w fun e w'=>e= .returned (.bool (smpB xs))∧w=w':=by
 obtain⟨A,cap,rfl,hl,hc,hx⟩:=hr.open_
 have HX:=hide hx;clear hx hr
 go_enter Tryz.func131,Tryz.ntmps131
 go_wp2
 go_loop [7] (fun i=> ∃ k:Nat,k≤xs.length∧i= .int .i64 k∧smpB (xs.take k)=true) (fun i=>xs.length - (intOf i).toNat)
 case atStart=>exact⟨0,Nat.zero_le _,rfl,by simp[smpB]⟩
 case round=>
  obtain⟨k,hk,rfl,hs⟩:=hrel
  have HS:=hide hs;clear hs
  by_cases hlt:k<xs.length
  ·obtain⟨b,off,rfl,hb,hcell⟩:=HX.out k xs[k] (gE hlt)
   by_cases hsm:Smp xs[k]
   ·have hd:decide (Smp xs[k])=true:=by simpa using hsm
    go_wp2_with (go_at_call 169;refine(c_isSample _ _).mono ?_;rintro e w' ⟨rfl,rfl⟩)
    go_round
    case rel=>exact⟨k+1,by omega,by go_num,smpB_take_succ (gE hlt) HS.out hsm⟩
    case measure=>simp[intOf];omega
   ·have hd:decide (Smp xs[k])=false:=by simpa using hsm
    go_wp2_with (go_at_call 169;refine(c_isSample _ _).mono ?_;rintro e w' ⟨rfl,rfl⟩)
    go_ret
    exact⟨by simp[smpB_no (gE hlt) hsm],rfl⟩
  ·go_wp2
   go_ret
   have:k=xs.length:=by omega
   subst this
   have:=HS.out
   rw[List.take_length] at this
   exact⟨by simp[this],rfl⟩
theorem c_isSignal (v:Value) (xs:List Int) (w:World) (hr:RdI w v xs):Calls Tryz.prog 219 #[v] w fun e w'=>e= .returned (.bool (sigB xs))∧w=w':=by
 obtain⟨A,cap,rfl,hl,hc,hx⟩:=hr.open_
 have HX:=hide hx;clear hx
 have HR:=hide hr;clear hr
 by_cases h4:xs.length≤4000
 all_goals
  go_enter Tryz.func219,Tryz.ntmps219
  go_wp2_with (go_at_call 131;refine(vZ _ _ _ HR.out).mono ?_;rintro e w' ⟨rfl,rfl⟩)
  go_ret
  first|exact⟨by simp[sigB,h4],rfl⟩|exact⟨by simp[sigB];omega,rfl⟩
theorem c_toInt64S (v:Value) (xs:List Int) (w:World) (hr:RdI w v xs) (hn:xs.length≤1048576):Calls Tryz.prog 59 #[v] w fun e w'=> ∃ v',e= .returned v'∧OwI 2 w' w.heap.size v' xs∧Below w.heap.size w w':=by
 obtain⟨A,cap,rfl,hl,hc,hx⟩:=hr.open_
 have HX:=hide hx;clear hx
 have HR:=hide hr;clear hr
 obtain⟨i0,hi,hz0,hz1,hz2⟩:=info_parts info_i64
 go_enter Tryz.func59,Tryz.ntmps59
 go_wp2_with (at_make;refine wpList_make_full _ rfl _ _ _ rfl w.heap.size 2 i0 _ 1 Tryz.underlying26 hi hz0 hz1 .i64 .i64 _ _ xs.length rfl rfl rfl rfl (by rw[hz2];omega) (by unfold maxLen;omega) (Nat.le_refl _) ?_;intro w1 hown1 hg1)
 have ho1:OwI 2 w1 w.heap.size _ _:=OwI.made _ w1 (n:=xs.length) hg1.size (by unfold maxLen;omega) 0 hown1
 have hb1:Below w.heap.size w w1:=(Below.refl _ _).grown hg1 (Nat.le_refl _) (by simp)
 clear hown1 hg1
 have HO:=hide ho1;have HB:=hide hb1;clear ho1 hb1
 go_loopw [4] (fun i wr=> ∃ k:Nat,k≤xs.length∧i= .int .i64 k∧OwI 2 wr w.heap.size (.slice (some ⟨w.heap.size,0,none⟩) xs.length xs.length) (xs.take k++(List.replicate xs.length 0).drop k)∧Below w.heap.size w wr) (fun i _=>xs.length - (intOf i).toNat)
 case atStart=>exact⟨0,Nat.zero_le _,rfl,by simpa using HO.out,HB.out⟩
 case round=>
  obtain⟨k,hk,rfl,ho,hb⟩:=hrel
  have HO:=hide ho;have HB:=hide hb;clear ho hb
  by_cases hlt:k<xs.length
  ·obtain⟨b,off,rfl,hbw,hcell⟩:=HX.out k xs[k] (gE hlt)
   have h1:wr.cell? ⟨b,off+k,none⟩=some (.int .i64 xs[k]):=(HB.out.cell hbw).trans hcell
   have h2:wr.cell? ⟨w.heap.size,k,none⟩=some (.int .i64 0):=HO.out.cellN (by rw[getElem?_mix (by simp) (by simpa using hlt)];simp[hlt])
   have h3:=HO.out.freeN k
   go_wp2
   go_roundw
   case rel=>exact⟨k+1,by omega,by go_num,by have:=HO.out.setN k xs[k];rw[set_mix (by simp) (gE hlt)] at this;exact this,HB.out.setCell (Nat.le_refl _) _⟩
   case measure=>simp[intOf];omega
  ·go_wp2
   go_ret
   have:k=xs.length:=by omega
   subst this
   exact⟨_,rfl,by have:=HO.out;simpa using this,HB.out⟩
end
section
open Go.RowKit
theorem c_eqInt64S (v1 v2:Value) (xs ys:List Int) (w:World) (hr1:RdI w v1 xs) (hr2:RdI w v2 ys):Calls Tryz.prog 63 #[v1,v2] w fun e w'=>e= .returned (.bool (decide (xs=ys)))∧Dr w w':=by
 obtain⟨A1,cap1,rfl,hl1,hc1,hx1⟩:=hr1.open_
 obtain⟨A2,cap2,rfl,hl2,hc2,hx2⟩:=hr2.open_
 have HX1:=hide hx1;have HX2:=hide hx2;clear hx1 hx2 hr1 hr2
 by_cases hll:xs.length=ys.length
 ·have hb:((xs.length:Int) != (ys.length:Int))=false:=by simp[hll]
  have HL:=hide hll;clear hll
  go_enter Tryz.func63,Tryz.ntmps63
  go_wp2
  go_loopw [5] (fun i wr=> ∃ k:Nat,k≤xs.length∧i= .int .i64 k∧xs.take k=ys.take k∧Dr w wr) (fun i _=>xs.length - (intOf i).toNat)
  case atStart=>exact⟨0,Nat.zero_le _,rfl,rfl,Dr.refl _⟩
  case round=>
   obtain⟨k,hk,rfl,hs,nr,rfl⟩:=hrel
   have HS:=hide hs;clear hs
   by_cases hlt:k<xs.length
   ·have hlt2:k<ys.length:=by have:=HL.out;omega
    obtain⟨b1,off1,rfl,hb1,hcell1⟩:=HX1.out k xs[k] (gE hlt)
    obtain⟨b2,off2,rfl,hb2,hcell2⟩:=HX2.out k ys[k] (gE hlt2)
    by_cases he:xs[k]=ys[k]
    ·have hd:(xs[k] != ys[k])=false:=by simp[he]
     have HE:=hide he;clear he
     go_wp2
     go_quiet (fail)
     go_wp2
     go_roundw
     case rel=>exact⟨k+1,by omega,by go_num,takes_succ HS.out (gE hlt) (by rw[HE.out];exact gE hlt2),(by repeat(first|exact Dr.refl _|exact⟨_,rfl⟩|refine Dr.drewN ?_ _|refine Dr.drew ?_))⟩
     case measure=>simp[intOf];omega
    ·have hd:(xs[k] != ys[k])=true:=by simp[he]
     have HE:=hide he;clear he
     go_wp2
     go_quiet (fail)
     go_wp2
     go_ret
     exact⟨by simp[ne_at (gE hlt) (gE hlt2) HE.out],(by repeat(first|exact Dr.refl _|exact⟨_,rfl⟩|refine Dr.drewN ?_ _|refine Dr.drew ?_))⟩
   ·go_wp2
    go_ret
    exact⟨by simp[eq_of_takes (k:=k) (by omega) HL.out HS.out],(by repeat(first|exact Dr.refl _|exact⟨_,rfl⟩|refine Dr.drewN ?_ _|refine Dr.drew ?_))⟩
 ·have hb:((xs.length:Int) != (ys.length:Int))=true:=by simp;omega
  have hne:xs≠ys:=fun e=>hll (by rw[e])
  have HN:=hide hne;clear hll hne
  go_enter Tryz.func63,Tryz.ntmps63
  go_wp2
  go_ret
  exact⟨by simp[HN.out],Dr.refl _⟩
theorem c_markInt64S (E:TypeId) (B:Nat) (v:Value) (xs:List Int) (m:Nat) (w:World) (ho:OwI E w B v xs) (hm:m+xs.length≤4611686018427387904):
  Calls Tryz.prog 79 #[v,.int .i64 m] w fun e w'=>e= .returned (.int .i64 ((m+xs.length:Nat):Int))∧OwI E w' B v (marks m xs.length)∧w.grownBy w' v.ownBlock:=by
 rcases Nat.eq_zero_or_pos xs.length with hz|hz
 ·have hx:xs= []:=List.eq_nil_of_length_eq_zero hz
  subst hx
  obtain⟨A,cap,rfl,hl,hc,_⟩:=ho.rd.open_
  have HO:=hide ho;clear ho hz
  simp only[List.length_nil] at *
  go_enter Tryz.func79,Tryz.ntmps79
  go_wp2
  refine wp_loop_rounds 1 ?_
  rw[rounds_succ]
  go_wp2
  go_ret
  exact⟨by simp,by simpa[marks] using HO.out,World.grownBy.refl _ _⟩
 ·obtain⟨g,cap,rfl,hl,hg,hgw⟩:=ho.form hz
  have HO:=hide ho;clear ho
  go_enter Tryz.func79,Tryz.ntmps79
  go_wp2
  go_loopw [1,5] (fun t i wr=> ∃ k:Nat,k≤xs.length∧i= .int .i64 k∧t= .int .i64 ((m+k:Nat):Int)∧OwI E wr B (.slice (some ⟨g,0,none⟩) xs.length cap) ((marks m xs.length).take k++xs.drop k)∧w.grownBy wr (some g)) (fun _ i _=>xs.length - (intOf i).toNat)
  case atStart=>exact⟨0,Nat.zero_le _,rfl,rfl,by simpa using HO.out,World.grownBy.refl _ _⟩
  case round=>
   obtain⟨k,hk,rfl,rfl,ho,hb⟩:=hrel
   have HO:=hide ho;have HB:=hide hb;clear ho hb
   by_cases hlt:k<xs.length
   ·have h2:wr.cell? ⟨g,k,none⟩=some (.int .i64 xs[k]):=HO.out.cellN (by rw[getElem?_mix (uW _ _) hlt];exact gE hlt)
    have h3:=HO.out.freeN k
    go_wp2
    go_roundw
    case rel=>exact⟨k+1,by omega,by go_num,by go_num,by have:=HO.out.setN k ((m+k:Nat):Int);rw[set_mix (uW _ _) (marks_at hlt)] at this;exact this,HB.out.trans (HO.out.grownN k _)⟩
    case measure=>simp[intOf];omega
   ·go_wp2
    go_ret
    have:k=xs.length:=by omega
    subst this
    exact⟨rfl,by have:=HO.out;rw[List.take_of_length_le (by simp[uW]),List.drop_length,List.append_nil] at this;unfold OwI at *;rw[uW] at *;exact this,HB.out⟩
/-- The number that 'held' returns. -/
def heldF (xs:List Int) (m:Nat):Int:=if xs=marks m xs.length then ((m+xs.length:Nat):Int) else -1
theorem c_heldInt64S (v:Value) (xs:List Int) (m:Nat) (w:World) (hr:RdI w v xs) (hm:m+xs.length≤4611686018427387904):
  Calls Tryz.prog 83 #[v,.int .i64 m] w fun e w'=>e= .returned (.int .i64 (heldF xs m))∧w=w':=by
 obtain⟨A,cap,rfl,hl,hc,hx⟩:=hr.open_
 have HX:=hide hx;clear hx hr
 go_enter Tryz.func83,Tryz.ntmps83
 go_wp2
 go_loop [1,5] (fun t i=> ∃ k:Nat,k≤xs.length∧i= .int .i64 k∧t= .int .i64 ((m+k:Nat):Int)∧xs.take k=(marks m xs.length).take k) (fun _ i=>xs.length - (intOf i).toNat)
 case atStart=>exact⟨0,Nat.zero_le _,rfl,rfl,rfl⟩
 case round=>
  obtain⟨k,hk,rfl,rfl,hs⟩:=hrel
  have HS:=hide hs;clear hs
  by_cases hlt:k<xs.length
  ·obtain⟨b,off,rfl,hb,hcell⟩:=HX.out k xs[k] (gE hlt)
   by_cases he:xs[k]=((m+k:Nat):Int)
   ·have hd:(xs[k] != ((m:Int)+(k:Int)))=false:=by rw[he];simp
    have HE:=hide he;clear he
    go_wp2
    go_round
    case rel=>exact⟨k+1,by omega,by go_num,by go_num,takes_succ HS.out (gE hlt) (by rw[HE.out];exact marks_at hlt)⟩
    case measure=>simp[intOf];omega
   ·have hd:(xs[k] != ((m:Int)+(k:Int)))=true:=by simp;omega
    have HE:=hide he;clear he
    go_wp2
    go_ret
    exact⟨by unfold heldF;rw[if_neg (ne_at (gE hlt) (marks_at hlt) HE.out)];rfl,rfl⟩
  ·go_wp2
   go_ret
   have hk2:k=xs.length:=by omega
   have:=eq_of_takes hk2 (uW _ _).symm HS.out
   exact⟨by unfold heldF;rw[if_pos this];simp;omega,rfl⟩
theorem c_eqI (v1 v2:Value) (xs:List Int) (w:World) (hr1:RdI w v1 xs) (hr2:RdI w v2 xs):Calls Tryz.prog 63 #[v1,v2] w fun e w'=>e= .returned (.bool true)∧Dr w w':=
 (c_eqInt64S v1 v2 xs xs w hr1 hr2).mono fun e w' ⟨h1,h2⟩=>⟨by rw[h1];simp,h2⟩
theorem c_heldI (v:Value) (n m:Nat) (w:World) (hr:RdI w v (marks m n)) (hm:m+n≤4611686018427387904):
  Calls Tryz.prog 83 #[v,.int .i64 m] w fun e w'=>e= .returned (.int .i64 ((m+n:Nat):Int))∧w=w':=
 (c_heldInt64S v (marks m n) m w hr (by rw[uW];exact hm)).mono fun e w' ⟨h1,h2⟩=>⟨by rw[h1,heldF,uW,if_pos rfl],h2⟩
end
section
open Go.RowKit
theorem c_Wrap (n:Int) (w:World):Calls Tryz.prog 242 #[.int .i64 n] w fun e w'=>e= .returned (.int .i64 (wrp n))∧w=w':=by
 have hs:=uM n
 unfold Smp at hs
 go_enter Tryz.func242,Tryz.ntmps242
 go_wp2
 go_ret
 exact⟨xZ (by rw[wrp_eq];exact IntWalk.wrap64_in _ (by omega)),rfl⟩
theorem c_l01Wrap (n:Int) (w:World):Calls Tryz.prog 156 #[.int .i64 n] w fun e w'=>e= .returned (.int .i64 (wrp n))∧w=w':=by
 have ha:=and_32 n
 by_cases h:2147483647<n % 4294967296
 ·have HE:=hide (wrp_big n h)
  go_enter Tryz.func156,Tryz.ntmps156
  go_wp2
  go_ret
  exact⟨xZ HE.out,rfl⟩
 ·have HE:=hide (wrp_small n (by omega))
  go_enter Tryz.func156,Tryz.ntmps156
  go_wp2
  go_ret
  exact⟨xZ HE.out,rfl⟩
theorem c_l01Sub (a b:Int) (w:World):Calls Tryz.prog 289 #[.int .i64 a,.int .i64 b] w fun e w'=>e= .returned (.int .i64 (wrp (a - b)))∧w=w':=by
 have h1:=uM a
 have h2:=uM b
 unfold Smp at h1 h2
 go_enter Tryz.func289,Tryz.ntmps289
 go_wp2_with (go_at_call 156;refine(c_l01Wrap _ _).mono ?_;rintro e w' ⟨rfl,rfl⟩)
 go_ret
 exact⟨xZ (wrp_sub a b),rfl⟩
theorem c_l00Own (v:Value) (xs:List Int) (w:World) (hr:RdI w v xs) (hn:xs.length≤1048576):Calls Tryz.prog 95 #[v] w fun e w'=> ∃ v',e= .returned v'∧OwI 2 w' w.heap.size v' xs∧Below w.heap.size w w':=by
 have HR:=hide hr;clear hr
 go_enter Tryz.func95,Tryz.ntmps95
 go_wp2_with (at_builtin;refine appm_i64 rfl _ _ rfl rfl (vC w) rfl (Rd.alloc HR.out _) (by simp;omega) (by simp) ?_;intro v1 w1 ho hg hv)
 go_ret
 exact⟨_,rfl,by simpa using ho,wW ((Below.refl _ _).alloc (Nat.le_refl _) _) (vC w) hg (Nat.le_refl _) (by simp)⟩
theorem c_clone (v:Value) (xs:List Int) (w:World) (hr:RdI w v xs) (hn:xs.length≤1048576):Calls Tryz.prog 112 #[v] w fun e w'=> ∃ v',e= .returned v'∧OwI 2 w' w.heap.size v' xs∧Below w.heap.size w w':=by
 have HR:=hide hr;clear hr
 go_enter Tryz.func112,Tryz.ntmps112
 go_wp2_with (at_builtin;refine appm_i64 rfl _ _ rfl rfl (vC w) rfl (Rd.alloc HR.out _) (by simp;omega) (by simp) ?_;intro v1 w1 ho hg hv)
 go_ret
 exact⟨_,rfl,by simpa using ho,wW ((Below.refl _ _).alloc (Nat.le_refl _) _) (vC w) hg (Nat.le_refl _) (by simp)⟩
end
section
open Go.RowKit
theorem vP (v:Value) (xs:List Int) (w:World) (hr:RdI w v xs):Calls Tryz.prog 86 #[v] w fun e w'=>e= .returned (.int .i64 (xs.length:Int))∧w=w':=by
 obtain⟨A,cap,rfl,hl,hc,hx⟩:=hr.open_
 clear hx hr
 go_enter Tryz.func86,Tryz.ntmps86
 go_wp2
 go_ret
 exact⟨rfl,rfl⟩
end
end Go.Proofs.YtoibekfhepnedaaGreat
