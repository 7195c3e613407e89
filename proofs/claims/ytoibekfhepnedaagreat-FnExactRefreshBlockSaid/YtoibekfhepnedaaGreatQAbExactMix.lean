/- Nested data: sessions, desks and their parts; how they lie in memory. What valid sessions and caches are, in plain words. Words: a slice of elements opened; a struct behind a pointer. Contracts of the smallest functions. Contracts: lists of samples, copies, differences. Contracts: equal lists, marks, copies, differences. Contracts: wrapped numbers, copies, differences. Contracts: differences of an order; PredictSignal of both sides. -/
import Derived.Test.YtoibekfhepnedaaGreatQAaExactMix
import Derived.Test.YtoibekfhepnedaaGreatRows
import Derived.Deep.RegionWith
set_option linter.unusedVariables false
set_option linter.unusedSimpArgs false
set_option maxHeartbeats 400000
namespace Go.Proofs.YtoibekfhepnedaaGreat
section
open Go.RowKit
structure xU where
 yD:Int
 zK:Int
 zF:Int
 yH:Int
 yB:Int
deriving DecidableEq
def xU.fs (x:xU):List T:= [.num x.yD,.num x.zK,.num x.zF,.num x.yH,.num x.yB]
def xU.t (x:xU):T:= .st x.fs
theorem xU.wide_t (x:xU):T.wide x.t=5:=by simp[xU.t,xU.fs,T.wide,T.wides]
def xU.good (x:xU):Prop:=I64 x.yD∧I64 x.zK∧I64 x.zF∧I64 x.yH∧I64 x.yB
theorem xU.yV {w:World} {x:xU} {cs:List Value} (h:T.rds w x.fs cs):cs= [.int .i64 x.yD,.int .i64 x.zK,.int .i64 x.zF,.int .i64 x.yH,.int .i64 x.yB]:=by
 simp only[xU.fs,T.rds_num,T.rds_str,T.rds_sl,T.rds_nil] at h;obtain⟨_,rfl,_,rfl,_,rfl,_,rfl,_,rfl,rfl⟩:=h;exact rfl
theorem xU.rd_mk {w:World} {x:xU} :T.rds w x.fs [.int .i64 x.yD,.int .i64 x.zK,.int .i64 x.zF,.int .i64 x.yH,.int .i64 x.yB]:=by
 unfold xU.fs;exact T.c_rn (T.c_rn (T.c_rn (T.c_rn (T.c_rn (T.c_re)))))
theorem xU.ow_mk {w:World} {x:xU} :T.ows w x.fs [] [.int .i64 x.yD,.int .i64 x.zK,.int .i64 x.zF,.int .i64 x.yH,.int .i64 x.yB]:=by
 unfold xU.fs;exact T.c_on (T.c_on (T.c_on (T.c_on (T.c_on (T.c_oe)))))
structure xQ where
 zZ:List xU
deriving DecidableEq
def xQ.fs (x:xQ):List T:= [T.sl 39 5 (x.zZ.map xU.t)]
def xQ.t (x:xQ):T:= .st x.fs
theorem xQ.wide_t (x:xQ):T.wide x.t=1:=by simp[xQ.t,xQ.fs,T.wide,T.wides]
def xQ.good (x:xQ):Prop:=(∀ y ∈ x.zZ,xU.good y)
def xQ.small (x:xQ):Prop:=x.zZ.length≤1048576
theorem xQ.yV {w:World} {x:xQ} {cs:List Value} (h:T.rds w x.fs cs): ∃ v0,cs= [v0]∧T.rd w (T.sl 39 5 (x.zZ.map xU.t)) [v0]:=by
 simp only[xQ.fs,T.rds_num,T.rds_str,T.rds_sl,T.rds_nil] at h;obtain⟨v0,_,rfl,h0,rfl⟩:=h;exact⟨v0,rfl,h0⟩
theorem xQ.rd_mk {w:World} {x:xQ} {v0:Value} (h0:T.rd w (T.sl 39 5 (x.zZ.map xU.t)) [v0]):T.rds w x.fs [v0]:=by
 unfold xQ.fs;exact T.c_rl h0 (T.c_re)
theorem xQ.ow_open {w:World} {x:xQ} {F:List Nat} {cs:List Value} (h:T.ows w x.fs F cs): ∃ v0 F0,cs= [v0]∧F=F0++ []∧T.ow w (T.sl 39 5 (x.zZ.map xU.t)) F0 [v0]:=by
 simp only[xQ.fs,T.ows_num,T.ows_str,T.ows_sl,T.ows_nil] at h;obtain⟨v0,_,F0,_,rfl,rfl,h0,rfl,rfl⟩:=h;exact⟨v0,F0,rfl,rfl,h0⟩
theorem xQ.ow_mk {w:World} {x:xQ} {v0:Value} {F0:List Nat} (h0:T.ow w (T.sl 39 5 (x.zZ.map xU.t)) F0 [v0]):T.ows w x.fs (F0++ []) [v0]:=by
 unfold xQ.fs;exact T.c_ol h0 (T.c_oe)
structure xV where
 yG:Int
 yB:Int
deriving DecidableEq
def xV.fs (x:xV):List T:= [.num x.yG,.num x.yB]
def xV.t (x:xV):T:= .st x.fs
theorem xV.wide_t (x:xV):T.wide x.t=2:=by simp[xV.t,xV.fs,T.wide,T.wides]
def xV.good (x:xV):Prop:=I64 x.yG∧I64 x.yB
theorem xV.yV {w:World} {x:xV} {cs:List Value} (h:T.rds w x.fs cs):cs= [.int .i64 x.yG,.int .i64 x.yB]:=by
 simp only[xV.fs,T.rds_num,T.rds_str,T.rds_sl,T.rds_nil] at h;obtain⟨_,rfl,_,rfl,rfl⟩:=h;exact rfl
theorem xV.ow_mk {w:World} {x:xV} :T.ows w x.fs [] [.int .i64 x.yG,.int .i64 x.yB]:=by
 unfold xV.fs;exact T.c_on (T.c_on (T.c_oe))
structure xP where
 yE:ByteArray
 zU:Int
 zY:List xV
deriving DecidableEq
def xP.fs (x:xP):List T:= [.str x.yE,.num x.zU,T.sl 98 2 (x.zY.map xV.t)]
def xP.t (x:xP):T:= .st x.fs
theorem xP.wide_t (x:xP):T.wide x.t=3:=by simp[xP.t,xP.fs,T.wide,T.wides]
def xP.good (x:xP):Prop:=x.yE.size≤9223372036854775807∧I64 x.zU∧(∀ y ∈ x.zY,xV.good y)
def xP.small (x:xP):Prop:=x.yE.size≤1048576∧x.zY.length≤1048576
theorem xP.yV {w:World} {x:xP} {cs:List Value} (h:T.rds w x.fs cs): ∃ v2,cs= [.string x.yE,.int .i64 x.zU,v2]∧T.rd w (T.sl 98 2 (x.zY.map xV.t)) [v2]:=by
 simp only[xP.fs,T.rds_num,T.rds_str,T.rds_sl,T.rds_nil] at h;obtain⟨_,rfl,_,rfl,v2,_,rfl,h2,rfl⟩:=h;exact⟨v2,rfl,h2⟩
theorem xP.ow_open {w:World} {x:xP} {F:List Nat} {cs:List Value} (h:T.ows w x.fs F cs): ∃ v2 F2,cs= [.string x.yE,.int .i64 x.zU,v2]∧F=F2++ []∧T.ow w (T.sl 98 2 (x.zY.map xV.t)) F2 [v2]:=by
 simp only[xP.fs,T.ows_num,T.ows_str,T.ows_sl,T.ows_nil] at h;obtain⟨_,rfl,_,rfl,v2,_,F2,_,rfl,rfl,h2,rfl,rfl⟩:=h;exact⟨v2,F2,rfl,rfl,h2⟩
theorem xP.ow_mk {w:World} {x:xP} {v2:Value} {F2:List Nat} (h2:T.ow w (T.sl 98 2 (x.zY.map xV.t)) F2 [v2]):T.ows w x.fs (F2++ []) [.string x.yE,.int .i64 x.zU,v2]:=by
 unfold xP.fs;exact T.c_os (T.c_on (T.c_ol h2 (T.c_oe)))
structure wG where
 zD:List xP
deriving DecidableEq
def wG.fs (x:wG):List T:= [T.sl 101 3 (x.zD.map xP.t)]
def wG.good (x:wG):Prop:=(∀ y ∈ x.zD,xP.good y)
def wG.small (x:wG):Prop:=smL xP.small x.zD
theorem wG.yV {w:World} {x:wG} {cs:List Value} (h:T.rds w x.fs cs): ∃ v0,cs= [v0]∧T.rd w (T.sl 101 3 (x.zD.map xP.t)) [v0]:=by
 simp only[wG.fs,T.rds_num,T.rds_str,T.rds_sl,T.rds_nil] at h;obtain⟨v0,_,rfl,h0,rfl⟩:=h;exact⟨v0,rfl,h0⟩
theorem wG.rd_mk {w:World} {x:wG} {v0:Value} (h0:T.rd w (T.sl 101 3 (x.zD.map xP.t)) [v0]):T.rds w x.fs [v0]:=by
 unfold wG.fs;exact T.c_rl h0 (T.c_re)
structure xR where
 zG:Int
 fA:Int
 fB:Int
 zK:List Int
deriving DecidableEq
def xR.fs (x:xR):List T:= [.num x.zG,.num x.fA,.num x.fB,T.ints 2 x.zK]
def xR.t (x:xR):T:= .st x.fs
theorem xR.wide_t (x:xR):T.wide x.t=4:=by simp[xR.t,xR.fs,T.wide,T.wides]
def xR.good (x:xR):Prop:=I64 x.zG∧I64 x.fA∧I64 x.fB∧(∀ y ∈ x.zK,I64 y)
def xR.small (x:xR):Prop:=x.zK.length≤1048576
theorem xR.yV {w:World} {x:xR} {cs:List Value} (h:T.rds w x.fs cs): ∃ v3,cs= [.int .i64 x.zG,.int .i64 x.fA,.int .i64 x.fB,v3]∧T.rd w (T.ints 2 x.zK) [v3]:=by
 simp only[xR.fs,T.rds_num,T.rds_str,T.rds_sl,T.rds_nil] at h;obtain⟨_,rfl,_,rfl,_,rfl,v3,_,rfl,h3,rfl⟩:=h;exact⟨v3,rfl,h3⟩
theorem xR.rd_mk {w:World} {x:xR} {v3:Value} (h3:T.rd w (T.ints 2 x.zK) [v3]):T.rds w x.fs [.int .i64 x.zG,.int .i64 x.fA,.int .i64 x.fB,v3]:=by
 unfold xR.fs;exact T.c_rn (T.c_rn (T.c_rn (T.c_rl h3 (T.c_re))))
theorem xR.ow_open {w:World} {x:xR} {F:List Nat} {cs:List Value} (h:T.ows w x.fs F cs): ∃ v3 F3,cs= [.int .i64 x.zG,.int .i64 x.fA,.int .i64 x.fB,v3]∧F=F3++ []∧T.ow w (T.ints 2 x.zK) F3 [v3]:=by
 simp only[xR.fs,T.ows_num,T.ows_str,T.ows_sl,T.ows_nil] at h;obtain⟨_,rfl,_,rfl,_,rfl,v3,_,F3,_,rfl,rfl,h3,rfl,rfl⟩:=h;exact⟨v3,F3,rfl,rfl,h3⟩
theorem xR.ow_mk {w:World} {x:xR} {v3:Value} {F3:List Nat} (h3:T.ow w (T.ints 2 x.zK) F3 [v3]):T.ows w x.fs (F3++ []) [.int .i64 x.zG,.int .i64 x.fA,.int .i64 x.fB,v3]:=by
 unfold xR.fs;exact T.c_on (T.c_on (T.c_on (T.c_ol h3 (T.c_oe))))
structure xO where
 zS:Int
 zV:List (List Int)
 zC:List xR
 zT:List Int
deriving DecidableEq
def xO.fs (x:xO):List T:= [.num x.zS,T.sl 26 1 (x.zV.map (T.ints 2)),T.sl 167 4 (x.zC.map xR.t),T.ints 2 x.zT]
def xO.t (x:xO):T:= .st x.fs
theorem xO.wide_t (x:xO):T.wide x.t=4:=by simp[xO.t,xO.fs,T.wide,T.wides]
def xO.good (x:xO):Prop:=I64 x.zS∧(∀ l ∈ x.zV,∀ y ∈ l,I64 y)∧(∀ y ∈ x.zC,xR.good y)∧(∀ y ∈ x.zT,I64 y)
def xO.small (x:xO):Prop:=smL (fun l:List Int=>l.length≤1048576) x.zV∧smL xR.small x.zC∧x.zT.length≤1048576
theorem xO.yV {w:World} {x:xO} {cs:List Value} (h:T.rds w x.fs cs): ∃ v1 v2 v3,cs= [.int .i64 x.zS,v1,v2,v3]∧T.rd w (T.sl 26 1 (x.zV.map (T.ints 2))) [v1]∧T.rd w (T.sl 167 4 (x.zC.map xR.t)) [v2]∧T.rd w (T.ints 2 x.zT) [v3]:=by
 simp only[xO.fs,T.rds_num,T.rds_str,T.rds_sl,T.rds_nil] at h;obtain⟨_,rfl,v1,_,rfl,h1,v2,_,rfl,h2,v3,_,rfl,h3,rfl⟩:=h;exact⟨v1,v2,v3,rfl,h1,h2,h3⟩
theorem xO.rd_mk {w:World} {x:xO} {v1:Value} {v2:Value} {v3:Value} (h1:T.rd w (T.sl 26 1 (x.zV.map (T.ints 2))) [v1]) (h2:T.rd w (T.sl 167 4 (x.zC.map xR.t)) [v2]) (h3:T.rd w (T.ints 2 x.zT) [v3]):T.rds w x.fs [.int .i64 x.zS,v1,v2,v3]:=by
 unfold xO.fs;exact T.c_rn (T.c_rl h1 (T.c_rl h2 (T.c_rl h3 (T.c_re))))
theorem xO.ow_open {w:World} {x:xO} {F:List Nat} {cs:List Value} (h:T.ows w x.fs F cs): ∃ v1 v2 v3 F1 F2 F3,cs= [.int .i64 x.zS,v1,v2,v3]∧F=F1++(F2++(F3++ []))∧T.ow w (T.sl 26 1 (x.zV.map (T.ints 2))) F1 [v1]∧T.ow w (T.sl 167 4 (x.zC.map xR.t)) F2 [v2]∧T.ow w (T.ints 2 x.zT) F3 [v3]:=by
 simp only[xO.fs,T.ows_num,T.ows_str,T.ows_sl,T.ows_nil] at h;obtain⟨_,rfl,v1,_,F1,_,rfl,rfl,h1,v2,_,F2,_,rfl,rfl,h2,v3,_,F3,_,rfl,rfl,h3,rfl,rfl⟩:=h;exact⟨v1,v2,v3,F1,F2,F3,rfl,rfl,h1,h2,h3⟩
theorem xO.ow_mk {w:World} {x:xO} {v1:Value} {F1:List Nat} {v2:Value} {F2:List Nat} {v3:Value} {F3:List Nat} (h1:T.ow w (T.sl 26 1 (x.zV.map (T.ints 2))) F1 [v1]) (h2:T.ow w (T.sl 167 4 (x.zC.map xR.t)) F2 [v2]) (h3:T.ow w (T.ints 2 x.zT) F3 [v3]):T.ows w x.fs (F1++(F2++(F3++ []))) [.int .i64 x.zS,v1,v2,v3]:=by
 unfold xO.fs;exact T.c_on (T.c_ol h1 (T.c_ol h2 (T.c_ol h3 (T.c_oe))))
structure xS where
 zF:Int
 zI:List (List Int)
 zL:List xQ
 zX:List Int
 zO:List xO
 zH:wG
deriving DecidableEq
def xS.fs (x:xS):List T:= [.num x.zF,T.sl 26 1 (x.zI.map (T.ints 2)),T.sl 96 1 (x.zL.map xQ.t),T.ints 2 x.zX,T.sl 108 4 (x.zO.map xO.t),T.sl 101 3 (x.zH.zD.map xP.t)]
def xS.good (x:xS):Prop:=I64 x.zF∧(∀ l ∈ x.zI,∀ y ∈ l,I64 y)∧(∀ y ∈ x.zL,xQ.good y)∧(∀ y ∈ x.zX,I64 y)∧(∀ y ∈ x.zO,xO.good y)∧(∀ y ∈ x.zH.zD,xP.good y)
def xS.small (x:xS):Prop:=smL (fun l:List Int=>l.length≤1048576) x.zI∧smL xQ.small x.zL∧x.zX.length≤1048576∧smL xO.small x.zO∧smL xP.small x.zH.zD
theorem xS.yV {w:World} {x:xS} {cs:List Value} (h:T.rds w x.fs cs): ∃ v1 v2 v3 v4 v5,cs= [.int .i64 x.zF,v1,v2,v3,v4,v5]∧T.rd w (T.sl 26 1 (x.zI.map (T.ints 2))) [v1]∧T.rd w (T.sl 96 1 (x.zL.map xQ.t)) [v2]∧T.rd w (T.ints 2 x.zX) [v3]∧T.rd w (T.sl 108 4 (x.zO.map xO.t)) [v4]∧T.rd w (T.sl 101 3 (x.zH.zD.map xP.t)) [v5]:=by
 simp only[xS.fs,T.rds_num,T.rds_str,T.rds_sl,T.rds_nil] at h;obtain⟨_,rfl,v1,_,rfl,h1,v2,_,rfl,h2,v3,_,rfl,h3,v4,_,rfl,h4,v5,_,rfl,h5,rfl⟩:=h;exact⟨v1,v2,v3,v4,v5,rfl,h1,h2,h3,h4,h5⟩
theorem xS.rd_mk {w:World} {x:xS} {v1:Value} {v2:Value} {v3:Value} {v4:Value} {v5:Value} (h1:T.rd w (T.sl 26 1 (x.zI.map (T.ints 2))) [v1]) (h2:T.rd w (T.sl 96 1 (x.zL.map xQ.t)) [v2]) (h3:T.rd w (T.ints 2 x.zX) [v3]) (h4:T.rd w (T.sl 108 4 (x.zO.map xO.t)) [v4]) (h5:T.rd w (T.sl 101 3 (x.zH.zD.map xP.t)) [v5]):T.rds w x.fs [.int .i64 x.zF,v1,v2,v3,v4,v5]:=by
 unfold xS.fs;exact T.c_rn (T.c_rl h1 (T.c_rl h2 (T.c_rl h3 (T.c_rl h4 (T.c_rl h5 (T.c_re))))))
theorem xS.ow_open {w:World} {x:xS} {F:List Nat} {cs:List Value} (h:T.ows w x.fs F cs): ∃ v1 v2 v3 v4 v5 F1 F2 F3 F4 F5,cs= [.int .i64 x.zF,v1,v2,v3,v4,v5]∧F=F1++(F2++(F3++(F4++(F5++ []))))∧T.ow w (T.sl 26 1 (x.zI.map (T.ints 2))) F1 [v1]∧T.ow w (T.sl 96 1 (x.zL.map xQ.t)) F2 [v2]∧T.ow w (T.ints 2 x.zX) F3 [v3]∧T.ow w (T.sl 108 4 (x.zO.map xO.t)) F4 [v4]∧T.ow w (T.sl 101 3 (x.zH.zD.map xP.t)) F5 [v5]:=by
 simp only[xS.fs,T.ows_num,T.ows_str,T.ows_sl,T.ows_nil] at h;obtain⟨_,rfl,v1,_,F1,_,rfl,rfl,h1,v2,_,F2,_,rfl,rfl,h2,v3,_,F3,_,rfl,rfl,h3,v4,_,F4,_,rfl,rfl,h4,v5,_,F5,_,rfl,rfl,h5,rfl,rfl⟩:=h;exact⟨v1,v2,v3,v4,v5,F1,F2,F3,F4,F5,rfl,rfl,h1,h2,h3,h4,h5⟩
theorem xS.ow_mk {w:World} {x:xS} {v1:Value} {F1:List Nat} {v2:Value} {F2:List Nat} {v3:Value} {F3:List Nat} {v4:Value} {F4:List Nat} {v5:Value} {F5:List Nat} (h1:T.ow w (T.sl 26 1 (x.zI.map (T.ints 2))) F1 [v1]) (h2:T.ow w (T.sl 96 1 (x.zL.map xQ.t)) F2 [v2]) (h3:T.ow w (T.ints 2 x.zX) F3 [v3]) (h4:T.ow w (T.sl 108 4 (x.zO.map xO.t)) F4 [v4]) (h5:T.ow w (T.sl 101 3 (x.zH.zD.map xP.t)) F5 [v5]):T.ows w x.fs (F1++(F2++(F3++(F4++(F5++ []))))) [.int .i64 x.zF,v1,v2,v3,v4,v5]:=by
 unfold xS.fs;exact T.c_on (T.c_ol h1 (T.c_ol h2 (T.c_ol h3 (T.c_ol h4 (T.c_ol h5 (T.c_oe))))))
structure xX where
 zB:xS
 yF:List Int
 yC:List Int
deriving DecidableEq
def xX.fs (x:xX):List T:= [.num x.zB.zF,T.sl 26 1 (x.zB.zI.map (T.ints 2)),T.sl 96 1 (x.zB.zL.map xQ.t),T.ints 2 x.zB.zX,T.sl 108 4 (x.zB.zO.map xO.t),T.sl 101 3 (x.zB.zH.zD.map xP.t),T.ints 2 x.yF,T.ints 2 x.yC]
def xX.good (x:xX):Prop:=I64 x.zB.zF∧(∀ l ∈ x.zB.zI,∀ y ∈ l,I64 y)∧(∀ y ∈ x.zB.zL,xQ.good y)∧(∀ y ∈ x.zB.zX,I64 y)∧(∀ y ∈ x.zB.zO,xO.good y)∧(∀ y ∈ x.zB.zH.zD,xP.good y)∧(∀ y ∈ x.yF,I64 y)∧(∀ y ∈ x.yC,I64 y)
def xX.small (x:xX):Prop:=smL (fun l:List Int=>l.length≤1048576) x.zB.zI∧smL xQ.small x.zB.zL∧x.zB.zX.length≤1048576∧smL xO.small x.zB.zO∧smL xP.small x.zB.zH.zD∧x.yF.length≤1048576∧x.yC.length≤1048576
theorem xX.yV {w:World} {x:xX} {cs:List Value} (h:T.rds w x.fs cs): ∃ v1 v2 v3 v4 v5 v6 v7,cs= [.int .i64 x.zB.zF,v1,v2,v3,v4,v5,v6,v7]∧T.rd w (T.sl 26 1 (x.zB.zI.map (T.ints 2))) [v1]∧T.rd w (T.sl 96 1 (x.zB.zL.map xQ.t)) [v2]∧T.rd w (T.ints 2 x.zB.zX) [v3]∧T.rd w (T.sl 108 4 (x.zB.zO.map xO.t)) [v4]∧T.rd w (T.sl 101 3 (x.zB.zH.zD.map xP.t)) [v5]∧T.rd w (T.ints 2 x.yF) [v6]∧T.rd w (T.ints 2 x.yC) [v7]:=by
 simp only[xX.fs,T.rds_num,T.rds_str,T.rds_sl,T.rds_nil] at h;obtain⟨_,rfl,v1,_,rfl,h1,v2,_,rfl,h2,v3,_,rfl,h3,v4,_,rfl,h4,v5,_,rfl,h5,v6,_,rfl,h6,v7,_,rfl,h7,rfl⟩:=h;exact⟨v1,v2,v3,v4,v5,v6,v7,rfl,h1,h2,h3,h4,h5,h6,h7⟩
theorem xX.rd_mk {w:World} {x:xX} {v1:Value} {v2:Value} {v3:Value} {v4:Value} {v5:Value} {v6:Value} {v7:Value} (h1:T.rd w (T.sl 26 1 (x.zB.zI.map (T.ints 2))) [v1]) (h2:T.rd w (T.sl 96 1 (x.zB.zL.map xQ.t)) [v2]) (h3:T.rd w (T.ints 2 x.zB.zX) [v3]) (h4:T.rd w (T.sl 108 4 (x.zB.zO.map xO.t)) [v4]) (h5:T.rd w (T.sl 101 3 (x.zB.zH.zD.map xP.t)) [v5]) (h6:T.rd w (T.ints 2 x.yF) [v6]) (h7:T.rd w (T.ints 2 x.yC) [v7]):T.rds w x.fs [.int .i64 x.zB.zF,v1,v2,v3,v4,v5,v6,v7]:=by
 unfold xX.fs;exact T.c_rn (T.c_rl h1 (T.c_rl h2 (T.c_rl h3 (T.c_rl h4 (T.c_rl h5 (T.c_rl h6 (T.c_rl h7 (T.c_re))))))))
theorem xX.ow_open {w:World} {x:xX} {F:List Nat} {cs:List Value} (h:T.ows w x.fs F cs): ∃ v1 v2 v3 v4 v5 v6 v7 F1 F2 F3 F4 F5 F6 F7,cs= [.int .i64 x.zB.zF,v1,v2,v3,v4,v5,v6,v7]∧F=F1++(F2++(F3++(F4++(F5++(F6++(F7++ []))))))∧T.ow w (T.sl 26 1 (x.zB.zI.map (T.ints 2))) F1 [v1]∧T.ow w (T.sl 96 1 (x.zB.zL.map xQ.t)) F2 [v2]∧T.ow w (T.ints 2 x.zB.zX) F3 [v3]∧T.ow w (T.sl 108 4 (x.zB.zO.map xO.t)) F4 [v4]∧T.ow w (T.sl 101 3 (x.zB.zH.zD.map xP.t)) F5 [v5]∧T.ow w (T.ints 2 x.yF) F6 [v6]∧T.ow w (T.ints 2 x.yC) F7 [v7]:=by
 simp only[xX.fs,T.ows_num,T.ows_str,T.ows_sl,T.ows_nil] at h;obtain⟨_,rfl,v1,_,F1,_,rfl,rfl,h1,v2,_,F2,_,rfl,rfl,h2,v3,_,F3,_,rfl,rfl,h3,v4,_,F4,_,rfl,rfl,h4,v5,_,F5,_,rfl,rfl,h5,v6,_,F6,_,rfl,rfl,h6,v7,_,F7,_,rfl,rfl,h7,rfl,rfl⟩:=h;exact⟨v1,v2,v3,v4,v5,v6,v7,F1,F2,F3,F4,F5,F6,F7,rfl,rfl,h1,h2,h3,h4,h5,h6,h7⟩
theorem xX.ow_mk {w:World} {x:xX} {v1:Value} {F1:List Nat} {v2:Value} {F2:List Nat} {v3:Value} {F3:List Nat} {v4:Value} {F4:List Nat} {v5:Value} {F5:List Nat} {v6:Value} {F6:List Nat} {v7:Value} {F7:List Nat} (h1:T.ow w (T.sl 26 1 (x.zB.zI.map (T.ints 2))) F1 [v1]) (h2:T.ow w (T.sl 96 1 (x.zB.zL.map xQ.t)) F2 [v2]) (h3:T.ow w (T.ints 2 x.zB.zX) F3 [v3]) (h4:T.ow w (T.sl 108 4 (x.zB.zO.map xO.t)) F4 [v4]) (h5:T.ow w (T.sl 101 3 (x.zB.zH.zD.map xP.t)) F5 [v5]) (h6:T.ow w (T.ints 2 x.yF) F6 [v6]) (h7:T.ow w (T.ints 2 x.yC) F7 [v7]):T.ows w x.fs (F1++(F2++(F3++(F4++(F5++(F6++(F7++ []))))))) [.int .i64 x.zB.zF,v1,v2,v3,v4,v5,v6,v7]:=by
 unfold xX.fs;exact T.c_on (T.c_ol h1 (T.c_ol h2 (T.c_ol h3 (T.c_ol h4 (T.c_ol h5 (T.c_ol h6 (T.c_ol h7 (T.c_oe))))))))
structure GEdit where
 zG:Int
 yJ:Int
 yK:Int
 yI:Int
 yL:xU
deriving DecidableEq
end
section
open Go.RowKit
noncomputable def tf (p:Prop):Bool:= @decide p (Classical.propDecidable p)
theorem xI {p:Prop} (h:p):tf p=true:=by unfold tf;exact @decide_eq_true p (Classical.propDecidable p) h
theorem xH {p:Prop} (h: ¬ p):tf p=false:=by unfold tf;exact @decide_eq_false p (Classical.propDecidable p) h
theorem tf_iff {p q:Prop} (h:p↔q):tf p=tf q:=by rw[propext h]
theorem tf_dec {p:Prop} [d:Decidable p]:tf p=decide p:=by
 by_cases h:p
 ·rw[xI h,decide_eq_true h]
 ·rw[xH h,decide_eq_false h]
def vP {α:Type} (xs:List α) (Q:Nat→α→Prop) (k:Nat):Prop:= ∀ i x,i<k→xs[i]?=some x→Q i x
def Each {α:Type} (xs:List α) (Q:Nat→α→Prop):Prop:= ∀ i x,xs[i]?=some x→Q i x
section
variable {α:Type} {xs:List α} {Q:Nat→α→Prop} {k:Nat} {x:α}
theorem vP.zero:vP xs Q 0:=fun i _ h=>absurd h (Nat.not_lt_zero i)
theorem vP.step (h:vP xs Q k) (hx:xs[k]?=some x) (q:Q k x):vP xs Q (k+1):=by
 intro i y hi hy;by_cases e:i=k
 ·subst e
  rw[hx] at hy;injection hy with hy;subst hy;exact q
 ·exact h i y zM hy
theorem vP.all (h:vP xs Q k) (hk:xs.length≤k):Each xs Q:=fun i y hy=>h i y (zW (List.getElem?_eq_some_iff.1 hy).1 hk) hy
theorem Each.of_mem {P:α→Prop} :Each xs (fun _ y=>P y)↔ ∀ y ∈ xs,P y:=by
 constructor
 ·intro h y hy
  obtain⟨i,hi,rfl⟩:=List.mem_iff_getElem.1 hy;exact h i _ (gE hi)
 ·intro h i y hy
  exact h y (List.mem_of_getElem? hy)
end
def Idx (l:List Int) (n:Int):Prop:=Each l fun _ x=>0≤x∧x≤n - 1
structure vPz (c:xU):Prop where
 source:inB c.yD 0 5=true
 length:inB c.zF 1 4000=true
 from_:inB c.zK 0 (4000 - c.zF)=true
 at_:inB c.yH 0 (4000 - c.zF)=true
 gain:Smp c.yB
structure zWz (t:xQ):Prop where
 clips:Each t.zZ fun i c=>vPz c∧ ∀ p,0<i→t.zZ[i - 1]?=some p→p.yH≤c.yH
 few:t.zZ.length≤12
def befS (l:List xV) (strip:Int) (i:Nat):Int:=if i=0 then strip else (l.getD (i - 1) ⟨0,0⟩).yG
structure SendsOk (l:List xV) (strip n:Int):Prop where
 each:Each l fun i x=>inB x.yG (befS l strip i+1) (n - 1)=true∧Smp x.yB
 last:strip=n - 1→l.length=0
 few:strip≠n - 1→1≤l.length∧l.length≤4
def vQz (c:Nat):Prop:=97≤c∧c≤122
def vRz (c:Nat):Prop:=48≤c∧c≤57
structure NameOk (s:ByteArray):Prop where
 some_:1≤s.size
 few:s.size≤10
 each: ∀ i,i<s.size→vQz (bA s i)∨(vRz (bA s i)∧i≠0)
structure StripOk (x:xP) (i n:Int):Prop where
 name:NameOk x.yE
 latency:inB x.zU 0 32=true
 sends:SendsOk x.zY i n
structure uP (m:wG):Prop where
 some_:1≤m.zD.length
 few:m.zD.length≤8
 each:Each m.zD fun i x=>StripOk x (i:Int) (m.zD.length:Int)∧ ∀ j y,j<i→m.zD[j]?=some y→y.yE≠x.yE
structure zTz (ss:List (List Int)):Prop where
 each:Each ss fun _ l=>wFz l=true
 few:ss.length≤6
structure wMz (ts:List (List Int)):Prop where
 each:Each ts fun _ t=>(t.length=2∨t.length=4∨t.length=8∨t.length=16)∧smpB t=true
 few:ts.length≤4
structure Knd where
 inputs:Int
 low:Int
 high:Int
 linear:Bool
 hasB:Bool
def kndL:List Knd:= [⟨0,0,3,true,false⟩,⟨0,-2147483648,2147483647,false,false⟩,⟨2,1,0,true,false⟩,⟨2,1,0,true,false⟩,⟨1,-2147483648,2147483647,true,false⟩,⟨1,1,16,true,false⟩,⟨1,1,0,true,false⟩,⟨1,1,0,true,false⟩,⟨2,1,0,false,false⟩,⟨1,0,31,false,false⟩,⟨1,0,2147483647,false,false⟩,⟨1,-2147483648,2147483647,false,false⟩,⟨1,0,3,false,false⟩,⟨0,-2147483648,2147483647,false,false⟩,⟨3,1,0,false,false⟩,⟨2,1,0,false,false⟩,⟨1,-2147483648,2147483647,true,true⟩]
def uX (k:Int):Knd:=kndL.getD (k - 1).toNat ⟨0,0,0,false,false⟩
structure yPz (x:xR) (tables:Int):Prop where
 kind:inB x.zG 1 17=true
 a:if (uX x.zG).low≤(uX x.zG).high then inB x.fA (uX x.zG).low (uX x.zG).high=true else x.fA=0
 b:if (uX x.zG).hasB then inB x.fB 1 16=true else x.fB=0
 from_:Each x.zK fun _ f=>inB f 0 23=true
 arity:(x.zK.length:Int)=(uX x.zG).inputs
 table:x.zG=13→x.fA<tables
structure xUz (p:xO):Prop where
 inputs:inB p.zS 0 4=true
 tables:wMz p.zV
 few:p.zC.length≤24
 outs:p.zT.length≤4
 outputs:Idx p.zT (p.zC.length:Int)
 nodes:Each p.zC fun _ x=>yPz x (p.zV.length:Int)∧Idx x.zK (p.zC.length:Int)∧(x.zG=1→x.fA<p.zS)
def uS (x:xR):List Int:=if x.zG=6 then [] else x.zK
def zZz (nodes:List xR) (out:List Int) (i:Nat):Bool:= !out.contains (i:Int) && ((nodes[i]?).map fun x=>(uS x).all fun f=>out.contains f).getD false
def vGz (nodes:List xR) (out:List Int):Option Nat:=(List.range nodes.length).find? (zZz nodes out)
def xJ (nodes:List xR):Nat→List Int
 |0=> []
 |k+1=>match vGz nodes (xJ nodes k) with
  |some i=>xJ nodes k++ [(i:Int)]
  |none=>xJ nodes k
def wD (nodes:List xR):List Int:=xJ nodes nodes.length
theorem zUy {nodes:List xR} {k:Nat} (h:vGz nodes (xJ nodes k)=none): ∀ m,xJ nodes (k+m)=xJ nodes k:=by
 intro m
 induction m with
 |zero=>rfl
 |succ m ih=>
  rw[←Nat.add_assoc];simp only[xJ];rw[ih,h]
theorem yLy {nodes:List xR} : ∀ k,(xJ nodes k).length≤k
 |0=>zJ
 |k+1=>by
  have ih:=yLy (nodes:=nodes) k;simp only[xJ]
  split
  ·simp;omega
  ·omega
theorem nextF_some {nodes:List xR} {out:List Int} {i:Nat} (hi:i<nodes.length) (hr:zZz nodes out i=true) (hb: ∀ j,j<i→zZz nodes out j=false):vGz nodes out=some i:=by
 unfold vGz;rw[List.find?_eq_some_iff_getElem];refine⟨hr,i,by simpa using hi,by simp,fun j hj=>by simp[hb j hj]⟩
theorem nextF_none {nodes:List xR} {out:List Int} (hb: ∀ j,j<nodes.length→zZz nodes out j=false):vGz nodes out=none:=by
 unfold vGz;rw[List.find?_eq_none];intro j hj;simp[hb j (by simpa using hj)]
theorem nextF_inv {nodes:List xR} {out:List Int} {i:Nat} (h:vGz nodes out=some i):i<nodes.length∧zZz nodes out i=true:=by
 unfold vGz at h;exact⟨by simpa using List.mem_of_find?_eq_some h,List.find?_some h⟩
theorem xVz {nodes:List xR} : ∀ k,(xJ nodes k).Nodup∧ ∀ x ∈ xJ nodes k,0≤x∧x<(nodes.length:Int)
 |0=>by simp[xJ]
 |k+1=>by
  obtain⟨h1,h2⟩:=xVz (nodes:=nodes) k;simp only[xJ]
  split
  ·next i h=>
   obtain⟨hi,hr⟩:=nextF_inv h
   have hn:(i:Int) ∉ xJ nodes k:=by
    simp only[zZz,Bool.and_eq_true,Bool.not_eq_true'] at hr
    simpa using hr.1
   refine⟨?_,?_⟩
   ·rw[List.nodup_append]
    refine⟨h1,by simp,fun a ha b hb e=>?_⟩;simp at hb;subst hb e;exact hn ha
   ·intro x hx
    rcases List.mem_append.1 hx with hx|hx
    ·exact h2 x hx
    ·simp at hx;subst hx;omega
  ·exact⟨h1,h2⟩
theorem nodup_range: ∀ (n:Nat) (l:List Nat),l.Nodup→(∀ x ∈ l,x<n)→l.length≤n
 |0,[],_,_=>zJ
 |0,x :: _,_,h=>absurd (h x (by simp)) zM
 |n+1,l,h1,h2=>by
  by_cases hm:n ∈ l
  ·have h3:=nodup_range n (l.erase n) (h1.erase n) (fun x hx=>by
    have:=(h1.mem_erase_iff).1 hx;have h4:=h2 x this.2;have h5:=this.1
    omega)
   rw[List.length_erase_of_mem hm] at h3
   omega
  ·have h3:=nodup_range n l h1 (fun x hx=>by
    have h4:=h2 x hx;have:x≠n:=fun e=>hm (e ▸ hx)
    omega)
   omega
theorem nodup_bound {n:Nat} {l:List Int} (h1:l.Nodup) (h2: ∀ x ∈ l,0≤x∧x<(n:Int)):l.length≤n:=by
 have h3:(l.map Int.toNat).Nodup:=by
  rw[List.Nodup,List.pairwise_map];refine List.Pairwise.imp_of_mem ?_ h1;intro a b ha hb hab e;have:=h2 a ha;have:=h2 b hb
  omega
 have:=nodup_range n _ h3 (fun x hx=>by
  obtain⟨y,hy,rfl⟩:=List.mem_map.1 hx;have:=h2 y hy
  omega)
 simpa using this
theorem wGz {nodes:List xR} (k:Nat):(xJ nodes k).length≤nodes.length:=nodup_bound (xVz k).1 (xVz k).2
theorem uJz {nodes:List xR} {k:Nat} (h:vGz nodes (xJ nodes k)=none) (hk:(xJ nodes k).length=k):wD nodes=xJ nodes k:=by
 have hc:=wGz (nodes:=nodes) k;unfold wD;rw[show nodes.length=k+(nodes.length - k) by omega];exact zUy h _
theorem wYz {nodes:List xR} {k i:Nat} (h:vGz nodes (xJ nodes k)=some i):xJ nodes (k+1)=xJ nodes k++ [(i:Int)]:=by
 simp only[xJ,h]
structure vN (p:xO):Prop where
 formed:xUz p
 order:(wD p.zC).length=p.zC.length
def zHz:xO:=⟨0,[],[],[]⟩
def vHz (p:xO):Prop:=p=zHz∨(vN p∧p.zS=1∧p.zT.length=1)
structure vO (s:xS):Prop where
 length:inB s.zF 0 1000=true
 sources:zTz s.zI
 few:s.zL.length≤6
 mixer:uP s.zH
 feed:s.zX.length=s.zL.length
 feeds:Idx s.zX (s.zH.zD.length:Int)
 effect:s.zO.length=s.zH.zD.length
 tracks:Each s.zL fun _ t=>zWz t∧Each t.zZ fun _ c=>c.yD<(s.zI.length:Int)
 effects:Each s.zO fun _ p=>vHz p
def uC (n:Int):Int:=(n+15) / 16
structure uV (c:xX):Prop where
 session:vO c.zB
 length:(c.yF.length:Int)=c.zB.zF
 mix:smpB c.yF=true
 dirty:Each c.yC fun i b=>(0≤b∧b≤uC c.zB.zF - 1)∧ ∀ p,0<i→c.yC[i - 1]?=some p→p<b
end
section
open Go.RowKit
theorem T.yU {w:World} {E:TypeId} {sz:Nat} {α:Type} {tr:α→T} {xs:List α} {v:Value} (h:T.rd w (.sl E sz (xs.map tr)) [v]):
  ∃ A cap,v= .slice A xs.length cap∧xs.length≤cap∧cap≤9223372036854775807∧
   (∀ k x,xs[k]?=some x→ ∃ b off cs,A=some ⟨b,off,none⟩∧b<w.heap.size∧T.rd w (tr x) cs∧ ∀ j u,cs[j]?=some u→w.cell? ⟨b,off+(k * sz+j),none⟩=some u):=by
 obtain⟨A,cap,hv,h1,h2,h3⟩:=T.yV h;rw[List.length_map] at hv h1;exact⟨A,cap,hv,h1,h2,fun k x hk=>h3 k (tr x) (by rw[List.getElem?_map,hk];rfl)⟩
theorem T.rds_below' {w w':World} {x:List T} {cs:List Value} (h:T.rds w x cs) (hb:Below w.heap.size w w'):T.rds w' x cs:=T.rds_keep hb.size hb.block x cs h
def T.at (w:World) (fs:List T) (b o:Nat):Prop:=b<w.heap.size∧ ∃ cs,T.rds w fs cs∧ ∀ j u,cs[j]?=some u→w.cell? ⟨b,o+j,none⟩=some u
theorem T.at_below {w w':World} {fs:List T} {b o:Nat} (h:T.at w fs b o) (hb:Below w.heap.size w w'):T.at w' fs b o:=by
 obtain⟨h1,cs,h2,h3⟩:=h;exact⟨zW h1 hb.size,cs,T.rds_below' h2 hb,fun j u hj=>(hb.cell h1).trans (h3 j u hj)⟩
theorem T.at_elem {w:World} {fs:List T} {b off k sz o:Nat} {cs:List Value} (hb:b<w.heap.size) (h:T.rds w fs cs) (hc: ∀ j u,cs[j]?=some u→w.cell? ⟨b,off+(k * sz+j),none⟩=some u) (ho:o=off+k * sz):T.at w fs b o:=
 ⟨hb,cs,h,fun j u hj=>by rw[ho,Nat.add_assoc];exact hc j u hj⟩
theorem T.at_bk {w:World} {fs:List T} {b:Nat} {t:TypeId} {cs:List Value} (hk:Bk w b t cs.toArray) (h:T.rds w fs cs):T.at w fs b 0:=
 ⟨hk.lt,cs,h,fun j u hj=>by rw[Nat.zero_add,hk.cell j];simpa using hj⟩
theorem yZ {a b:Int} (h:a≠b):(a == b)=false:=beq_false_of_ne h
theorem xA {a b:Int} (h:a=b):(a == b)=true:=by simp[h]
theorem yQz {a b:Int} (h:a≠b):(a != b)=true:=by simp[h]
theorem yRz {a b:Int} (h:a=b):(a != b)=false:=by simp[h]
noncomputable def bel (W u:World):World:= @ite _ (Below W.heap.size W u) (Classical.propDecidable _) u W
theorem yO (W u:World):Below W.heap.size W (bel W u):=by
 unfold bel
 split
 ·assumption
 ·exact zR
theorem bel_of {W u:World} (h:Below W.heap.size W u):u=bel W u:=by
 unfold bel;rw[if_pos h]
theorem yN {W:World} {b o:Nat} {v:Value} (h:W.cell? ⟨b,o,none⟩=some v): ∀ u,(bel W u).cell? ⟨b,o,none⟩=some v:=fun u=>
 ((yO W u).cell (World.block_lt_of_cell? W _ h)).trans h
theorem xM {W:World} {g:Nat} {t:TypeId} {cs:Array Value} (h:Bk W g t cs): ∀ u i,(bel W u).cell? ⟨g,i,none⟩=cs[i]?:=fun u i=>
 (h.below (yO W u) h.lt).cell i
theorem xL {P:Program} {id:Nat} {Q:Exit→Act→World→Prop} {a:Act} {w:World} {l:List Oper} (hm:P.follows .mixedOrders=true) (hB:Region.lexB .any l.toArray=true)
  (h:wpQuiet P l.toArray (fun w'=> ∃ u,w'=bel w u) (fun a'=> ∀ w',(∃ u,w'=bel w u)→Q .normal a' w') l a):(Code.region id l.toArray true).wp P Q a w:=
 wp_region_quiet (C:=fun w'=> ∃ u,w'=bel w u) hm hB ⟨_,bel_of ⟨rfl,rfl,rfl,zJ,fun _ _=>rfl⟩⟩ (by simpa using h)
theorem Calls.yS {P:Program} {f:FuncId} {args:Array Value} {w u:World} {v:Value}
  (h:Calls P f args (bel w u) fun e w'=>e= .returned v∧Below (bel w u).heap.size (bel w u) w'):Calls P f args (bel w u) fun e w''=>e= .returned v∧ ∃ m,w''=bel w m:=
 h.mono fun _ w' ⟨he,hb⟩=>⟨he,w',bel_of (yQ (yO w u) (yO w u).size hb)⟩
theorem Calls.yR {P:Program} {f:FuncId} {args:Array Value} {w u:World} {v:Value}
  (h:Calls P f args (bel w u) fun e w'=>e= .returned v∧bel w u=w'):Calls P f args (bel w u) fun e w''=>e= .returned v∧ ∃ m,w''=bel w m:=
 h.mono fun _ w' ⟨he,hb⟩=>⟨he,u,hb.symm⟩
theorem oG {w:World} {E:TypeId} {sz:Nat} {α:Type} {tr:α→T} {xs:List α} {v:Value} (h:T.rd w (.sl E sz (xs.map tr)) [v]):
  ∃ A cap,v= .slice A xs.length cap∧xs.length≤cap∧cap≤9223372036854775807∧Sec (T.rd w (.sl E sz (xs.map tr)) [.slice A xs.length cap])∧
   Sec (∀ k x,xs[k]?=some x→ ∃ b off cs,A=some ⟨b,off,none⟩∧b<w.heap.size∧T.rd w (tr x) cs∧ ∀ j u,cs[j]?=some u→w.cell? ⟨b,off+(k * sz+j),none⟩=some u):=by
 obtain⟨A,cap,rfl,h1,h2,h3⟩:=T.yU h;exact⟨A,cap,rfl,h1,h2,xN h,xN h3⟩
theorem oI {w:World} {E:TypeId} {xs:List Int} {v:Value} (h:T.rd w (T.ints E xs) [v]): ∃ A cap,v= .slice A xs.length cap∧xs.length≤cap∧cap≤9223372036854775807∧Sec (RdI w (.slice A xs.length cap) xs)∧
  Sec (∀ k x,xs[k]?=some x→ ∃ b off,A=some ⟨b,off,none⟩∧b<w.heap.size∧w.cell? ⟨b,off+k,none⟩=some (.int .i64 x)):=by
 have hi:=T.xB.1 h;obtain⟨A,cap,rfl,h1,h2,h3⟩:=hi.open_;exact⟨A,cap,rfl,h1,h2,xN hi,xN h3⟩
theorem rB {P:Program} {id:Nat} {Q:Exit→Act→World→Prop} {a:Act} {w:World} {l:List Oper}
  (h:wpQuiet P l.toArray (fun w'=> ∃ u,w'=bel w u) (fun a'=> ∀ w',(∃ u,w'=bel w u)→Q .normal a' w') l a) (hm:P.follows .mixedOrders=true:=by kernel_rfl) (hB:Region.lexB .any l.toArray=true:=by kernel_rfl):(Code.region id l.toArray true).wp P Q a w:=xL hm hB h
end
section
open Go.RowKit
theorem wI (n a b:Int) (w:World):Calls Tryz.prog 87 #[.int .i64 n,.int .i64 a,.int .i64 b] w fun e w'=>e= .returned (.bool (inB n a b))∧w=w':=by
 by_cases h:a≤n
 all_goals
  go_enter Tryz.func87,Tryz.ntmps87
  go_wp2;go_ret
  exact⟨by first|(simp[inB,h];done)|(simp[inB];omega),rfl⟩
theorem wF (n a b:Int) (w:World):Calls Tryz.prog 89 #[.int .i64 n,.int .i64 a,.int .i64 b] w fun e w'=>e= .returned (.bool (inB n a b))∧w=w':=by
 by_cases h:a≤n
 all_goals
  go_enter Tryz.func89,Tryz.ntmps89
  go_wp2;go_ret
  exact⟨by first|(simp[inB,h];done)|(simp[inB];omega),rfl⟩
theorem wT (n:Int) (w:World):Calls Tryz.prog 158 #[.int .i64 n] w fun e w'=>e= .returned (.bool (decide (Smp n)))∧w=w':=by
 go_enter Tryz.func158,Tryz.ntmps158
 go_wp2_with (go_at_call 87;refine(wI _ _ _ _).mono ?_;rintro e w' ⟨rfl,rfl⟩)
 go_ret
 exact⟨rfl,rfl⟩
theorem ySz (n:Int) (w:World):Calls Tryz.prog 169 #[.int .i64 n] w fun e w'=>e= .returned (.bool (decide (Smp n)))∧w=w':=by
 go_enter Tryz.func169,Tryz.ntmps169
 go_wp2_with (go_at_call 89;refine(wF _ _ _ _).mono ?_;rintro e w' ⟨rfl,rfl⟩)
 go_ret
 exact⟨rfl,rfl⟩
theorem wHz (v:Value) (xs:List Int) (w:World) (hr:RdI w v xs):Calls Tryz.prog 123 #[v] w fun e w'=>e= .returned (.bool (wFz xs))∧w=w':=by
 obtain⟨A,cap,rfl,hl,hc,hx⟩:=hr.open_;have HX:=xN hx;clear hx hr;by_cases h4:xs.length≤4000
 ·go_enter Tryz.func123,Tryz.ntmps123
  go_wp2
  go_loop [3] (fun i=> ∃ k:Nat,k≤xs.length∧i= .int .i64 k∧smpB (xs.take k)=true) (fun i=>xs.length - (intOf i).toNat)
  case atStart=>exact⟨0,Nat.zero_le _,rfl,by simp[smpB]⟩
  case round=>
   obtain⟨k,hk,rfl,hs⟩:=hrel;have HS:=xN hs;clear hs;by_cases hlt:k<xs.length
   ·obtain⟨b,off,rfl,hb,hcell⟩:=HX.out k xs[k] (gE hlt)
    by_cases hsm:Smp xs[k]
    ·have hd:decide (Smp xs[k])=true:=by simpa using hsm
     go_wp2_with (go_at_call 158;refine(wT _ _).mono ?_;rintro e w' ⟨rfl,rfl⟩)
     go_round
     case rel=>exact⟨k+1,by omega,by go_num,uFz (gE hlt) HS.out hsm⟩
     case measure=>simp[intOf];omega
    ·have hd:decide (Smp xs[k])=false:=by simpa using hsm
     go_wp2_with (go_at_call 158;refine(wT _ _).mono ?_;rintro e w' ⟨rfl,rfl⟩)
     go_ret
     exact⟨by simp[wFz,smpB_no (gE hlt) hsm],rfl⟩
   ·go_wp2
    go_ret
    have:k=xs.length:=by omega
    subst this;have:=HS.out;rw[List.take_length] at this;exact⟨by simp[wFz,h4,this],rfl⟩
 ·go_enter Tryz.func123,Tryz.ntmps123
  go_wp2;go_ret
  exact⟨by simp[wFz];omega,rfl⟩
end
section
open Go.RowKit
theorem xWz:(Tryz.prog.info? 2).map (fun i=>(i.zero,i.size,i.bytes))=some (some (.int .i64 0),1,8):=by kernel_rfl
theorem zDz {w:World} {ops:Array Oper} {rest:List Oper} {o:Oper} {a:Act} {Q:Exit→Act→World→Prop} {n:Int} (hgd:o.guard=none) (s x:Operand)
  (ho:o.op= .call { callee:= .builtin .append,args:= #[s,x],argTypes:= #[26,26] }) {B:Nat} {v:Value} {xs:List Int} (hs:a.eval s=v) (hown:OwI 2 w B v xs)
  (hx:a.eval x= .slice (some ⟨w.heap.size,0,none⟩) 1 1) (hl:xs.length+1≤17592186044416) (hB:B≤w.heap.size)
  (h: ∀ v' w',OwI 2 w' B v' (xs++ [n])→w.grownBy w' v.ownBlock→(∀ k,v'.ownBlock=some k→v.ownBlock=some k∨w.heap.size≤k)→wpList Tryz.prog ops Q rest (a.put o.dst v') w'):
  wpList Tryz.prog ops Q (o :: rest) a (w.alloc (.cells #[.int .i64 n] 2)):=
 app_one hgd s x _ ho B _ _ 1 8 Tryz.underlying26 xWz rfl zM v xs.length _ hs hown hx rfl (by simp[Value.oneCell']) zM zM hB
  fun v' w' h1 h2 h3=>h v' w' (by unfold OwI;simpa using h1) h2 h3
theorem yMy {w:World} {ops:Array Oper} {rest:List Oper} {o:Oper} {a:Act} {Q:Exit→Act→World→Prop} (hgd:o.guard=none) (s x:Operand)
  (ho:o.op= .call { callee:= .builtin .append,args:= #[s,x],argTypes:= #[26,26] }) {B:Nat} {v:Value} {xs:List Int} (hs:a.eval s=v) (hown:OwI 2 w B v xs)
  {y:Value} {ys:List Int} (hx:a.eval x=y) (hr:RdI w y ys) (hl:xs.length+ys.length≤17592186044416) (hB:B≤w.heap.size)
  (h: ∀ v' w',OwI 2 w' B v' (xs++ys)→w.grownBy w' v.ownBlock→(∀ k,v'.ownBlock=some k→v.ownBlock=some k∨w.heap.size≤k)→wpList Tryz.prog ops Q rest (a.put o.dst v') w'):
  wpList Tryz.prog ops Q (o :: rest) a w:=
 app_many hgd s x _ ho B _ _ 1 8 Tryz.underlying26 xWz rfl zM v xs.length _ hs hown y ys.length _ hx hr (ints_oneCell _ _) zM zM hB
  fun v' w' h1 h2 h3=>h v' w' (by unfold OwI;simpa using h1) h2 h3
theorem vL (w:World):OwI 2 (w.alloc (.cells #[] 2)) w.heap.size (.slice (some ⟨w.heap.size,0,none⟩) 0 0) []:=World.ownsRow_made w #[] 0 zJ (by decide) rfl
theorem uG (v:Value) (xs:List Int) (w:World) (hr:RdI w v xs):Calls Tryz.prog 131 #[v] w fun e w'=>e= .returned (.bool (smpB xs))∧w=w':=by
 obtain⟨A,cap,rfl,hl,hc,hx⟩:=hr.open_;have HX:=xN hx;clear hx hr
 go_enter Tryz.func131,Tryz.ntmps131
 go_wp2
 go_loop [7] (fun i=> ∃ k:Nat,k≤xs.length∧i= .int .i64 k∧smpB (xs.take k)=true) (fun i=>xs.length - (intOf i).toNat)
 case atStart=>exact⟨0,Nat.zero_le _,rfl,by simp[smpB]⟩
 case round=>
  obtain⟨k,hk,rfl,hs⟩:=hrel;have HS:=xN hs;clear hs;by_cases hlt:k<xs.length
  ·obtain⟨b,off,rfl,hb,hcell⟩:=HX.out k xs[k] (gE hlt)
   by_cases hsm:Smp xs[k]
   ·have hd:decide (Smp xs[k])=true:=by simpa using hsm
    go_wp2_with (go_at_call 169;refine(ySz _ _).mono ?_;rintro e w' ⟨rfl,rfl⟩)
    go_round
    case rel=>exact⟨k+1,by omega,by go_num,uFz (gE hlt) HS.out hsm⟩
    case measure=>simp[intOf];omega
   ·have hd:decide (Smp xs[k])=false:=by simpa using hsm
    go_wp2_with (go_at_call 169;refine(ySz _ _).mono ?_;rintro e w' ⟨rfl,rfl⟩)
    go_ret
    exact⟨by simp[smpB_no (gE hlt) hsm],rfl⟩
  ·go_wp2
   go_ret
   have:k=xs.length:=by omega
   subst this;have:=HS.out;rw[List.take_length] at this;exact⟨by simp[this],rfl⟩
theorem c_isSignal (v:Value) (xs:List Int) (w:World) (hr:RdI w v xs):Calls Tryz.prog 219 #[v] w fun e w'=>e= .returned (.bool (wFz xs))∧w=w':=by
 obtain⟨A,cap,rfl,hl,hc,hx⟩:=hr.open_;have HX:=xN hx;clear hx;have HR:=xN hr;clear hr;by_cases h4:xs.length≤4000
 all_goals
  go_enter Tryz.func219,Tryz.ntmps219
  go_wp2_with (go_at_call 131;refine(uG _ _ _ HR.out).mono ?_;rintro e w' ⟨rfl,rfl⟩)
  go_ret
  first|exact⟨by simp[wFz,h4],rfl⟩|exact⟨by simp[wFz];omega,rfl⟩
theorem c_toInt64S (v:Value) (xs:List Int) (w:World) (hr:RdI w v xs) (hn:xs.length≤1048576):Calls Tryz.prog 59 #[v] w fun e w'=> ∃ v',e= .returned v'∧OwI 2 w' w.heap.size v' xs∧Below w.heap.size w w':=by
 obtain⟨A,cap,rfl,hl,hc,hx⟩:=hr.open_;have HX:=xN hx;clear hx;have HR:=xN hr;clear hr;obtain⟨i0,hi,hz0,hz1,hz2⟩:=info_parts xWz
 go_enter Tryz.func59,Tryz.ntmps59
 go_wp2_with (at_make;refine wpList_make_full _ rfl _ _ _ rfl w.heap.size 2 i0 _ 1 Tryz.underlying26 hi hz0 hz1 .i64 .i64 _ _ xs.length rfl rfl rfl rfl (by rw[hz2];omega) (by unfold maxLen;omega) zJ ?_;intro w1 hown1 hg1)
 have ho1:OwI 2 w1 w.heap.size _ _:=OwI.made _ w1 (n:=xs.length) hg1.size (by unfold maxLen;omega) 0 hown1;have hb1:Below w.heap.size w w1:=zR.grown hg1 zJ (by simp);clear hown1 hg1;have HO:=xN ho1;have HB:=xN hb1;clear ho1 hb1
 go_loopw [4] (fun i wr=> ∃ k:Nat,k≤xs.length∧i= .int .i64 k∧OwI 2 wr w.heap.size (.slice (some ⟨w.heap.size,0,none⟩) xs.length xs.length) (xs.take k++(List.replicate xs.length 0).drop k)∧Below w.heap.size w wr) (fun i _=>xs.length - (intOf i).toNat)
 case atStart=>exact⟨0,Nat.zero_le _,rfl,by simpa using HO.out,HB.out⟩
 case round=>
  obtain⟨k,hk,rfl,ho,hb⟩:=hrel;have HO:=xN ho;have HB:=xN hb;clear ho hb;by_cases hlt:k<xs.length
  ·obtain⟨b,off,rfl,hbw,hcell⟩:=HX.out k xs[k] (gE hlt)
   have h1:wr.cell? ⟨b,off+k,none⟩=some (.int .i64 xs[k]):=(HB.out.cell hbw).trans hcell;have h2:wr.cell? ⟨w.heap.size,k,none⟩=some (.int .i64 0):=HO.out.yJz (by rw[yJy (by simp) (by simpa using hlt)];simp[hlt]);have h3:=HO.out.freeN k;go_wp2
   go_roundw
   case rel=>exact⟨k+1,by omega,by go_num,by have:=HO.out.setN k xs[k];rw[set_mix (by simp) (gE hlt)] at this;exact this,HB.out.setCell zJ _⟩
   case measure=>simp[intOf];omega
  ·go_wp2
   go_ret
   have:k=xs.length:=by omega
   subst this;exact⟨_,rfl,by have:=HO.out;simpa using this,HB.out⟩
end
section
open Go.RowKit
theorem c_eqInt64S (v1 v2:Value) (xs ys:List Int) (w:World) (hr1:RdI w v1 xs) (hr2:RdI w v2 ys):Calls Tryz.prog 63 #[v1,v2] w fun e w'=>e= .returned (.bool (decide (xs=ys)))∧Dr w w':=by
 obtain⟨A1,cap1,rfl,hl1,hc1,hx1⟩:=hr1.open_;obtain⟨A2,cap2,rfl,hl2,hc2,hx2⟩:=hr2.open_;have HX1:=xN hx1;have HX2:=xN hx2;clear hx1 hx2 hr1 hr2;by_cases hll:xs.length=ys.length
 ·have hb:((xs.length:Int) != (ys.length:Int))=false:=by simp[hll]
  have HL:=xN hll;clear hll
  go_enter Tryz.func63,Tryz.ntmps63
  go_wp2
  go_loopw [5] (fun i wr=> ∃ k:Nat,k≤xs.length∧i= .int .i64 k∧xs.take k=ys.take k∧Dr w wr) (fun i _=>xs.length - (intOf i).toNat)
  case atStart=>exact⟨0,Nat.zero_le _,rfl,rfl,Dr.refl _⟩
  case round=>
   obtain⟨k,hk,rfl,hs,nr,rfl⟩:=hrel;have HS:=xN hs;clear hs;by_cases hlt:k<xs.length
   ·have hlt2:k<ys.length:=by have:=HL.out;omega
    obtain⟨b1,off1,rfl,hb1,hcell1⟩:=HX1.out k xs[k] (gE hlt);obtain⟨b2,off2,rfl,hb2,hcell2⟩:=HX2.out k ys[k] (gE hlt2);by_cases he:xs[k]=ys[k]
    ·have hd:(xs[k] != ys[k])=false:=by simp[he]
     have HE:=xN he;clear he;go_wp2
     go_quiet (fail)
     go_wp2
     go_roundw
     case rel=>exact⟨k+1,by omega,by go_num,wLz HS.out (gE hlt) (by rw[HE.out];exact gE hlt2),(by repeat(first|exact Dr.refl _|exact⟨_,rfl⟩|refine Dr.drewN ?_ _|refine Dr.drew ?_))⟩
     case measure=>simp[intOf];omega
    ·have hd:(xs[k] != ys[k])=true:=by simp[he]
     have HE:=xN he;clear he;go_wp2
     go_quiet (fail)
     go_wp2;go_ret
     exact⟨by simp[ne_at (gE hlt) (gE hlt2) HE.out],(by repeat(first|exact Dr.refl _|exact⟨_,rfl⟩|refine Dr.drewN ?_ _|refine Dr.drew ?_))⟩
   ·go_wp2
    go_ret
    exact⟨by simp[xTz (k:=k) zM HL.out HS.out],(by repeat(first|exact Dr.refl _|exact⟨_,rfl⟩|refine Dr.drewN ?_ _|refine Dr.drew ?_))⟩
 ·have hb:((xs.length:Int) != (ys.length:Int))=true:=by simp;omega
  have hne:xs≠ys:=fun e=>hll (by rw[e])
  have HN:=xN hne;clear hll hne
  go_enter Tryz.func63,Tryz.ntmps63
  go_wp2;go_ret
  exact⟨by simp[HN.out],Dr.refl _⟩
theorem c_markInt64S (E:TypeId) (B:Nat) (v:Value) (xs:List Int) (m:Nat) (w:World) (ho:OwI E w B v xs) (hm:m+xs.length≤4611686018427387904):
  Calls Tryz.prog 79 #[v,.int .i64 m] w fun e w'=>e= .returned (.int .i64 ((m+xs.length:Nat):Int))∧OwI E w' B v (marks m xs.length)∧w.grownBy w' v.ownBlock:=by
 rcases Nat.eq_zero_or_pos xs.length with hz|hz
 ·have hx:xs= []:=List.eq_nil_of_length_eq_zero hz
  subst hx;obtain⟨A,cap,rfl,hl,hc,_⟩:=ho.rd.open_;have HO:=xN ho;clear ho hz;simp only[List.length_nil] at *
  go_enter Tryz.func79,Tryz.ntmps79
  go_wp2;refine wp_loop_rounds 1 ?_;rw[rounds_succ];go_wp2;go_ret
  exact⟨by simp,by simpa[marks] using HO.out,World.grownBy.refl _ _⟩
 ·obtain⟨g,cap,rfl,hl,hg,hgw⟩:=ho.form hz
  have HO:=xN ho;clear ho
  go_enter Tryz.func79,Tryz.ntmps79
  go_wp2
  go_loopw [1,5] (fun t i wr=> ∃ k:Nat,k≤xs.length∧i= .int .i64 k∧t= .int .i64 ((m+k:Nat):Int)∧OwI E wr B (.slice (some ⟨g,0,none⟩) xs.length cap) ((marks m xs.length).take k++xs.drop k)∧w.grownBy wr (some g)) (fun _ i _=>xs.length - (intOf i).toNat)
  case atStart=>exact⟨0,Nat.zero_le _,rfl,rfl,by simpa using HO.out,World.grownBy.refl _ _⟩
  case round=>
   obtain⟨k,hk,rfl,rfl,ho,hb⟩:=hrel;have HO:=xN ho;have HB:=xN hb;clear ho hb;by_cases hlt:k<xs.length
   ·have h2:wr.cell? ⟨g,k,none⟩=some (.int .i64 xs[k]):=HO.out.yJz (by rw[yJy (zOz _ _) hlt];exact gE hlt)
    have h3:=HO.out.freeN k;go_wp2
    go_roundw
    case rel=>exact⟨k+1,by omega,by go_num,by go_num,by have:=HO.out.setN k ((m+k:Nat):Int);rw[set_mix (zOz _ _) (marks_at hlt)] at this;exact this,HB.out.trans (HO.out.grownN k _)⟩
    case measure=>simp[intOf];omega
   ·go_wp2
    go_ret
    have:k=xs.length:=by omega
    subst this;exact⟨rfl,by have:=HO.out;rw[List.take_of_length_le (by simp[zOz]),List.drop_length,List.append_nil] at this;unfold OwI at *;rw[zOz] at *;exact this,HB.out⟩
def heldF (xs:List Int) (m:Nat):Int:=if xs=marks m xs.length then ((m+xs.length:Nat):Int) else -1
theorem c_heldInt64S (v:Value) (xs:List Int) (m:Nat) (w:World) (hr:RdI w v xs) (hm:m+xs.length≤4611686018427387904):
  Calls Tryz.prog 83 #[v,.int .i64 m] w fun e w'=>e= .returned (.int .i64 (heldF xs m))∧w=w':=by
 obtain⟨A,cap,rfl,hl,hc,hx⟩:=hr.open_;have HX:=xN hx;clear hx hr
 go_enter Tryz.func83,Tryz.ntmps83
 go_wp2
 go_loop [1,5] (fun t i=> ∃ k:Nat,k≤xs.length∧i= .int .i64 k∧t= .int .i64 ((m+k:Nat):Int)∧xs.take k=(marks m xs.length).take k) (fun _ i=>xs.length - (intOf i).toNat)
 case atStart=>exact⟨0,Nat.zero_le _,rfl,rfl,rfl⟩
 case round=>
  obtain⟨k,hk,rfl,rfl,hs⟩:=hrel;have HS:=xN hs;clear hs;by_cases hlt:k<xs.length
  ·obtain⟨b,off,rfl,hb,hcell⟩:=HX.out k xs[k] (gE hlt)
   by_cases he:xs[k]=((m+k:Nat):Int)
   ·have hd:(xs[k] != ((m:Int)+(k:Int)))=false:=by rw[he];simp
    have HE:=xN he;clear he;go_wp2
    go_round
    case rel=>exact⟨k+1,by omega,by go_num,by go_num,wLz HS.out (gE hlt) (by rw[HE.out];exact marks_at hlt)⟩
    case measure=>simp[intOf];omega
   ·have hd:(xs[k] != ((m:Int)+(k:Int)))=true:=by simp;omega
    have HE:=xN he;clear he;go_wp2;go_ret
    exact⟨by unfold heldF;rw[if_neg (ne_at (gE hlt) (marks_at hlt) HE.out)];rfl,rfl⟩
  ·go_wp2
   go_ret
   have hk2:k=xs.length:=by omega
   have:=xTz hk2 (zOz _ _).symm HS.out;exact⟨by unfold heldF;rw[if_pos this];simp;omega,rfl⟩
theorem c_eqI (v1 v2:Value) (xs:List Int) (w:World) (hr1:RdI w v1 xs) (hr2:RdI w v2 xs):Calls Tryz.prog 63 #[v1,v2] w fun e w'=>e= .returned (.bool true)∧Dr w w':=
 (c_eqInt64S v1 v2 xs xs w hr1 hr2).mono fun e w' ⟨h1,h2⟩=>⟨by rw[h1];simp,h2⟩
theorem c_heldI (v:Value) (n m:Nat) (w:World) (hr:RdI w v (marks m n)) (hm:m+n≤4611686018427387904):
  Calls Tryz.prog 83 #[v,.int .i64 m] w fun e w'=>e= .returned (.int .i64 ((m+n:Nat):Int))∧w=w':=
 (c_heldInt64S v (marks m n) m w hr (by rw[zOz];exact hm)).mono fun e w' ⟨h1,h2⟩=>⟨by rw[h1,heldF,zOz,if_pos rfl],h2⟩
end
section
open Go.RowKit
theorem yTz (n:Int) (w:World):Calls Tryz.prog 242 #[.int .i64 n] w fun e w'=>e= .returned (.int .i64 (wrp n))∧w=w':=by
 have hs:=zCz n;unfold Smp at hs
 go_enter Tryz.func242,Tryz.ntmps242
 go_wp2;go_ret
 exact⟨wL (by rw[wrp_eq];exact IntWalk.wrap64_in _ zM),rfl⟩
theorem yEz (n:Int) (w:World):Calls Tryz.prog 156 #[.int .i64 n] w fun e w'=>e= .returned (.int .i64 (wrp n))∧w=w':=by
 have ha:=and_32 n;by_cases h:2147483647<n % 4294967296
 ·have HE:=xN (wrp_big n h)
  go_enter Tryz.func156,Tryz.ntmps156
  go_wp2;go_ret
  exact⟨wL HE.out,rfl⟩
 ·have HE:=xN (wrp_small n zM)
  go_enter Tryz.func156,Tryz.ntmps156
  go_wp2;go_ret
  exact⟨wL HE.out,rfl⟩
theorem c_l01Sub (a b:Int) (w:World):Calls Tryz.prog 289 #[.int .i64 a,.int .i64 b] w fun e w'=>e= .returned (.int .i64 (wrp (a - b)))∧w=w':=by
 have h1:=zCz a;have h2:=zCz b;unfold Smp at h1 h2
 go_enter Tryz.func289,Tryz.ntmps289
 go_wp2_with (go_at_call 156;refine(yEz _ _).mono ?_;rintro e w' ⟨rfl,rfl⟩)
 go_ret
 exact⟨wL (wrp_sub a b),rfl⟩
theorem uB (v:Value) (xs:List Int) (w:World) (hr:RdI w v xs) (hn:xs.length≤1048576):Calls Tryz.prog 95 #[v] w fun e w'=> ∃ v',e= .returned v'∧OwI 2 w' w.heap.size v' xs∧Below w.heap.size w w':=by
 have HR:=xN hr;clear hr
 go_enter Tryz.func95,Tryz.ntmps95
 go_wp2_with (at_builtin;refine yMy rfl _ _ rfl rfl (vL w) rfl (Rd.alloc HR.out _) (by simp;omega) (by simp) ?_;intro v1 w1 ho hg hv)
 go_ret
 exact⟨_,rfl,by simpa using ho,vH (zR.alloc zJ _) (vL w) hg zJ (by simp)⟩
theorem yFz (v:Value) (xs:List Int) (w:World) (hr:RdI w v xs) (hn:xs.length≤1048576):Calls Tryz.prog 112 #[v] w fun e w'=> ∃ v',e= .returned v'∧OwI 2 w' w.heap.size v' xs∧Below w.heap.size w w':=by
 have HR:=xN hr;clear hr
 go_enter Tryz.func112,Tryz.ntmps112
 go_wp2_with (at_builtin;refine yMy rfl _ _ rfl rfl (vL w) rfl (Rd.alloc HR.out _) (by simp;omega) (by simp) ?_;intro v1 w1 ho hg hv)
 go_ret
 exact⟨_,rfl,by simpa using ho,vH (zR.alloc zJ _) (vL w) hg zJ (by simp)⟩
end
section
open Go.RowKit
theorem vZ (v:Value) (xs:List Int) (w:World) (hr:RdI w v xs):Calls Tryz.prog 86 #[v] w fun e w'=>e= .returned (.int .i64 (xs.length:Int))∧w=w':=by
 obtain⟨A,cap,rfl,hl,hc,hx⟩:=hr.open_;clear hx hr
 go_enter Tryz.func86,Tryz.ntmps86
 go_wp2;go_ret
 exact⟨rfl,rfl⟩
end
end Go.Proofs.YtoibekfhepnedaaGreat
