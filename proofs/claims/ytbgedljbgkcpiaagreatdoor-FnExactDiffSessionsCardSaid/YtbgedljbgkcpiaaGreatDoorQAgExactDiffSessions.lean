/- Trees of data, field by field; data that a call has made. No program is named here. Nested data: sessions, desks and their parts; how they lie in memory. Arguments that are structs of slices of structs read as nested data. No program is named here. -/
import Derived.Test.YtbgedljbgkcpiaaGreatDoorQAfExactDiffSessions
import Derived.Test.YtbgedljbgkcpiaaGreatDoorRows
import Derived.Test.YtbgedljbgkcpiaaGreatDoorQAdExactDiffSessions
set_option linter.unusedVariables false
set_option linter.unusedSimpArgs false

section
namespace Go.Proofs.YtbgedljbgkcpiaaGreatDoor
open Go.RowKit
section
variable {w w':World} {n:Int} {s:ByteArray} {E:TypeId} {sz:Nat} {xs ys:List T} {cs:List Value} {F:List Nat}
theorem T.rds_nil:T.rds w [] cs↔cs= []:=by simp only[T.rds]
theorem T.rds_num:T.rds w (.num n :: xs) cs↔ ∃ cs',cs= .int .i64 n :: cs'∧T.rds w xs cs':=by
 simp only[T.rds,T.rd]
 constructor
 ·rintro⟨c1,c2,rfl,rfl,h⟩;exact⟨c2,rfl,h⟩
 ·rintro⟨c2,rfl,h⟩;exact⟨_,c2,rfl,rfl,h⟩
theorem T.rds_str:T.rds w (.str s :: xs) cs↔ ∃ cs',cs= .string s :: cs'∧T.rds w xs cs':=by
 simp only[T.rds,T.rd]
 constructor
 ·rintro⟨c1,c2,rfl,rfl,h⟩;exact⟨c2,rfl,h⟩
 ·rintro⟨c2,rfl,h⟩;exact⟨_,c2,rfl,rfl,h⟩
theorem T.rd_one {c:List Value} (h:T.rd w (.sl E sz ys) c): ∃ v,c= [v]:=by
 simp only[T.rd] at h
 obtain⟨v,_,rfl,_⟩:=h
 exact⟨v,rfl⟩
theorem T.rds_sl:T.rds w (.sl E sz ys :: xs) cs↔ ∃ v cs',cs=v :: cs'∧T.rd w (.sl E sz ys) [v]∧T.rds w xs cs':=by
 constructor
 ·intro h
  simp only[T.rds] at h
  obtain⟨c1,c2,rfl,h1,h2⟩:=h
  obtain⟨v,rfl⟩:=T.rd_one h1
  exact⟨v,c2,rfl,h1,h2⟩
 ·rintro⟨v,c2,rfl,h1,h2⟩
  simp only[T.rds]
  exact⟨[v],c2,rfl,h1,h2⟩
theorem T.ows_nil:T.ows w [] F cs↔F= []∧cs= []:=by simp only[T.ows]
theorem T.ows_num:T.ows w (.num n :: xs) F cs↔ ∃ cs',cs= .int .i64 n :: cs'∧T.ows w xs F cs':=by
 simp only[T.ows,T.ow]
 constructor
 ·rintro⟨F1,F2,c1,c2,rfl,rfl,⟨rfl,rfl⟩,h⟩;exact⟨c2,rfl,h⟩
 ·rintro⟨c2,rfl,h⟩;exact⟨[],F,_,c2,rfl,rfl,⟨rfl,rfl⟩,h⟩
theorem T.ows_str:T.ows w (.str s :: xs) F cs↔ ∃ cs',cs= .string s :: cs'∧T.ows w xs F cs':=by
 simp only[T.ows,T.ow]
 constructor
 ·rintro⟨F1,F2,c1,c2,rfl,rfl,⟨rfl,rfl⟩,h⟩;exact⟨c2,rfl,h⟩
 ·rintro⟨c2,rfl,h⟩;exact⟨[],F,_,c2,rfl,rfl,⟨rfl,rfl⟩,h⟩
theorem T.ows_sl:T.ows w (.sl E sz ys :: xs) F cs↔ ∃ v cs' F1 F2,F=F1++F2∧cs=v :: cs'∧T.ow w (.sl E sz ys) F1 [v]∧T.ows w xs F2 cs':=by
 constructor
 ·intro h
  simp only[T.ows] at h
  obtain⟨F1,F2,c1,c2,rfl,rfl,h1,h2⟩:=h
  obtain⟨v,rfl⟩:=T.rd_one (T.ow_rd _ _ _ h1)
  exact⟨v,c2,F1,F2,rfl,rfl,h1,h2⟩
 ·rintro⟨v,c2,F1,F2,rfl,rfl,h1,h2⟩
  simp only[T.ows]
  exact⟨F1,F2,[v],c2,rfl,rfl,h1,h2⟩
theorem T.c_rn (h:T.rds w xs cs):T.rds w (.num n :: xs) (.int .i64 n :: cs):=T.rds_num.2 ⟨_,rfl,h⟩
theorem T.c_rs (h:T.rds w xs cs):T.rds w (.str s :: xs) (.string s :: cs):=T.rds_str.2 ⟨_,rfl,h⟩
theorem T.c_rl {v:Value} (h:T.rd w (.sl E sz ys) [v]) (h2:T.rds w xs cs):T.rds w (.sl E sz ys :: xs) (v :: cs):=T.rds_sl.2 ⟨_,_,rfl,h,h2⟩
theorem T.c_re:T.rds w [] []:=T.rds_nil.2 rfl
theorem T.c_on (h:T.ows w xs F cs):T.ows w (.num n :: xs) F (.int .i64 n :: cs):=T.ows_num.2 ⟨_,rfl,h⟩
theorem T.c_os (h:T.ows w xs F cs):T.ows w (.str s :: xs) F (.string s :: cs):=T.ows_str.2 ⟨_,rfl,h⟩
theorem T.c_ol {v:Value} {F1:List Nat} (h:T.ow w (.sl E sz ys) F1 [v]) (h2:T.ows w xs F cs):T.ows w (.sl E sz ys :: xs) (F1++F) (v :: cs):=T.ows_sl.2 ⟨_,_,_,_,rfl,rfl,h,h2⟩
theorem T.c_oe:T.ows w [] [] []:=T.ows_nil.2 ⟨rfl,rfl⟩
theorem T.ow_far {x:T} {g:Nat} (h:T.ow w x F cs) (hg:g ∉ F) (o:Nat) (u:Value):T.ow (w.setCell ⟨g,o,none⟩ u) x F cs:=
 T.ow_keep x F cs (fun b hb=>Below.heap_setCell w _ u b (fun e=>hg (by rw[←show b=g from e];exact hb))) h
end
theorem nodup_lo {F1 F2:List Nat} {n:Nat} (h1:F1.Nodup) (h2:F2.Nodup) (a: ∀ b ∈ F1,b<n) (c: ∀ b ∈ F2,n≤b):(F1++F2).Nodup:=by
 rw[List.nodup_append]
 exact⟨h1,h2,fun x hx y hy e=>by have:=a x hx;have:=c y hy;omega⟩
/-- Data that lies in new blocks. -/
structure Nw (w w':World) (xs:List T) (F:List Nat) (cs:List Value):Prop where
 ows:T.ows w' xs F cs
 nodup:F.Nodup
 lo: ∀ b ∈ F,w.heap.size≤b
 below:Below w.heap.size w w'
theorem Nw.lt {w w':World} {xs:List T} {F:List Nat} {cs:List Value} (h:Nw w w' xs F cs): ∀ b ∈ F,b<w'.heap.size:=T.ows_lt _ _ _ h.ows
/-- One slice that lies in new blocks. -/
structure Nv (w w':World) (x:T) (F:List Nat) (v:Value):Prop where
 ow:T.ow w' x F [v]
 nodup:F.Nodup
 lo: ∀ b ∈ F,w.heap.size≤b
 below:Below w.heap.size w w'
theorem Nv.lt {w w':World} {x:T} {F:List Nat} {v:Value} (h:Nv w w' x F v): ∀ b ∈ F,b<w'.heap.size:=T.ow_lt _ _ _ h.ow
theorem Nv.ints {w w':World} {E:TypeId} {xs:List Int} {v:Value} (h:OwI E w' w.heap.size v xs) (hb:Below w.heap.size w w'):Nv w w' (T.ints E xs) v.ownBlock.toList v:=by
 refine⟨T.ow_ints.2 ⟨h.more (Nat.zero_le _),rfl⟩,?_,?_,hb⟩
 ·cases v.ownBlock<;>simp
 ·intro b hb;exact(h.lt b (by simpa using hb)).1
def I64 (n:Int):Prop:= -9223372036854775808≤n∧n≤9223372036854775807
def smL {α:Type} (p:α→Prop) (xs:List α):Prop:=xs.length≤1048576∧ ∀ x ∈ xs,p x
theorem all_take {α:Type} {p:α→Prop} {xs:List α} {k:Nat} {x:α} (h: ∀ y ∈ xs.take k,p y) (hk:xs[k]?=some x) (hx:p x): ∀ y ∈ xs.take (k+1),p y:=by
 intro y hy
 rw[take_snoc_of hk] at hy
 rcases List.mem_append.1 hy with hy|hy
 ·exact h y hy
 ·simp at hy;subst hy;exact hx
theorem all_full {α:Type} {p:α→Prop} {xs:List α} (h: ∀ y ∈ xs.take xs.length,p y): ∀ y ∈ xs,p y:=by rwa [List.take_length] at h
end Go.Proofs.YtbgedljbgkcpiaaGreatDoor
end
section
namespace Go.Proofs.YtbgedljbgkcpiaaGreatDoor
open Go.RowKit
structure GClip where
 zS:Int
 zG:Int
 zE:Int
 yB:Int
 zQ:Int
deriving DecidableEq
def GClip.fs (x:GClip):List T:= [.num x.zS,.num x.zG,.num x.zE,.num x.yB,.num x.zQ]
def GClip.t (x:GClip):T:= .st x.fs
theorem GClip.wide_t (x:GClip):T.wide x.t=5:=by simp[GClip.t,GClip.fs,T.wide,T.wides]
def GClip.good (x:GClip):Prop:=I64 x.zS∧I64 x.zG∧I64 x.zE∧I64 x.yB∧I64 x.zQ
theorem GClip.yM {w:World} {x:GClip} {cs:List Value} (h:T.rds w x.fs cs):cs= [.int .i64 x.zS,.int .i64 x.zG,.int .i64 x.zE,.int .i64 x.yB,.int .i64 x.zQ]:=by
 simp only[GClip.fs,T.rds_num,T.rds_str,T.rds_sl,T.rds_nil] at h
 obtain⟨_,rfl,_,rfl,_,rfl,_,rfl,_,rfl,rfl⟩:=h
 exact rfl
theorem GClip.rd_mk {w:World} {x:GClip} :T.rds w x.fs [.int .i64 x.zS,.int .i64 x.zG,.int .i64 x.zE,.int .i64 x.yB,.int .i64 x.zQ]:=by
 unfold GClip.fs;exact T.c_rn (T.c_rn (T.c_rn (T.c_rn (T.c_rn (T.c_re)))))
theorem GClip.ow_mk {w:World} {x:GClip} :T.ows w x.fs [] [.int .i64 x.zS,.int .i64 x.zG,.int .i64 x.zE,.int .i64 x.yB,.int .i64 x.zQ]:=by
 unfold GClip.fs;exact T.c_on (T.c_on (T.c_on (T.c_on (T.c_on (T.c_oe)))))
structure GTrack where
 zR:List GClip
deriving DecidableEq
def GTrack.fs (x:GTrack):List T:= [T.sl 107 5 (x.zR.map GClip.t)]
def GTrack.t (x:GTrack):T:= .st x.fs
theorem GTrack.wide_t (x:GTrack):T.wide x.t=1:=by simp[GTrack.t,GTrack.fs,T.wide,T.wides]
def GTrack.good (x:GTrack):Prop:=(∀ y ∈ x.zR,GClip.good y)
def GTrack.small (x:GTrack):Prop:=x.zR.length≤1048576
theorem GTrack.yM {w:World} {x:GTrack} {cs:List Value} (h:T.rds w x.fs cs): ∃ v0,cs= [v0]∧T.rd w (T.sl 107 5 (x.zR.map GClip.t)) [v0]:=by
 simp only[GTrack.fs,T.rds_num,T.rds_str,T.rds_sl,T.rds_nil] at h
 obtain⟨v0,_,rfl,h0,rfl⟩:=h
 exact⟨v0,rfl,h0⟩
theorem GTrack.rd_mk {w:World} {x:GTrack} {v0:Value} (h0:T.rd w (T.sl 107 5 (x.zR.map GClip.t)) [v0]):T.rds w x.fs [v0]:=by
 unfold GTrack.fs;exact T.c_rl h0 (T.c_re)
theorem GTrack.ow_open {w:World} {x:GTrack} {F:List Nat} {cs:List Value} (h:T.ows w x.fs F cs): ∃ v0 F0,cs= [v0]∧F=F0++ []∧T.ow w (T.sl 107 5 (x.zR.map GClip.t)) F0 [v0]:=by
 simp only[GTrack.fs,T.ows_num,T.ows_str,T.ows_sl,T.ows_nil] at h
 obtain⟨v0,_,F0,_,rfl,rfl,h0,rfl,rfl⟩:=h
 exact⟨v0,F0,rfl,rfl,h0⟩
theorem GTrack.ow_mk {w:World} {x:GTrack} {v0:Value} {F0:List Nat} (h0:T.ow w (T.sl 107 5 (x.zR.map GClip.t)) F0 [v0]):T.ows w x.fs (F0++ []) [v0]:=by
 unfold GTrack.fs;exact T.c_ol h0 (T.c_oe)
structure GSend where
 yC:Int
 zQ:Int
deriving DecidableEq
def GSend.fs (x:GSend):List T:= [.num x.yC,.num x.zQ]
def GSend.t (x:GSend):T:= .st x.fs
theorem GSend.wide_t (x:GSend):T.wide x.t=2:=by simp[GSend.t,GSend.fs,T.wide,T.wides]
def GSend.good (x:GSend):Prop:=I64 x.yC∧I64 x.zQ
theorem GSend.yM {w:World} {x:GSend} {cs:List Value} (h:T.rds w x.fs cs):cs= [.int .i64 x.yC,.int .i64 x.zQ]:=by
 simp only[GSend.fs,T.rds_num,T.rds_str,T.rds_sl,T.rds_nil] at h
 obtain⟨_,rfl,_,rfl,rfl⟩:=h
 exact rfl
theorem GSend.ow_mk {w:World} {x:GSend} :T.ows w x.fs [] [.int .i64 x.yC,.int .i64 x.zQ]:=by
 unfold GSend.fs;exact T.c_on (T.c_on (T.c_oe))
structure GStrip where
 zV:ByteArray
 zT:Int
 yA:List GSend
deriving DecidableEq
def GStrip.fs (x:GStrip):List T:= [.str x.zV,.num x.zT,T.sl 156 2 (x.yA.map GSend.t)]
def GStrip.t (x:GStrip):T:= .st x.fs
theorem GStrip.wide_t (x:GStrip):T.wide x.t=3:=by simp[GStrip.t,GStrip.fs,T.wide,T.wides]
def GStrip.good (x:GStrip):Prop:=x.zV.size≤9223372036854775807∧I64 x.zT∧(∀ y ∈ x.yA,GSend.good y)
def GStrip.small (x:GStrip):Prop:=x.zV.size≤1048576∧x.yA.length≤1048576
theorem GStrip.yM {w:World} {x:GStrip} {cs:List Value} (h:T.rds w x.fs cs): ∃ v2,cs= [.string x.zV,.int .i64 x.zT,v2]∧T.rd w (T.sl 156 2 (x.yA.map GSend.t)) [v2]:=by
 simp only[GStrip.fs,T.rds_num,T.rds_str,T.rds_sl,T.rds_nil] at h
 obtain⟨_,rfl,_,rfl,v2,_,rfl,h2,rfl⟩:=h
 exact⟨v2,rfl,h2⟩
theorem GStrip.ow_open {w:World} {x:GStrip} {F:List Nat} {cs:List Value} (h:T.ows w x.fs F cs): ∃ v2 F2,cs= [.string x.zV,.int .i64 x.zT,v2]∧F=F2++ []∧T.ow w (T.sl 156 2 (x.yA.map GSend.t)) F2 [v2]:=by
 simp only[GStrip.fs,T.ows_num,T.ows_str,T.ows_sl,T.ows_nil] at h
 obtain⟨_,rfl,_,rfl,v2,_,F2,_,rfl,rfl,h2,rfl,rfl⟩:=h
 exact⟨v2,F2,rfl,rfl,h2⟩
theorem GStrip.ow_mk {w:World} {x:GStrip} {v2:Value} {F2:List Nat} (h2:T.ow w (T.sl 156 2 (x.yA.map GSend.t)) F2 [v2]):T.ows w x.fs (F2++ []) [.string x.zV,.int .i64 x.zT,v2]:=by
 unfold GStrip.fs;exact T.c_os (T.c_on (T.c_ol h2 (T.c_oe)))
structure GMixer where
 zH:List GStrip
deriving DecidableEq
def GMixer.fs (x:GMixer):List T:= [T.sl 117 3 (x.zH.map GStrip.t)]
def GMixer.good (x:GMixer):Prop:=(∀ y ∈ x.zH,GStrip.good y)
def GMixer.small (x:GMixer):Prop:=smL GStrip.small x.zH
theorem GMixer.yM {w:World} {x:GMixer} {cs:List Value} (h:T.rds w x.fs cs): ∃ v0,cs= [v0]∧T.rd w (T.sl 117 3 (x.zH.map GStrip.t)) [v0]:=by
 simp only[GMixer.fs,T.rds_num,T.rds_str,T.rds_sl,T.rds_nil] at h
 obtain⟨v0,_,rfl,h0,rfl⟩:=h
 exact⟨v0,rfl,h0⟩
theorem GMixer.rd_mk {w:World} {x:GMixer} {v0:Value} (h0:T.rd w (T.sl 117 3 (x.zH.map GStrip.t)) [v0]):T.rds w x.fs [v0]:=by
 unfold GMixer.fs;exact T.c_rl h0 (T.c_re)
structure GNode where
 zC:Int
 fA:Int
 fB:Int
 zG:List Int
deriving DecidableEq
def GNode.fs (x:GNode):List T:= [.num x.zC,.num x.fA,.num x.fB,T.ints 2 x.zG]
def GNode.t (x:GNode):T:= .st x.fs
theorem GNode.wide_t (x:GNode):T.wide x.t=4:=by simp[GNode.t,GNode.fs,T.wide,T.wides]
def GNode.good (x:GNode):Prop:=I64 x.zC∧I64 x.fA∧I64 x.fB∧(∀ y ∈ x.zG,I64 y)
def GNode.small (x:GNode):Prop:=x.zG.length≤1048576
theorem GNode.yM {w:World} {x:GNode} {cs:List Value} (h:T.rds w x.fs cs): ∃ v3,cs= [.int .i64 x.zC,.int .i64 x.fA,.int .i64 x.fB,v3]∧T.rd w (T.ints 2 x.zG) [v3]:=by
 simp only[GNode.fs,T.rds_num,T.rds_str,T.rds_sl,T.rds_nil] at h
 obtain⟨_,rfl,_,rfl,_,rfl,v3,_,rfl,h3,rfl⟩:=h
 exact⟨v3,rfl,h3⟩
theorem GNode.rd_mk {w:World} {x:GNode} {v3:Value} (h3:T.rd w (T.ints 2 x.zG) [v3]):T.rds w x.fs [.int .i64 x.zC,.int .i64 x.fA,.int .i64 x.fB,v3]:=by
 unfold GNode.fs;exact T.c_rn (T.c_rn (T.c_rn (T.c_rl h3 (T.c_re))))
theorem GNode.ow_open {w:World} {x:GNode} {F:List Nat} {cs:List Value} (h:T.ows w x.fs F cs): ∃ v3 F3,cs= [.int .i64 x.zC,.int .i64 x.fA,.int .i64 x.fB,v3]∧F=F3++ []∧T.ow w (T.ints 2 x.zG) F3 [v3]:=by
 simp only[GNode.fs,T.ows_num,T.ows_str,T.ows_sl,T.ows_nil] at h
 obtain⟨_,rfl,_,rfl,_,rfl,v3,_,F3,_,rfl,rfl,h3,rfl,rfl⟩:=h
 exact⟨v3,F3,rfl,rfl,h3⟩
theorem GNode.ow_mk {w:World} {x:GNode} {v3:Value} {F3:List Nat} (h3:T.ow w (T.ints 2 x.zG) F3 [v3]):T.ows w x.fs (F3++ []) [.int .i64 x.zC,.int .i64 x.fA,.int .i64 x.fB,v3]:=by
 unfold GNode.fs;exact T.c_on (T.c_on (T.c_on (T.c_ol h3 (T.c_oe))))
structure GPatch where
 zJ:Int
 zN:List (List Int)
 zD:List GNode
 zK:List Int
deriving DecidableEq
def GPatch.fs (x:GPatch):List T:= [.num x.zJ,T.sl 24 1 (x.zN.map (T.ints 2)),T.sl 160 4 (x.zD.map GNode.t),T.ints 2 x.zK]
def GPatch.t (x:GPatch):T:= .st x.fs
theorem GPatch.wide_t (x:GPatch):T.wide x.t=4:=by simp[GPatch.t,GPatch.fs,T.wide,T.wides]
def GPatch.good (x:GPatch):Prop:=I64 x.zJ∧(∀ l ∈ x.zN,∀ y ∈ l,I64 y)∧(∀ y ∈ x.zD,GNode.good y)∧(∀ y ∈ x.zK,I64 y)
def GPatch.small (x:GPatch):Prop:=smL (fun l:List Int=>l.length≤1048576) x.zN∧smL GNode.small x.zD∧x.zK.length≤1048576
theorem GPatch.yM {w:World} {x:GPatch} {cs:List Value} (h:T.rds w x.fs cs): ∃ v1 v2 v3,cs= [.int .i64 x.zJ,v1,v2,v3]∧T.rd w (T.sl 24 1 (x.zN.map (T.ints 2))) [v1]∧T.rd w (T.sl 160 4 (x.zD.map GNode.t)) [v2]∧T.rd w (T.ints 2 x.zK) [v3]:=by
 simp only[GPatch.fs,T.rds_num,T.rds_str,T.rds_sl,T.rds_nil] at h
 obtain⟨_,rfl,v1,_,rfl,h1,v2,_,rfl,h2,v3,_,rfl,h3,rfl⟩:=h
 exact⟨v1,v2,v3,rfl,h1,h2,h3⟩
theorem GPatch.rd_mk {w:World} {x:GPatch} {v1:Value} {v2:Value} {v3:Value} (h1:T.rd w (T.sl 24 1 (x.zN.map (T.ints 2))) [v1]) (h2:T.rd w (T.sl 160 4 (x.zD.map GNode.t)) [v2]) (h3:T.rd w (T.ints 2 x.zK) [v3]):T.rds w x.fs [.int .i64 x.zJ,v1,v2,v3]:=by
 unfold GPatch.fs;exact T.c_rn (T.c_rl h1 (T.c_rl h2 (T.c_rl h3 (T.c_re))))
theorem GPatch.ow_open {w:World} {x:GPatch} {F:List Nat} {cs:List Value} (h:T.ows w x.fs F cs): ∃ v1 v2 v3 F1 F2 F3,cs= [.int .i64 x.zJ,v1,v2,v3]∧F=F1++(F2++(F3++ []))∧T.ow w (T.sl 24 1 (x.zN.map (T.ints 2))) F1 [v1]∧T.ow w (T.sl 160 4 (x.zD.map GNode.t)) F2 [v2]∧T.ow w (T.ints 2 x.zK) F3 [v3]:=by
 simp only[GPatch.fs,T.ows_num,T.ows_str,T.ows_sl,T.ows_nil] at h
 obtain⟨_,rfl,v1,_,F1,_,rfl,rfl,h1,v2,_,F2,_,rfl,rfl,h2,v3,_,F3,_,rfl,rfl,h3,rfl,rfl⟩:=h
 exact⟨v1,v2,v3,F1,F2,F3,rfl,rfl,h1,h2,h3⟩
theorem GPatch.ow_mk {w:World} {x:GPatch} {v1:Value} {F1:List Nat} {v2:Value} {F2:List Nat} {v3:Value} {F3:List Nat} (h1:T.ow w (T.sl 24 1 (x.zN.map (T.ints 2))) F1 [v1]) (h2:T.ow w (T.sl 160 4 (x.zD.map GNode.t)) F2 [v2]) (h3:T.ow w (T.ints 2 x.zK) F3 [v3]):T.ows w x.fs (F1++(F2++(F3++ []))) [.int .i64 x.zJ,v1,v2,v3]:=by
 unfold GPatch.fs;exact T.c_on (T.c_ol h1 (T.c_ol h2 (T.c_ol h3 (T.c_oe))))
structure GSession where
 zE:Int
 zM:List (List Int)
 zO:List GTrack
 zU:List Int
 zP:List GPatch
 zW:GMixer
deriving DecidableEq
def GSession.fs (x:GSession):List T:= [.num x.zE,T.sl 24 1 (x.zM.map (T.ints 2)),T.sl 98 1 (x.zO.map GTrack.t),T.ints 2 x.zU,T.sl 102 4 (x.zP.map GPatch.t),T.sl 117 3 (x.zW.zH.map GStrip.t)]
def GSession.good (x:GSession):Prop:=I64 x.zE∧(∀ l ∈ x.zM,∀ y ∈ l,I64 y)∧(∀ y ∈ x.zO,GTrack.good y)∧(∀ y ∈ x.zU,I64 y)∧(∀ y ∈ x.zP,GPatch.good y)∧(∀ y ∈ x.zW.zH,GStrip.good y)
def GSession.small (x:GSession):Prop:=smL (fun l:List Int=>l.length≤1048576) x.zM∧smL GTrack.small x.zO∧x.zU.length≤1048576∧smL GPatch.small x.zP∧smL GStrip.small x.zW.zH
theorem GSession.yM {w:World} {x:GSession} {cs:List Value} (h:T.rds w x.fs cs): ∃ v1 v2 v3 v4 v5,cs= [.int .i64 x.zE,v1,v2,v3,v4,v5]∧T.rd w (T.sl 24 1 (x.zM.map (T.ints 2))) [v1]∧T.rd w (T.sl 98 1 (x.zO.map GTrack.t)) [v2]∧T.rd w (T.ints 2 x.zU) [v3]∧T.rd w (T.sl 102 4 (x.zP.map GPatch.t)) [v4]∧T.rd w (T.sl 117 3 (x.zW.zH.map GStrip.t)) [v5]:=by
 simp only[GSession.fs,T.rds_num,T.rds_str,T.rds_sl,T.rds_nil] at h
 obtain⟨_,rfl,v1,_,rfl,h1,v2,_,rfl,h2,v3,_,rfl,h3,v4,_,rfl,h4,v5,_,rfl,h5,rfl⟩:=h
 exact⟨v1,v2,v3,v4,v5,rfl,h1,h2,h3,h4,h5⟩
theorem GSession.rd_mk {w:World} {x:GSession} {v1:Value} {v2:Value} {v3:Value} {v4:Value} {v5:Value} (h1:T.rd w (T.sl 24 1 (x.zM.map (T.ints 2))) [v1]) (h2:T.rd w (T.sl 98 1 (x.zO.map GTrack.t)) [v2]) (h3:T.rd w (T.ints 2 x.zU) [v3]) (h4:T.rd w (T.sl 102 4 (x.zP.map GPatch.t)) [v4]) (h5:T.rd w (T.sl 117 3 (x.zW.zH.map GStrip.t)) [v5]):T.rds w x.fs [.int .i64 x.zE,v1,v2,v3,v4,v5]:=by
 unfold GSession.fs;exact T.c_rn (T.c_rl h1 (T.c_rl h2 (T.c_rl h3 (T.c_rl h4 (T.c_rl h5 (T.c_re))))))
theorem GSession.ow_open {w:World} {x:GSession} {F:List Nat} {cs:List Value} (h:T.ows w x.fs F cs): ∃ v1 v2 v3 v4 v5 F1 F2 F3 F4 F5,cs= [.int .i64 x.zE,v1,v2,v3,v4,v5]∧F=F1++(F2++(F3++(F4++(F5++ []))))∧T.ow w (T.sl 24 1 (x.zM.map (T.ints 2))) F1 [v1]∧T.ow w (T.sl 98 1 (x.zO.map GTrack.t)) F2 [v2]∧T.ow w (T.ints 2 x.zU) F3 [v3]∧T.ow w (T.sl 102 4 (x.zP.map GPatch.t)) F4 [v4]∧T.ow w (T.sl 117 3 (x.zW.zH.map GStrip.t)) F5 [v5]:=by
 simp only[GSession.fs,T.ows_num,T.ows_str,T.ows_sl,T.ows_nil] at h
 obtain⟨_,rfl,v1,_,F1,_,rfl,rfl,h1,v2,_,F2,_,rfl,rfl,h2,v3,_,F3,_,rfl,rfl,h3,v4,_,F4,_,rfl,rfl,h4,v5,_,F5,_,rfl,rfl,h5,rfl,rfl⟩:=h
 exact⟨v1,v2,v3,v4,v5,F1,F2,F3,F4,F5,rfl,rfl,h1,h2,h3,h4,h5⟩
theorem GSession.ow_mk {w:World} {x:GSession} {v1:Value} {F1:List Nat} {v2:Value} {F2:List Nat} {v3:Value} {F3:List Nat} {v4:Value} {F4:List Nat} {v5:Value} {F5:List Nat} (h1:T.ow w (T.sl 24 1 (x.zM.map (T.ints 2))) F1 [v1]) (h2:T.ow w (T.sl 98 1 (x.zO.map GTrack.t)) F2 [v2]) (h3:T.ow w (T.ints 2 x.zU) F3 [v3]) (h4:T.ow w (T.sl 102 4 (x.zP.map GPatch.t)) F4 [v4]) (h5:T.ow w (T.sl 117 3 (x.zW.zH.map GStrip.t)) F5 [v5]):T.ows w x.fs (F1++(F2++(F3++(F4++(F5++ []))))) [.int .i64 x.zE,v1,v2,v3,v4,v5]:=by
 unfold GSession.fs;exact T.c_on (T.c_ol h1 (T.c_ol h2 (T.c_ol h3 (T.c_ol h4 (T.c_ol h5 (T.c_oe))))))
end Go.Proofs.YtbgedljbgkcpiaaGreatDoor
end
section
namespace Go.Proofs.YtbgedljbgkcpiaaGreatDoor
open Go.RowKit Go.ChangeShapes Go.WideShapes Go.Deep
theorem rds_range {w:World} (tr:Nat→T) (g:Nat→List Value): ∀ (l:List Nat),(∀ i ∈ l,T.rd w (tr i) (g i))→T.rds w (l.map tr) (l.flatMap g)
 | [],_=>T.c_re
 |i :: l,h=>by
  simp only[List.map_cons,List.flatMap_cons,T.rds]
  exact⟨_,_,rfl,h i (by simp),rds_range tr g l (fun j hj=>h j (by simp[hj]))⟩
theorem rdT_open {α H:Type} {enc:TypeId × Value→H} {P:Program} {w:World} {base:Nat} {spare:Nat→Bool} {held:Bool} {t e:TypeId} {fuel:Nat} {cs:List Value} {x:DataW H × List MemPlace} (E:TypeId)
  (tr:α→T) {sz:Nat} (good:α→Prop) (hw: ∀ x,T.wide (tr x)=sz) (hs:0<sz) (dflt:α) (ht:P.underlying t=some (.slice e)) (ce:P.cellsOf e=sz)
  (hel: ∀ n cs' y,DataW.trod enc P w base spare held n e cs'=some y→ ∃ z,T.rd w (tr z) cs'∧good z)
  (h:DataW.trod enc P w base spare held fuel t cs=some x): ∃ (v:Value) (xs:List α),cs= [v]∧T.rd w (.sl E sz (xs.map tr)) [v]∧ ∀ z ∈ xs,good z:=by
 rcases open_slice ht h with ⟨rfl,_⟩|⟨a,len,cap,m,n,D,Pl,rfl,hb,hl,hm,hmm,_,hx⟩
 ·refine⟨_,[],rfl,?_,by simp⟩
  simp only[T.rd,List.map_nil]
  exact⟨_,[],rfl,by simp,Rd.nil_ w sz,by simp[T.rds]⟩
 ·have hlm:len≤m:=by rw[hmm];split<;>omega
  have each: ∀ i,i<len→ ∃ z:α × List Value,z.2.length=sz∧T.rd w (tr z.1) z.2∧good z.1∧ ∀ j,j<sz→w.cell? (a.add (i * sz+j))=z.2[j]?:=by
   intro i hi
   obtain⟨cs',h1,h2⟩:=hx i (by omega)
   rw[ce] at h1
   obtain⟨_,hlen,hcell⟩:=World.cells?_some h1
   obtain⟨z,hz,hg⟩:=hel _ _ _ h2
   refine⟨(z,cs'),hlen,hz,hg,fun j hj=>?_⟩
   rw[←hcell j hj,add_add]
  obtain⟨f,hf⟩:= @choose_lt (α × List Value) ⟨(dflt,[])⟩ len _ each
  let g:Nat→List Value:=fun i=>if i<len then (f i).2 else List.replicate sz (.bool true)
  have hgl: ∀ i,(g i).length=sz:=fun i=>by
   show (if i<len then (f i).2 else _).length=sz
   split
   ·next hi=>exact(hf i hi).1
   ·simp
  have hgi: ∀ i,i<len→g i=(f i).2:=fun i hi=>if_pos hi
  refine⟨_,(List.range len).map fun i=>(f i).1,rfl,?_,?_⟩
  ·simp only[T.rd]
   refine⟨_,(List.range len).flatMap g,rfl,?_,?_,?_⟩
   ·intro y hy
    obtain⟨z,_,rfl⟩:=List.mem_map.1 hy
    exact hw z
   ·have hlen:(((List.range len).map fun i=>(f i).1).map tr).length=len:=by simp
    rw[hlen]
    refine⟨by rw[flat_len hgl];simp,some a,cap,rfl,hl,by unfold maxLen at hm;omega,fun hn=>?_⟩
    have hc0:=(hf 0 hn).2.2.2 0 hs
    rw[List.getElem?_eq_getElem (by rw[(hf 0 hn).1];exact hs)] at hc0
    have hz:a.add (0 * sz+0)=a:=by simp[Addr.add]
    rw[hz] at hc0
    have hsp:a.spot=none:=by
     unfold World.cell? at hc0
     split at hc0
     ·split at hc0
      ·cases hc0
      ·rename_i h';simpa using h'
     ·cases hc0
    obtain⟨b,off,sp⟩:=a
    simp only at hsp
    subst hsp
    refine⟨b,off,rfl,World.block_lt_of_cell? w _ hc0,fun j u hu=>?_⟩
    have hj:j<len * sz:=by have:=(List.getElem?_eq_some_iff.1 hu).1;rw[flat_len hgl] at this;simpa using this
    have hk:j / sz<len:=(Nat.div_lt_iff_lt_mul hs).2 hj
    have hjm:j % sz<sz:=Nat.mod_lt _ hs
    have ej:j / sz * sz+j % sz=j:=by have:=Nat.div_add_mod j sz;rw[Nat.mul_comm] at this;exact this
    have h1:=(hf (j / sz) hk).2.2.2 (j % sz) hjm
    have hin:(g (j / sz))[j % sz]?=some ((g (j / sz))[j % sz]'(by rw[hgl];exact hjm)):=List.getElem?_eq_getElem _
    have h3:=flat_at hgl (xs:=List.range len) (k:=j / sz) (j:=j % sz) (x:=j / sz) (by simp[hk]) hin
    rw[ej,hu] at h3
    rw[ej,←hgi _ hk,hin,←h3] at h1
    rw[show (⟨b,off+j,none⟩:Addr)=(⟨b,off,none⟩:Addr).add j by unfold Addr.add;split<;>simp_all]
    exact h1
   ·have:=rds_range (w:=w) (fun i=>tr (f i).1) g (List.range len) (fun i hi=>by
     have hi':=List.mem_range.1 hi
     rw[hgi i hi'];exact(hf i hi').2.1)
    rw[List.map_map]
    exact this
  ·intro z hz
   simp only[List.mem_map,List.mem_range] at hz
   obtain⟨i,hi,rfl⟩:=hz
   exact(hf i hi).2.2.1
end Go.Proofs.YtbgedljbgkcpiaaGreatDoor
end
