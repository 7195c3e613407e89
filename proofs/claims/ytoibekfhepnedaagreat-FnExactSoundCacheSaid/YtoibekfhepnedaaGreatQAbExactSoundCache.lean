/- Trees of data, field by field; data that a call has made. No program is named here. Nested data: sessions, desks and their parts; how they lie in memory. Arguments: a slice of structs that came in reads as a list. No program is named here. Arguments that are structs of slices of structs read as nested data. No program is named here. -/
import Derived.Test.YtoibekfhepnedaaGreatQAaExactSoundCache
import Derived.Test.YtoibekfhepnedaaGreatRows
import Derived.Deep.Slices
import Derived.ChangeSame
import Derived.ChangeArms
set_option linter.unusedVariables false
set_option linter.unusedSimpArgs false

section
namespace Go.Proofs.YtoibekfhepnedaaGreat
open Go.RowKit
section
variable {w w':World} {n:Int} {s:ByteArray} {E:TypeId} {sz:Nat} {xs ys:List T} {cs:List Value} {F:List Nat}
theorem T.rds_nil:T.rds w [] cs↔cs= []:=by simp only[T.rds]
theorem T.rds_num:T.rds w (.num n :: xs) cs↔ ∃ cs',cs= .int .i64 n :: cs'∧T.rds w xs cs':=by
 simp only[T.rds,T.rd]
 constructor
 ·rintro⟨c1,c2,rfl,rfl,h⟩;exact⟨c2,rfl,h⟩
 ·rintro⟨c2,rfl,h⟩;exact⟨_,c2,rfl,rfl,h⟩
theorem T.rds_str:T.rds w (.str s :: xs) cs↔ ∃ cs',cs= .string s :: cs'∧T.rds w xs cs':=by
 simp only[T.rds,T.rd]
 constructor
 ·rintro⟨c1,c2,rfl,rfl,h⟩;exact⟨c2,rfl,h⟩
 ·rintro⟨c2,rfl,h⟩;exact⟨_,c2,rfl,rfl,h⟩
theorem T.rd_one {c:List Value} (h:T.rd w (.sl E sz ys) c): ∃ v,c= [v]:=by
 simp only[T.rd] at h
 obtain⟨v,_,rfl,_⟩:=h
 exact⟨v,rfl⟩
theorem T.rds_sl:T.rds w (.sl E sz ys :: xs) cs↔ ∃ v cs',cs=v :: cs'∧T.rd w (.sl E sz ys) [v]∧T.rds w xs cs':=by
 constructor
 ·intro h
  simp only[T.rds] at h
  obtain⟨c1,c2,rfl,h1,h2⟩:=h
  obtain⟨v,rfl⟩:=T.rd_one h1
  exact⟨v,c2,rfl,h1,h2⟩
 ·rintro⟨v,c2,rfl,h1,h2⟩
  simp only[T.rds]
  exact⟨[v],c2,rfl,h1,h2⟩
theorem T.ows_nil:T.ows w [] F cs↔F= []∧cs= []:=by simp only[T.ows]
theorem T.ows_num:T.ows w (.num n :: xs) F cs↔ ∃ cs',cs= .int .i64 n :: cs'∧T.ows w xs F cs':=by
 simp only[T.ows,T.ow]
 constructor
 ·rintro⟨F1,F2,c1,c2,rfl,rfl,⟨rfl,rfl⟩,h⟩;exact⟨c2,rfl,h⟩
 ·rintro⟨c2,rfl,h⟩;exact⟨[],F,_,c2,rfl,rfl,⟨rfl,rfl⟩,h⟩
theorem T.ows_str:T.ows w (.str s :: xs) F cs↔ ∃ cs',cs= .string s :: cs'∧T.ows w xs F cs':=by
 simp only[T.ows,T.ow]
 constructor
 ·rintro⟨F1,F2,c1,c2,rfl,rfl,⟨rfl,rfl⟩,h⟩;exact⟨c2,rfl,h⟩
 ·rintro⟨c2,rfl,h⟩;exact⟨[],F,_,c2,rfl,rfl,⟨rfl,rfl⟩,h⟩
theorem T.ows_sl:T.ows w (.sl E sz ys :: xs) F cs↔ ∃ v cs' F1 F2,F=F1++F2∧cs=v :: cs'∧T.ow w (.sl E sz ys) F1 [v]∧T.ows w xs F2 cs':=by
 constructor
 ·intro h
  simp only[T.ows] at h
  obtain⟨F1,F2,c1,c2,rfl,rfl,h1,h2⟩:=h
  obtain⟨v,rfl⟩:=T.rd_one (T.ow_rd _ _ _ h1)
  exact⟨v,c2,F1,F2,rfl,rfl,h1,h2⟩
 ·rintro⟨v,c2,F1,F2,rfl,rfl,h1,h2⟩
  simp only[T.ows]
  exact⟨F1,F2,[v],c2,rfl,rfl,h1,h2⟩
theorem T.c_rn (h:T.rds w xs cs):T.rds w (.num n :: xs) (.int .i64 n :: cs):=T.rds_num.2 ⟨_,rfl,h⟩
theorem T.c_rs (h:T.rds w xs cs):T.rds w (.str s :: xs) (.string s :: cs):=T.rds_str.2 ⟨_,rfl,h⟩
theorem T.c_rl {v:Value} (h:T.rd w (.sl E sz ys) [v]) (h2:T.rds w xs cs):T.rds w (.sl E sz ys :: xs) (v :: cs):=T.rds_sl.2 ⟨_,_,rfl,h,h2⟩
theorem T.c_re:T.rds w [] []:=T.rds_nil.2 rfl
theorem T.c_on (h:T.ows w xs F cs):T.ows w (.num n :: xs) F (.int .i64 n :: cs):=T.ows_num.2 ⟨_,rfl,h⟩
theorem T.c_os (h:T.ows w xs F cs):T.ows w (.str s :: xs) F (.string s :: cs):=T.ows_str.2 ⟨_,rfl,h⟩
theorem T.c_ol {v:Value} {F1:List Nat} (h:T.ow w (.sl E sz ys) F1 [v]) (h2:T.ows w xs F cs):T.ows w (.sl E sz ys :: xs) (F1++F) (v :: cs):=T.ows_sl.2 ⟨_,_,_,_,rfl,rfl,h,h2⟩
theorem T.c_oe:T.ows w [] [] []:=T.ows_nil.2 ⟨rfl,rfl⟩
theorem T.ow_far {x:T} {g:Nat} (h:T.ow w x F cs) (hg:g ∉ F) (o:Nat) (u:Value):T.ow (w.setCell ⟨g,o,none⟩ u) x F cs:=
 T.ow_keep x F cs (fun b hb=>Below.heap_setCell w _ u b (fun e=>hg (by rw[←show b=g from e];exact hb))) h
end
theorem nodup_lo {F1 F2:List Nat} {n:Nat} (h1:F1.Nodup) (h2:F2.Nodup) (a: ∀ b ∈ F1,b<n) (c: ∀ b ∈ F2,n≤b):(F1++F2).Nodup:=by
 rw[List.nodup_append]
 exact⟨h1,h2,fun x hx y hy e=>by have:=a x hx;have:=c y hy;omega⟩
/-- One slice that lies in new blocks. -/
structure Nv (w w':World) (x:T) (F:List Nat) (v:Value):Prop where
 ow:T.ow w' x F [v]
 nodup:F.Nodup
 lo: ∀ b ∈ F,w.heap.size≤b
 below:Below w.heap.size w w'
theorem Nv.lt {w w':World} {x:T} {F:List Nat} {v:Value} (h:Nv w w' x F v): ∀ b ∈ F,b<w'.heap.size:=T.ow_lt _ _ _ h.ow
theorem Nv.ints {w w':World} {E:TypeId} {xs:List Int} {v:Value} (h:OwI E w' w.heap.size v xs) (hb:Below w.heap.size w w'):Nv w w' (T.ints E xs) v.ownBlock.toList v:=by
 refine⟨T.ow_ints.2 ⟨h.more (Nat.zero_le _),rfl⟩,?_,?_,hb⟩
 ·cases v.ownBlock<;>simp
 ·intro b hb;exact(h.lt b (by simpa using hb)).1
def I64 (n:Int):Prop:= -9223372036854775808≤n∧n≤9223372036854775807
def smL {α:Type} (p:α→Prop) (xs:List α):Prop:=xs.length≤1048576∧ ∀ x ∈ xs,p x
theorem all_take {α:Type} {p:α→Prop} {xs:List α} {k:Nat} {x:α} (h: ∀ y ∈ xs.take k,p y) (hk:xs[k]?=some x) (hx:p x): ∀ y ∈ xs.take (k+1),p y:=by
 intro y hy
 rw[take_snoc_of hk] at hy
 rcases List.mem_append.1 hy with hy|hy
 ·exact h y hy
 ·simp at hy;subst hy;exact hx
theorem all_full {α:Type} {p:α→Prop} {xs:List α} (h: ∀ y ∈ xs.take xs.length,p y): ∀ y ∈ xs,p y:=by rwa [List.take_length] at h
end Go.Proofs.YtoibekfhepnedaaGreat
end
section
namespace Go.Proofs.YtoibekfhepnedaaGreat
open Go.RowKit
structure GClip where
 zT:Int
 zH:Int
 zG:Int
 zX:Int
 zR:Int
deriving DecidableEq
def GClip.fs (x:GClip):List T:= [.num x.zT,.num x.zH,.num x.zG,.num x.zX,.num x.zR]
def GClip.t (x:GClip):T:= .st x.fs
theorem GClip.wide_t (x:GClip):T.wide x.t=5:=by simp[GClip.t,GClip.fs,T.wide,T.wides]
def GClip.good (x:GClip):Prop:=I64 x.zT∧I64 x.zH∧I64 x.zG∧I64 x.zX∧I64 x.zR
theorem GClip.yN {w:World} {x:GClip} {cs:List Value} (h:T.rds w x.fs cs):cs= [.int .i64 x.zT,.int .i64 x.zH,.int .i64 x.zG,.int .i64 x.zX,.int .i64 x.zR]:=by
 simp only[GClip.fs,T.rds_num,T.rds_str,T.rds_sl,T.rds_nil] at h
 obtain⟨_,rfl,_,rfl,_,rfl,_,rfl,_,rfl,rfl⟩:=h
 exact rfl
theorem GClip.rd_mk {w:World} {x:GClip} :T.rds w x.fs [.int .i64 x.zT,.int .i64 x.zH,.int .i64 x.zG,.int .i64 x.zX,.int .i64 x.zR]:=by
 unfold GClip.fs;exact T.c_rn (T.c_rn (T.c_rn (T.c_rn (T.c_rn (T.c_re)))))
theorem GClip.ow_mk {w:World} {x:GClip} :T.ows w x.fs [] [.int .i64 x.zT,.int .i64 x.zH,.int .i64 x.zG,.int .i64 x.zX,.int .i64 x.zR]:=by
 unfold GClip.fs;exact T.c_on (T.c_on (T.c_on (T.c_on (T.c_on (T.c_oe)))))
structure GTrack where
 zQ:List GClip
deriving DecidableEq
def GTrack.fs (x:GTrack):List T:= [T.sl 39 5 (x.zQ.map GClip.t)]
def GTrack.t (x:GTrack):T:= .st x.fs
theorem GTrack.wide_t (x:GTrack):T.wide x.t=1:=by simp[GTrack.t,GTrack.fs,T.wide,T.wides]
def GTrack.good (x:GTrack):Prop:=(∀ y ∈ x.zQ,GClip.good y)
def GTrack.small (x:GTrack):Prop:=x.zQ.length≤1048576
theorem GTrack.yN {w:World} {x:GTrack} {cs:List Value} (h:T.rds w x.fs cs): ∃ v0,cs= [v0]∧T.rd w (T.sl 39 5 (x.zQ.map GClip.t)) [v0]:=by
 simp only[GTrack.fs,T.rds_num,T.rds_str,T.rds_sl,T.rds_nil] at h
 obtain⟨v0,_,rfl,h0,rfl⟩:=h
 exact⟨v0,rfl,h0⟩
theorem GTrack.rd_mk {w:World} {x:GTrack} {v0:Value} (h0:T.rd w (T.sl 39 5 (x.zQ.map GClip.t)) [v0]):T.rds w x.fs [v0]:=by
 unfold GTrack.fs;exact T.c_rl h0 (T.c_re)
theorem GTrack.ow_mk {w:World} {x:GTrack} {v0:Value} {F0:List Nat} (h0:T.ow w (T.sl 39 5 (x.zQ.map GClip.t)) F0 [v0]):T.ows w x.fs (F0++ []) [v0]:=by
 unfold GTrack.fs;exact T.c_ol h0 (T.c_oe)
structure GSend where
 zV:Int
 zR:Int
deriving DecidableEq
def GSend.fs (x:GSend):List T:= [.num x.zV,.num x.zR]
def GSend.t (x:GSend):T:= .st x.fs
theorem GSend.wide_t (x:GSend):T.wide x.t=2:=by simp[GSend.t,GSend.fs,T.wide,T.wides]
def GSend.good (x:GSend):Prop:=I64 x.zV∧I64 x.zR
theorem GSend.yN {w:World} {x:GSend} {cs:List Value} (h:T.rds w x.fs cs):cs= [.int .i64 x.zV,.int .i64 x.zR]:=by
 simp only[GSend.fs,T.rds_num,T.rds_str,T.rds_sl,T.rds_nil] at h
 obtain⟨_,rfl,_,rfl,rfl⟩:=h
 exact rfl
theorem GSend.ow_mk {w:World} {x:GSend} :T.ows w x.fs [] [.int .i64 x.zV,.int .i64 x.zR]:=by
 unfold GSend.fs;exact T.c_on (T.c_on (T.c_oe))
structure GStrip where
 zU:ByteArray
 zI:Int
 zJ:List GSend
deriving DecidableEq
def GStrip.fs (x:GStrip):List T:= [.str x.zU,.num x.zI,T.sl 98 2 (x.zJ.map GSend.t)]
def GStrip.t (x:GStrip):T:= .st x.fs
theorem GStrip.wide_t (x:GStrip):T.wide x.t=3:=by simp[GStrip.t,GStrip.fs,T.wide,T.wides]
def GStrip.good (x:GStrip):Prop:=x.zU.size≤9223372036854775807∧I64 x.zI∧(∀ y ∈ x.zJ,GSend.good y)
def GStrip.small (x:GStrip):Prop:=x.zU.size≤1048576∧x.zJ.length≤1048576
theorem GStrip.yN {w:World} {x:GStrip} {cs:List Value} (h:T.rds w x.fs cs): ∃ v2,cs= [.string x.zU,.int .i64 x.zI,v2]∧T.rd w (T.sl 98 2 (x.zJ.map GSend.t)) [v2]:=by
 simp only[GStrip.fs,T.rds_num,T.rds_str,T.rds_sl,T.rds_nil] at h
 obtain⟨_,rfl,_,rfl,v2,_,rfl,h2,rfl⟩:=h
 exact⟨v2,rfl,h2⟩
theorem GStrip.ow_mk {w:World} {x:GStrip} {v2:Value} {F2:List Nat} (h2:T.ow w (T.sl 98 2 (x.zJ.map GSend.t)) F2 [v2]):T.ows w x.fs (F2++ []) [.string x.zU,.int .i64 x.zI,v2]:=by
 unfold GStrip.fs;exact T.c_os (T.c_on (T.c_ol h2 (T.c_oe)))
structure GMixer where
 zC:List GStrip
deriving DecidableEq
def GMixer.fs (x:GMixer):List T:= [T.sl 101 3 (x.zC.map GStrip.t)]
def GMixer.good (x:GMixer):Prop:=(∀ y ∈ x.zC,GStrip.good y)
def GMixer.small (x:GMixer):Prop:=smL GStrip.small x.zC
theorem GMixer.yN {w:World} {x:GMixer} {cs:List Value} (h:T.rds w x.fs cs): ∃ v0,cs= [v0]∧T.rd w (T.sl 101 3 (x.zC.map GStrip.t)) [v0]:=by
 simp only[GMixer.fs,T.rds_num,T.rds_str,T.rds_sl,T.rds_nil] at h
 obtain⟨v0,_,rfl,h0,rfl⟩:=h
 exact⟨v0,rfl,h0⟩
theorem GMixer.rd_mk {w:World} {x:GMixer} {v0:Value} (h0:T.rd w (T.sl 101 3 (x.zC.map GStrip.t)) [v0]):T.rds w x.fs [v0]:=by
 unfold GMixer.fs;exact T.c_rl h0 (T.c_re)
structure GNode where
 zD:Int
 fA:Int
 fB:Int
 zH:List Int
deriving DecidableEq
def GNode.fs (x:GNode):List T:= [.num x.zD,.num x.fA,.num x.fB,T.ints 2 x.zH]
def GNode.t (x:GNode):T:= .st x.fs
theorem GNode.wide_t (x:GNode):T.wide x.t=4:=by simp[GNode.t,GNode.fs,T.wide,T.wides]
def GNode.good (x:GNode):Prop:=I64 x.zD∧I64 x.fA∧I64 x.fB∧(∀ y ∈ x.zH,I64 y)
def GNode.small (x:GNode):Prop:=x.zH.length≤1048576
theorem GNode.yN {w:World} {x:GNode} {cs:List Value} (h:T.rds w x.fs cs): ∃ v3,cs= [.int .i64 x.zD,.int .i64 x.fA,.int .i64 x.fB,v3]∧T.rd w (T.ints 2 x.zH) [v3]:=by
 simp only[GNode.fs,T.rds_num,T.rds_str,T.rds_sl,T.rds_nil] at h
 obtain⟨_,rfl,_,rfl,_,rfl,v3,_,rfl,h3,rfl⟩:=h
 exact⟨v3,rfl,h3⟩
theorem GNode.rd_mk {w:World} {x:GNode} {v3:Value} (h3:T.rd w (T.ints 2 x.zH) [v3]):T.rds w x.fs [.int .i64 x.zD,.int .i64 x.fA,.int .i64 x.fB,v3]:=by
 unfold GNode.fs;exact T.c_rn (T.c_rn (T.c_rn (T.c_rl h3 (T.c_re))))
theorem GNode.ow_mk {w:World} {x:GNode} {v3:Value} {F3:List Nat} (h3:T.ow w (T.ints 2 x.zH) F3 [v3]):T.ows w x.fs (F3++ []) [.int .i64 x.zD,.int .i64 x.fA,.int .i64 x.fB,v3]:=by
 unfold GNode.fs;exact T.c_on (T.c_on (T.c_on (T.c_ol h3 (T.c_oe))))
structure GPatch where
 zK:Int
 zM:List (List Int)
 zB:List GNode
 zL:List Int
deriving DecidableEq
def GPatch.fs (x:GPatch):List T:= [.num x.zK,T.sl 26 1 (x.zM.map (T.ints 2)),T.sl 167 4 (x.zB.map GNode.t),T.ints 2 x.zL]
def GPatch.t (x:GPatch):T:= .st x.fs
theorem GPatch.wide_t (x:GPatch):T.wide x.t=4:=by simp[GPatch.t,GPatch.fs,T.wide,T.wides]
def GPatch.good (x:GPatch):Prop:=I64 x.zK∧(∀ l ∈ x.zM,∀ y ∈ l,I64 y)∧(∀ y ∈ x.zB,GNode.good y)∧(∀ y ∈ x.zL,I64 y)
def GPatch.small (x:GPatch):Prop:=smL (fun l:List Int=>l.length≤1048576) x.zM∧smL GNode.small x.zB∧x.zL.length≤1048576
theorem GPatch.yN {w:World} {x:GPatch} {cs:List Value} (h:T.rds w x.fs cs): ∃ v1 v2 v3,cs= [.int .i64 x.zK,v1,v2,v3]∧T.rd w (T.sl 26 1 (x.zM.map (T.ints 2))) [v1]∧T.rd w (T.sl 167 4 (x.zB.map GNode.t)) [v2]∧T.rd w (T.ints 2 x.zL) [v3]:=by
 simp only[GPatch.fs,T.rds_num,T.rds_str,T.rds_sl,T.rds_nil] at h
 obtain⟨_,rfl,v1,_,rfl,h1,v2,_,rfl,h2,v3,_,rfl,h3,rfl⟩:=h
 exact⟨v1,v2,v3,rfl,h1,h2,h3⟩
theorem GPatch.rd_mk {w:World} {x:GPatch} {v1:Value} {v2:Value} {v3:Value} (h1:T.rd w (T.sl 26 1 (x.zM.map (T.ints 2))) [v1]) (h2:T.rd w (T.sl 167 4 (x.zB.map GNode.t)) [v2]) (h3:T.rd w (T.ints 2 x.zL) [v3]):T.rds w x.fs [.int .i64 x.zK,v1,v2,v3]:=by
 unfold GPatch.fs;exact T.c_rn (T.c_rl h1 (T.c_rl h2 (T.c_rl h3 (T.c_re))))
theorem GPatch.ow_mk {w:World} {x:GPatch} {v1:Value} {F1:List Nat} {v2:Value} {F2:List Nat} {v3:Value} {F3:List Nat} (h1:T.ow w (T.sl 26 1 (x.zM.map (T.ints 2))) F1 [v1]) (h2:T.ow w (T.sl 167 4 (x.zB.map GNode.t)) F2 [v2]) (h3:T.ow w (T.ints 2 x.zL) F3 [v3]):T.ows w x.fs (F1++(F2++(F3++ []))) [.int .i64 x.zK,v1,v2,v3]:=by
 unfold GPatch.fs;exact T.c_on (T.c_ol h1 (T.c_ol h2 (T.c_ol h3 (T.c_oe))))
structure GSession where
 zG:Int
 zN:List (List Int)
 zO:List GTrack
 zS:List Int
 zP:List GPatch
 zF:GMixer
deriving DecidableEq
def GSession.fs (x:GSession):List T:= [.num x.zG,T.sl 26 1 (x.zN.map (T.ints 2)),T.sl 96 1 (x.zO.map GTrack.t),T.ints 2 x.zS,T.sl 108 4 (x.zP.map GPatch.t),T.sl 101 3 (x.zF.zC.map GStrip.t)]
def GSession.good (x:GSession):Prop:=I64 x.zG∧(∀ l ∈ x.zN,∀ y ∈ l,I64 y)∧(∀ y ∈ x.zO,GTrack.good y)∧(∀ y ∈ x.zS,I64 y)∧(∀ y ∈ x.zP,GPatch.good y)∧(∀ y ∈ x.zF.zC,GStrip.good y)
def GSession.small (x:GSession):Prop:=smL (fun l:List Int=>l.length≤1048576) x.zN∧smL GTrack.small x.zO∧x.zS.length≤1048576∧smL GPatch.small x.zP∧smL GStrip.small x.zF.zC
theorem GSession.yN {w:World} {x:GSession} {cs:List Value} (h:T.rds w x.fs cs): ∃ v1 v2 v3 v4 v5,cs= [.int .i64 x.zG,v1,v2,v3,v4,v5]∧T.rd w (T.sl 26 1 (x.zN.map (T.ints 2))) [v1]∧T.rd w (T.sl 96 1 (x.zO.map GTrack.t)) [v2]∧T.rd w (T.ints 2 x.zS) [v3]∧T.rd w (T.sl 108 4 (x.zP.map GPatch.t)) [v4]∧T.rd w (T.sl 101 3 (x.zF.zC.map GStrip.t)) [v5]:=by
 simp only[GSession.fs,T.rds_num,T.rds_str,T.rds_sl,T.rds_nil] at h
 obtain⟨_,rfl,v1,_,rfl,h1,v2,_,rfl,h2,v3,_,rfl,h3,v4,_,rfl,h4,v5,_,rfl,h5,rfl⟩:=h
 exact⟨v1,v2,v3,v4,v5,rfl,h1,h2,h3,h4,h5⟩
theorem GSession.rd_mk {w:World} {x:GSession} {v1:Value} {v2:Value} {v3:Value} {v4:Value} {v5:Value} (h1:T.rd w (T.sl 26 1 (x.zN.map (T.ints 2))) [v1]) (h2:T.rd w (T.sl 96 1 (x.zO.map GTrack.t)) [v2]) (h3:T.rd w (T.ints 2 x.zS) [v3]) (h4:T.rd w (T.sl 108 4 (x.zP.map GPatch.t)) [v4]) (h5:T.rd w (T.sl 101 3 (x.zF.zC.map GStrip.t)) [v5]):T.rds w x.fs [.int .i64 x.zG,v1,v2,v3,v4,v5]:=by
 unfold GSession.fs;exact T.c_rn (T.c_rl h1 (T.c_rl h2 (T.c_rl h3 (T.c_rl h4 (T.c_rl h5 (T.c_re))))))
structure GCache where
 zE:GSession
 zY:List Int
 zW:List Int
deriving DecidableEq
def GCache.fs (x:GCache):List T:= [.num x.zE.zG,T.sl 26 1 (x.zE.zN.map (T.ints 2)),T.sl 96 1 (x.zE.zO.map GTrack.t),T.ints 2 x.zE.zS,T.sl 108 4 (x.zE.zP.map GPatch.t),T.sl 101 3 (x.zE.zF.zC.map GStrip.t),T.ints 2 x.zY,T.ints 2 x.zW]
def GCache.good (x:GCache):Prop:=I64 x.zE.zG∧(∀ l ∈ x.zE.zN,∀ y ∈ l,I64 y)∧(∀ y ∈ x.zE.zO,GTrack.good y)∧(∀ y ∈ x.zE.zS,I64 y)∧(∀ y ∈ x.zE.zP,GPatch.good y)∧(∀ y ∈ x.zE.zF.zC,GStrip.good y)∧(∀ y ∈ x.zY,I64 y)∧(∀ y ∈ x.zW,I64 y)
def GCache.small (x:GCache):Prop:=smL (fun l:List Int=>l.length≤1048576) x.zE.zN∧smL GTrack.small x.zE.zO∧x.zE.zS.length≤1048576∧smL GPatch.small x.zE.zP∧smL GStrip.small x.zE.zF.zC∧x.zY.length≤1048576∧x.zW.length≤1048576
theorem GCache.yN {w:World} {x:GCache} {cs:List Value} (h:T.rds w x.fs cs): ∃ v1 v2 v3 v4 v5 v6 v7,cs= [.int .i64 x.zE.zG,v1,v2,v3,v4,v5,v6,v7]∧T.rd w (T.sl 26 1 (x.zE.zN.map (T.ints 2))) [v1]∧T.rd w (T.sl 96 1 (x.zE.zO.map GTrack.t)) [v2]∧T.rd w (T.ints 2 x.zE.zS) [v3]∧T.rd w (T.sl 108 4 (x.zE.zP.map GPatch.t)) [v4]∧T.rd w (T.sl 101 3 (x.zE.zF.zC.map GStrip.t)) [v5]∧T.rd w (T.ints 2 x.zY) [v6]∧T.rd w (T.ints 2 x.zW) [v7]:=by
 simp only[GCache.fs,T.rds_num,T.rds_str,T.rds_sl,T.rds_nil] at h
 obtain⟨_,rfl,v1,_,rfl,h1,v2,_,rfl,h2,v3,_,rfl,h3,v4,_,rfl,h4,v5,_,rfl,h5,v6,_,rfl,h6,v7,_,rfl,h7,rfl⟩:=h
 exact⟨v1,v2,v3,v4,v5,v6,v7,rfl,h1,h2,h3,h4,h5,h6,h7⟩
theorem GCache.rd_mk {w:World} {x:GCache} {v1:Value} {v2:Value} {v3:Value} {v4:Value} {v5:Value} {v6:Value} {v7:Value} (h1:T.rd w (T.sl 26 1 (x.zE.zN.map (T.ints 2))) [v1]) (h2:T.rd w (T.sl 96 1 (x.zE.zO.map GTrack.t)) [v2]) (h3:T.rd w (T.ints 2 x.zE.zS) [v3]) (h4:T.rd w (T.sl 108 4 (x.zE.zP.map GPatch.t)) [v4]) (h5:T.rd w (T.sl 101 3 (x.zE.zF.zC.map GStrip.t)) [v5]) (h6:T.rd w (T.ints 2 x.zY) [v6]) (h7:T.rd w (T.ints 2 x.zW) [v7]):T.rds w x.fs [.int .i64 x.zE.zG,v1,v2,v3,v4,v5,v6,v7]:=by
 unfold GCache.fs;exact T.c_rn (T.c_rl h1 (T.c_rl h2 (T.c_rl h3 (T.c_rl h4 (T.c_rl h5 (T.c_rl h6 (T.c_rl h7 (T.c_re))))))))
structure GEdit where
 zD:Int
 yB:Int
 yC:Int
 zZ:Int
 yD:GClip
deriving DecidableEq
end Go.Proofs.YtoibekfhepnedaaGreat
end
section
namespace Go.Proofs.YtoibekfhepnedaaGreat
open Go.RowKit Go.ChangeShapes Go.WideShapes Go.Deep
end Go.Proofs.YtoibekfhepnedaaGreat
end
section
namespace Go.Proofs.YtoibekfhepnedaaGreat
open Go.RowKit Go.ChangeShapes Go.WideShapes Go.Deep
theorem rds_range {w:World} (tr:Nat→T) (g:Nat→List Value): ∀ (l:List Nat),(∀ i ∈ l,T.rd w (tr i) (g i))→T.rds w (l.map tr) (l.flatMap g)
 | [],_=>T.c_re
 |i :: l,h=>by
  simp only[List.map_cons,List.flatMap_cons,T.rds]
  exact⟨_,_,rfl,h i (by simp),rds_range tr g l (fun j hj=>h j (by simp[hj]))⟩
theorem rdT_open {α H:Type} {enc:TypeId × Value→H} {P:Program} {w:World} {base:Nat} {spare:Nat→Bool} {held:Bool} {t e:TypeId} {fuel:Nat} {cs:List Value} {x:DataW H × List MemPlace} (E:TypeId)
  (tr:α→T) {sz:Nat} (good:α→Prop) (hw: ∀ x,T.wide (tr x)=sz) (hs:0<sz) (dflt:α) (ht:P.underlying t=some (.slice e)) (ce:P.cellsOf e=sz)
  (hel: ∀ n cs' y,DataW.trod enc P w base spare held n e cs'=some y→ ∃ z,T.rd w (tr z) cs'∧good z)
  (h:DataW.trod enc P w base spare held fuel t cs=some x): ∃ (v:Value) (xs:List α),cs= [v]∧T.rd w (.sl E sz (xs.map tr)) [v]∧ ∀ z ∈ xs,good z:=by
 rcases open_slice ht h with ⟨rfl,_⟩|⟨a,len,cap,m,n,D,Pl,rfl,hb,hl,hm,hmm,_,hx⟩
 ·refine⟨_,[],rfl,?_,by simp⟩
  simp only[T.rd,List.map_nil]
  exact⟨_,[],rfl,by simp,Rd.nil_ w sz,by simp[T.rds]⟩
 ·have hlm:len≤m:=by rw[hmm];split<;>omega
  have each: ∀ i,i<len→ ∃ z:α × List Value,z.2.length=sz∧T.rd w (tr z.1) z.2∧good z.1∧ ∀ j,j<sz→w.cell? (a.add (i * sz+j))=z.2[j]?:=by
   intro i hi
   obtain⟨cs',h1,h2⟩:=hx i (by omega)
   rw[ce] at h1
   obtain⟨_,hlen,hcell⟩:=World.cells?_some h1
   obtain⟨z,hz,hg⟩:=hel _ _ _ h2
   refine⟨(z,cs'),hlen,hz,hg,fun j hj=>?_⟩
   rw[←hcell j hj,add_add]
  obtain⟨f,hf⟩:= @choose_lt (α × List Value) ⟨(dflt,[])⟩ len _ each
  let g:Nat→List Value:=fun i=>if i<len then (f i).2 else List.replicate sz (.bool true)
  have hgl: ∀ i,(g i).length=sz:=fun i=>by
   show (if i<len then (f i).2 else _).length=sz
   split
   ·next hi=>exact(hf i hi).1
   ·simp
  have hgi: ∀ i,i<len→g i=(f i).2:=fun i hi=>if_pos hi
  refine⟨_,(List.range len).map fun i=>(f i).1,rfl,?_,?_⟩
  ·simp only[T.rd]
   refine⟨_,(List.range len).flatMap g,rfl,?_,?_,?_⟩
   ·intro y hy
    obtain⟨z,_,rfl⟩:=List.mem_map.1 hy
    exact hw z
   ·have hlen:(((List.range len).map fun i=>(f i).1).map tr).length=len:=by simp
    rw[hlen]
    refine⟨by rw[flat_len hgl];simp,some a,cap,rfl,hl,by unfold maxLen at hm;omega,fun hn=>?_⟩
    have hc0:=(hf 0 hn).2.2.2 0 hs
    rw[List.getElem?_eq_getElem (by rw[(hf 0 hn).1];exact hs)] at hc0
    have hz:a.add (0 * sz+0)=a:=by simp[Addr.add]
    rw[hz] at hc0
    have hsp:a.spot=none:=by
     unfold World.cell? at hc0
     split at hc0
     ·split at hc0
      ·cases hc0
      ·rename_i h';simpa using h'
     ·cases hc0
    obtain⟨b,off,sp⟩:=a
    simp only at hsp
    subst hsp
    refine⟨b,off,rfl,World.block_lt_of_cell? w _ hc0,fun j u hu=>?_⟩
    have hj:j<len * sz:=by have:=(List.getElem?_eq_some_iff.1 hu).1;rw[flat_len hgl] at this;simpa using this
    have hk:j / sz<len:=(Nat.div_lt_iff_lt_mul hs).2 hj
    have hjm:j % sz<sz:=Nat.mod_lt _ hs
    have ej:j / sz * sz+j % sz=j:=by have:=Nat.div_add_mod j sz;rw[Nat.mul_comm] at this;exact this
    have h1:=(hf (j / sz) hk).2.2.2 (j % sz) hjm
    have hin:(g (j / sz))[j % sz]?=some ((g (j / sz))[j % sz]'(by rw[hgl];exact hjm)):=List.getElem?_eq_getElem _
    have h3:=flat_at hgl (xs:=List.range len) (k:=j / sz) (j:=j % sz) (x:=j / sz) (by simp[hk]) hin
    rw[ej,hu] at h3
    rw[ej,←hgi _ hk,hin,←h3] at h1
    rw[show (⟨b,off+j,none⟩:Addr)=(⟨b,off,none⟩:Addr).add j by unfold Addr.add;split<;>simp_all]
    exact h1
   ·have:=rds_range (w:=w) (fun i=>tr (f i).1) g (List.range len) (fun i hi=>by
     have hi':=List.mem_range.1 hi
     rw[hgi i hi'];exact(hf i hi').2.1)
    rw[List.map_map]
    exact this
  ·intro z hz
   simp only[List.mem_map,List.mem_range] at hz
   obtain⟨i,hi,rfl⟩:=hz
   exact(hf i hi).2.2.1
end Go.Proofs.YtoibekfhepnedaaGreat
end
