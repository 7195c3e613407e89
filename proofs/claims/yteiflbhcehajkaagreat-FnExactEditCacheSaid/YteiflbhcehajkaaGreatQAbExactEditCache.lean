/- Trees of data, field by field; data that a call has made. No program is named here. Nested data: sessions, desks and their parts; how they lie in memory. What valid sessions and caches are, in plain words. -/
import Derived.Test.YteiflbhcehajkaaGreatQAaExactEditCache
import Derived.Test.YteiflbhcehajkaaGreatRows
set_option linter.unusedVariables false
set_option linter.unusedSimpArgs false

section
namespace Go.Proofs.YteiflbhcehajkaaGreat
open Go.RowKit
section
variable {w w':World} {n:Int} {s:ByteArray} {E:TypeId} {sz:Nat} {xs ys:List T} {cs:List Value} {F:List Nat}
theorem T.rds_nil:T.rds w [] cs↔cs= []:=by simp only[T.rds]
theorem T.rds_num:T.rds w (.num n :: xs) cs↔ ∃ cs',cs= .int .i64 n :: cs'∧T.rds w xs cs':=by
 simp only[T.rds,T.rd]
 constructor
 ·rintro⟨c1,c2,rfl,rfl,h⟩;exact⟨c2,rfl,h⟩
 ·rintro⟨c2,rfl,h⟩;exact⟨_,c2,rfl,rfl,h⟩
theorem T.rds_str:T.rds w (.str s :: xs) cs↔ ∃ cs',cs= .string s :: cs'∧T.rds w xs cs':=by
 simp only[T.rds,T.rd]
 constructor
 ·rintro⟨c1,c2,rfl,rfl,h⟩;exact⟨c2,rfl,h⟩
 ·rintro⟨c2,rfl,h⟩;exact⟨_,c2,rfl,rfl,h⟩
theorem T.rd_one {c:List Value} (h:T.rd w (.sl E sz ys) c): ∃ v,c= [v]:=by
 simp only[T.rd] at h
 obtain⟨v,_,rfl,_⟩:=h
 exact⟨v,rfl⟩
theorem T.rds_sl:T.rds w (.sl E sz ys :: xs) cs↔ ∃ v cs',cs=v :: cs'∧T.rd w (.sl E sz ys) [v]∧T.rds w xs cs':=by
 constructor
 ·intro h
  simp only[T.rds] at h
  obtain⟨c1,c2,rfl,h1,h2⟩:=h
  obtain⟨v,rfl⟩:=T.rd_one h1
  exact⟨v,c2,rfl,h1,h2⟩
 ·rintro⟨v,c2,rfl,h1,h2⟩
  simp only[T.rds]
  exact⟨[v],c2,rfl,h1,h2⟩
theorem T.ows_nil:T.ows w [] F cs↔F= []∧cs= []:=by simp only[T.ows]
theorem T.ows_num:T.ows w (.num n :: xs) F cs↔ ∃ cs',cs= .int .i64 n :: cs'∧T.ows w xs F cs':=by
 simp only[T.ows,T.ow]
 constructor
 ·rintro⟨F1,F2,c1,c2,rfl,rfl,⟨rfl,rfl⟩,h⟩;exact⟨c2,rfl,h⟩
 ·rintro⟨c2,rfl,h⟩;exact⟨[],F,_,c2,rfl,rfl,⟨rfl,rfl⟩,h⟩
theorem T.ows_str:T.ows w (.str s :: xs) F cs↔ ∃ cs',cs= .string s :: cs'∧T.ows w xs F cs':=by
 simp only[T.ows,T.ow]
 constructor
 ·rintro⟨F1,F2,c1,c2,rfl,rfl,⟨rfl,rfl⟩,h⟩;exact⟨c2,rfl,h⟩
 ·rintro⟨c2,rfl,h⟩;exact⟨[],F,_,c2,rfl,rfl,⟨rfl,rfl⟩,h⟩
theorem T.ows_sl:T.ows w (.sl E sz ys :: xs) F cs↔ ∃ v cs' F1 F2,F=F1++F2∧cs=v :: cs'∧T.ow w (.sl E sz ys) F1 [v]∧T.ows w xs F2 cs':=by
 constructor
 ·intro h
  simp only[T.ows] at h
  obtain⟨F1,F2,c1,c2,rfl,rfl,h1,h2⟩:=h
  obtain⟨v,rfl⟩:=T.rd_one (T.ow_rd _ _ _ h1)
  exact⟨v,c2,F1,F2,rfl,rfl,h1,h2⟩
 ·rintro⟨v,c2,F1,F2,rfl,rfl,h1,h2⟩
  simp only[T.ows]
  exact⟨F1,F2,[v],c2,rfl,rfl,h1,h2⟩
theorem T.c_rn (h:T.rds w xs cs):T.rds w (.num n :: xs) (.int .i64 n :: cs):=T.rds_num.2 ⟨_,rfl,h⟩
theorem T.c_rs (h:T.rds w xs cs):T.rds w (.str s :: xs) (.string s :: cs):=T.rds_str.2 ⟨_,rfl,h⟩
theorem T.c_rl {v:Value} (h:T.rd w (.sl E sz ys) [v]) (h2:T.rds w xs cs):T.rds w (.sl E sz ys :: xs) (v :: cs):=T.rds_sl.2 ⟨_,_,rfl,h,h2⟩
theorem T.c_re:T.rds w [] []:=T.rds_nil.2 rfl
theorem T.c_on (h:T.ows w xs F cs):T.ows w (.num n :: xs) F (.int .i64 n :: cs):=T.ows_num.2 ⟨_,rfl,h⟩
theorem T.c_os (h:T.ows w xs F cs):T.ows w (.str s :: xs) F (.string s :: cs):=T.ows_str.2 ⟨_,rfl,h⟩
theorem T.c_ol {v:Value} {F1:List Nat} (h:T.ow w (.sl E sz ys) F1 [v]) (h2:T.ows w xs F cs):T.ows w (.sl E sz ys :: xs) (F1++F) (v :: cs):=T.ows_sl.2 ⟨_,_,_,_,rfl,rfl,h,h2⟩
theorem T.c_oe:T.ows w [] [] []:=T.ows_nil.2 ⟨rfl,rfl⟩
theorem T.ow_far {x:T} {g:Nat} (h:T.ow w x F cs) (hg:g ∉ F) (o:Nat) (u:Value):T.ow (w.setCell ⟨g,o,none⟩ u) x F cs:=
 T.ow_keep x F cs (fun b hb=>Below.heap_setCell w _ u b (fun e=>hg (by rw[←show b=g from e];exact hb))) h
theorem T.yM {g:Nat} (h:T.ows w xs F cs) (hg:g ∉ F) (o:Nat) (u:Value):T.ows (w.setCell ⟨g,o,none⟩ u) xs F cs:=
 T.ows_keep xs F cs (fun b hb=>Below.heap_setCell w _ u b (fun e=>hg (by rw[←show b=g from e];exact hb))) h
end
theorem nodup_lo {F1 F2:List Nat} {n:Nat} (h1:F1.Nodup) (h2:F2.Nodup) (a: ∀ b ∈ F1,b<n) (c: ∀ b ∈ F2,n≤b):(F1++F2).Nodup:=by
 rw[List.nodup_append]
 exact⟨h1,h2,fun x hx y hy e=>by have:=a x hx;have:=c y hy;omega⟩
/-- Data that lies in new blocks. -/
structure Nw (w w':World) (xs:List T) (F:List Nat) (cs:List Value):Prop where
 ows:T.ows w' xs F cs
 nodup:F.Nodup
 lo: ∀ b ∈ F,w.heap.size≤b
 below:Below w.heap.size w w'
theorem Nw.lt {w w':World} {xs:List T} {F:List Nat} {cs:List Value} (h:Nw w w' xs F cs): ∀ b ∈ F,b<w'.heap.size:=T.ows_lt _ _ _ h.ows
/-- One slice that lies in new blocks. -/
structure Nv (w w':World) (x:T) (F:List Nat) (v:Value):Prop where
 ow:T.ow w' x F [v]
 nodup:F.Nodup
 lo: ∀ b ∈ F,w.heap.size≤b
 below:Below w.heap.size w w'
theorem Nv.lt {w w':World} {x:T} {F:List Nat} {v:Value} (h:Nv w w' x F v): ∀ b ∈ F,b<w'.heap.size:=T.ow_lt _ _ _ h.ow
theorem Nv.ints {w w':World} {E:TypeId} {xs:List Int} {v:Value} (h:OwI E w' w.heap.size v xs) (hb:Below w.heap.size w w'):Nv w w' (T.ints E xs) v.ownBlock.toList v:=by
 refine⟨T.ow_ints.2 ⟨h.more (Nat.zero_le _),rfl⟩,?_,?_,hb⟩
 ·cases v.ownBlock<;>simp
 ·intro b hb;exact(h.lt b (by simpa using hb)).1
def I64 (n:Int):Prop:= -9223372036854775808≤n∧n≤9223372036854775807
def smL {α:Type} (p:α→Prop) (xs:List α):Prop:=xs.length≤1048576∧ ∀ x ∈ xs,p x
theorem all_take {α:Type} {p:α→Prop} {xs:List α} {k:Nat} {x:α} (h: ∀ y ∈ xs.take k,p y) (hk:xs[k]?=some x) (hx:p x): ∀ y ∈ xs.take (k+1),p y:=by
 intro y hy
 rw[take_snoc_of hk] at hy
 rcases List.mem_append.1 hy with hy|hy
 ·exact h y hy
 ·simp at hy;subst hy;exact hx
theorem all_full {α:Type} {p:α→Prop} {xs:List α} (h: ∀ y ∈ xs.take xs.length,p y): ∀ y ∈ xs,p y:=by rwa [List.take_length] at h
end Go.Proofs.YteiflbhcehajkaaGreat
end
section
namespace Go.Proofs.YteiflbhcehajkaaGreat
open Go.RowKit
structure GClip where
 zO:Int
 zI:Int
 zA:Int
 zW:Int
 zQ:Int
deriving DecidableEq
def GClip.fs (x:GClip):List T:= [.num x.zO,.num x.zI,.num x.zA,.num x.zW,.num x.zQ]
def GClip.t (x:GClip):T:= .st x.fs
theorem GClip.wide_t (x:GClip):T.wide x.t=5:=by simp[GClip.t,GClip.fs,T.wide,T.wides]
def GClip.good (x:GClip):Prop:=I64 x.zO∧I64 x.zI∧I64 x.zA∧I64 x.zW∧I64 x.zQ
theorem GClip.yL {w:World} {x:GClip} {cs:List Value} (h:T.rds w x.fs cs):cs= [.int .i64 x.zO,.int .i64 x.zI,.int .i64 x.zA,.int .i64 x.zW,.int .i64 x.zQ]:=by
 simp only[GClip.fs,T.rds_num,T.rds_str,T.rds_sl,T.rds_nil] at h
 obtain⟨_,rfl,_,rfl,_,rfl,_,rfl,_,rfl,rfl⟩:=h
 exact rfl
theorem GClip.rd_mk {w:World} {x:GClip} :T.rds w x.fs [.int .i64 x.zO,.int .i64 x.zI,.int .i64 x.zA,.int .i64 x.zW,.int .i64 x.zQ]:=by
 unfold GClip.fs;exact T.c_rn (T.c_rn (T.c_rn (T.c_rn (T.c_rn (T.c_re)))))
theorem GClip.ow_mk {w:World} {x:GClip} :T.ows w x.fs [] [.int .i64 x.zO,.int .i64 x.zI,.int .i64 x.zA,.int .i64 x.zW,.int .i64 x.zQ]:=by
 unfold GClip.fs;exact T.c_on (T.c_on (T.c_on (T.c_on (T.c_on (T.c_oe)))))
structure GTrack where
 zL:List GClip
deriving DecidableEq
def GTrack.fs (x:GTrack):List T:= [T.sl 60 5 (x.zL.map GClip.t)]
def GTrack.t (x:GTrack):T:= .st x.fs
theorem GTrack.wide_t (x:GTrack):T.wide x.t=1:=by simp[GTrack.t,GTrack.fs,T.wide,T.wides]
def GTrack.good (x:GTrack):Prop:=(∀ y ∈ x.zL,GClip.good y)
def GTrack.small (x:GTrack):Prop:=x.zL.length≤1048576
theorem GTrack.yL {w:World} {x:GTrack} {cs:List Value} (h:T.rds w x.fs cs): ∃ v0,cs= [v0]∧T.rd w (T.sl 60 5 (x.zL.map GClip.t)) [v0]:=by
 simp only[GTrack.fs,T.rds_num,T.rds_str,T.rds_sl,T.rds_nil] at h
 obtain⟨v0,_,rfl,h0,rfl⟩:=h
 exact⟨v0,rfl,h0⟩
theorem GTrack.rd_mk {w:World} {x:GTrack} {v0:Value} (h0:T.rd w (T.sl 60 5 (x.zL.map GClip.t)) [v0]):T.rds w x.fs [v0]:=by
 unfold GTrack.fs;exact T.c_rl h0 (T.c_re)
theorem GTrack.ow_open {w:World} {x:GTrack} {F:List Nat} {cs:List Value} (h:T.ows w x.fs F cs): ∃ v0 F0,cs= [v0]∧F=F0++ []∧T.ow w (T.sl 60 5 (x.zL.map GClip.t)) F0 [v0]:=by
 simp only[GTrack.fs,T.ows_num,T.ows_str,T.ows_sl,T.ows_nil] at h
 obtain⟨v0,_,F0,_,rfl,rfl,h0,rfl,rfl⟩:=h
 exact⟨v0,F0,rfl,rfl,h0⟩
theorem GTrack.ow_mk {w:World} {x:GTrack} {v0:Value} {F0:List Nat} (h0:T.ow w (T.sl 60 5 (x.zL.map GClip.t)) F0 [v0]):T.ows w x.fs (F0++ []) [v0]:=by
 unfold GTrack.fs;exact T.c_ol h0 (T.c_oe)
structure GSend where
 yB:Int
 zQ:Int
deriving DecidableEq
def GSend.fs (x:GSend):List T:= [.num x.yB,.num x.zQ]
def GSend.t (x:GSend):T:= .st x.fs
theorem GSend.wide_t (x:GSend):T.wide x.t=2:=by simp[GSend.t,GSend.fs,T.wide,T.wides]
def GSend.good (x:GSend):Prop:=I64 x.yB∧I64 x.zQ
theorem GSend.yL {w:World} {x:GSend} {cs:List Value} (h:T.rds w x.fs cs):cs= [.int .i64 x.yB,.int .i64 x.zQ]:=by
 simp only[GSend.fs,T.rds_num,T.rds_str,T.rds_sl,T.rds_nil] at h
 obtain⟨_,rfl,_,rfl,rfl⟩:=h
 exact rfl
theorem GSend.rd_mk {w:World} {x:GSend} :T.rds w x.fs [.int .i64 x.yB,.int .i64 x.zQ]:=by
 unfold GSend.fs;exact T.c_rn (T.c_rn (T.c_re))
theorem GSend.ow_mk {w:World} {x:GSend} :T.ows w x.fs [] [.int .i64 x.yB,.int .i64 x.zQ]:=by
 unfold GSend.fs;exact T.c_on (T.c_on (T.c_oe))
structure GStrip where
 zX:ByteArray
 zT:Int
 zS:List GSend
deriving DecidableEq
def GStrip.fs (x:GStrip):List T:= [.str x.zX,.num x.zT,T.sl 159 2 (x.zS.map GSend.t)]
def GStrip.t (x:GStrip):T:= .st x.fs
theorem GStrip.wide_t (x:GStrip):T.wide x.t=3:=by simp[GStrip.t,GStrip.fs,T.wide,T.wides]
def GStrip.good (x:GStrip):Prop:=x.zX.size≤9223372036854775807∧I64 x.zT∧(∀ y ∈ x.zS,GSend.good y)
def GStrip.small (x:GStrip):Prop:=x.zX.size≤1048576∧x.zS.length≤1048576
theorem GStrip.yL {w:World} {x:GStrip} {cs:List Value} (h:T.rds w x.fs cs): ∃ v2,cs= [.string x.zX,.int .i64 x.zT,v2]∧T.rd w (T.sl 159 2 (x.zS.map GSend.t)) [v2]:=by
 simp only[GStrip.fs,T.rds_num,T.rds_str,T.rds_sl,T.rds_nil] at h
 obtain⟨_,rfl,_,rfl,v2,_,rfl,h2,rfl⟩:=h
 exact⟨v2,rfl,h2⟩
theorem GStrip.ow_open {w:World} {x:GStrip} {F:List Nat} {cs:List Value} (h:T.ows w x.fs F cs): ∃ v2 F2,cs= [.string x.zX,.int .i64 x.zT,v2]∧F=F2++ []∧T.ow w (T.sl 159 2 (x.zS.map GSend.t)) F2 [v2]:=by
 simp only[GStrip.fs,T.ows_num,T.ows_str,T.ows_sl,T.ows_nil] at h
 obtain⟨_,rfl,_,rfl,v2,_,F2,_,rfl,rfl,h2,rfl,rfl⟩:=h
 exact⟨v2,F2,rfl,rfl,h2⟩
theorem GStrip.ow_mk {w:World} {x:GStrip} {v2:Value} {F2:List Nat} (h2:T.ow w (T.sl 159 2 (x.zS.map GSend.t)) F2 [v2]):T.ows w x.fs (F2++ []) [.string x.zX,.int .i64 x.zT,v2]:=by
 unfold GStrip.fs;exact T.c_os (T.c_on (T.c_ol h2 (T.c_oe)))
structure GMixer where
 zD:List GStrip
deriving DecidableEq
def GMixer.fs (x:GMixer):List T:= [T.sl 139 3 (x.zD.map GStrip.t)]
def GMixer.good (x:GMixer):Prop:=(∀ y ∈ x.zD,GStrip.good y)
def GMixer.small (x:GMixer):Prop:=smL GStrip.small x.zD
theorem GMixer.yL {w:World} {x:GMixer} {cs:List Value} (h:T.rds w x.fs cs): ∃ v0,cs= [v0]∧T.rd w (T.sl 139 3 (x.zD.map GStrip.t)) [v0]:=by
 simp only[GMixer.fs,T.rds_num,T.rds_str,T.rds_sl,T.rds_nil] at h
 obtain⟨v0,_,rfl,h0,rfl⟩:=h
 exact⟨v0,rfl,h0⟩
theorem GMixer.rd_mk {w:World} {x:GMixer} {v0:Value} (h0:T.rd w (T.sl 139 3 (x.zD.map GStrip.t)) [v0]):T.rds w x.fs [v0]:=by
 unfold GMixer.fs;exact T.c_rl h0 (T.c_re)
structure GNode where
 zC:Int
 fA:Int
 fB:Int
 zI:List Int
deriving DecidableEq
def GNode.fs (x:GNode):List T:= [.num x.zC,.num x.fA,.num x.fB,T.ints 2 x.zI]
def GNode.t (x:GNode):T:= .st x.fs
theorem GNode.wide_t (x:GNode):T.wide x.t=4:=by simp[GNode.t,GNode.fs,T.wide,T.wides]
def GNode.good (x:GNode):Prop:=I64 x.zC∧I64 x.fA∧I64 x.fB∧(∀ y ∈ x.zI,I64 y)
def GNode.small (x:GNode):Prop:=x.zI.length≤1048576
theorem GNode.yL {w:World} {x:GNode} {cs:List Value} (h:T.rds w x.fs cs): ∃ v3,cs= [.int .i64 x.zC,.int .i64 x.fA,.int .i64 x.fB,v3]∧T.rd w (T.ints 2 x.zI) [v3]:=by
 simp only[GNode.fs,T.rds_num,T.rds_str,T.rds_sl,T.rds_nil] at h
 obtain⟨_,rfl,_,rfl,_,rfl,v3,_,rfl,h3,rfl⟩:=h
 exact⟨v3,rfl,h3⟩
theorem GNode.rd_mk {w:World} {x:GNode} {v3:Value} (h3:T.rd w (T.ints 2 x.zI) [v3]):T.rds w x.fs [.int .i64 x.zC,.int .i64 x.fA,.int .i64 x.fB,v3]:=by
 unfold GNode.fs;exact T.c_rn (T.c_rn (T.c_rn (T.c_rl h3 (T.c_re))))
theorem GNode.ow_open {w:World} {x:GNode} {F:List Nat} {cs:List Value} (h:T.ows w x.fs F cs): ∃ v3 F3,cs= [.int .i64 x.zC,.int .i64 x.fA,.int .i64 x.fB,v3]∧F=F3++ []∧T.ow w (T.ints 2 x.zI) F3 [v3]:=by
 simp only[GNode.fs,T.ows_num,T.ows_str,T.ows_sl,T.ows_nil] at h
 obtain⟨_,rfl,_,rfl,_,rfl,v3,_,F3,_,rfl,rfl,h3,rfl,rfl⟩:=h
 exact⟨v3,F3,rfl,rfl,h3⟩
theorem GNode.ow_mk {w:World} {x:GNode} {v3:Value} {F3:List Nat} (h3:T.ow w (T.ints 2 x.zI) F3 [v3]):T.ows w x.fs (F3++ []) [.int .i64 x.zC,.int .i64 x.fA,.int .i64 x.fB,v3]:=by
 unfold GNode.fs;exact T.c_on (T.c_on (T.c_on (T.c_ol h3 (T.c_oe))))
structure GPatch where
 zM:Int
 zR:List (List Int)
 zH:List GNode
 zN:List Int
deriving DecidableEq
def GPatch.fs (x:GPatch):List T:= [.num x.zM,T.sl 24 1 (x.zR.map (T.ints 2)),T.sl 198 4 (x.zH.map GNode.t),T.ints 2 x.zN]
def GPatch.t (x:GPatch):T:= .st x.fs
theorem GPatch.wide_t (x:GPatch):T.wide x.t=4:=by simp[GPatch.t,GPatch.fs,T.wide,T.wides]
def GPatch.good (x:GPatch):Prop:=I64 x.zM∧(∀ l ∈ x.zR,∀ y ∈ l,I64 y)∧(∀ y ∈ x.zH,GNode.good y)∧(∀ y ∈ x.zN,I64 y)
def GPatch.small (x:GPatch):Prop:=smL (fun l:List Int=>l.length≤1048576) x.zR∧smL GNode.small x.zH∧x.zN.length≤1048576
theorem GPatch.yL {w:World} {x:GPatch} {cs:List Value} (h:T.rds w x.fs cs): ∃ v1 v2 v3,cs= [.int .i64 x.zM,v1,v2,v3]∧T.rd w (T.sl 24 1 (x.zR.map (T.ints 2))) [v1]∧T.rd w (T.sl 198 4 (x.zH.map GNode.t)) [v2]∧T.rd w (T.ints 2 x.zN) [v3]:=by
 simp only[GPatch.fs,T.rds_num,T.rds_str,T.rds_sl,T.rds_nil] at h
 obtain⟨_,rfl,v1,_,rfl,h1,v2,_,rfl,h2,v3,_,rfl,h3,rfl⟩:=h
 exact⟨v1,v2,v3,rfl,h1,h2,h3⟩
theorem GPatch.rd_mk {w:World} {x:GPatch} {v1:Value} {v2:Value} {v3:Value} (h1:T.rd w (T.sl 24 1 (x.zR.map (T.ints 2))) [v1]) (h2:T.rd w (T.sl 198 4 (x.zH.map GNode.t)) [v2]) (h3:T.rd w (T.ints 2 x.zN) [v3]):T.rds w x.fs [.int .i64 x.zM,v1,v2,v3]:=by
 unfold GPatch.fs;exact T.c_rn (T.c_rl h1 (T.c_rl h2 (T.c_rl h3 (T.c_re))))
theorem GPatch.ow_open {w:World} {x:GPatch} {F:List Nat} {cs:List Value} (h:T.ows w x.fs F cs): ∃ v1 v2 v3 F1 F2 F3,cs= [.int .i64 x.zM,v1,v2,v3]∧F=F1++(F2++(F3++ []))∧T.ow w (T.sl 24 1 (x.zR.map (T.ints 2))) F1 [v1]∧T.ow w (T.sl 198 4 (x.zH.map GNode.t)) F2 [v2]∧T.ow w (T.ints 2 x.zN) F3 [v3]:=by
 simp only[GPatch.fs,T.ows_num,T.ows_str,T.ows_sl,T.ows_nil] at h
 obtain⟨_,rfl,v1,_,F1,_,rfl,rfl,h1,v2,_,F2,_,rfl,rfl,h2,v3,_,F3,_,rfl,rfl,h3,rfl,rfl⟩:=h
 exact⟨v1,v2,v3,F1,F2,F3,rfl,rfl,h1,h2,h3⟩
theorem GPatch.ow_mk {w:World} {x:GPatch} {v1:Value} {F1:List Nat} {v2:Value} {F2:List Nat} {v3:Value} {F3:List Nat} (h1:T.ow w (T.sl 24 1 (x.zR.map (T.ints 2))) F1 [v1]) (h2:T.ow w (T.sl 198 4 (x.zH.map GNode.t)) F2 [v2]) (h3:T.ow w (T.ints 2 x.zN) F3 [v3]):T.ows w x.fs (F1++(F2++(F3++ []))) [.int .i64 x.zM,v1,v2,v3]:=by
 unfold GPatch.fs;exact T.c_on (T.c_ol h1 (T.c_ol h2 (T.c_ol h3 (T.c_oe))))
structure GSession where
 zA:Int
 zG:List (List Int)
 zE:List GTrack
 zK:List Int
 zJ:List GPatch
 zF:GMixer
deriving DecidableEq
def GSession.fs (x:GSession):List T:= [.num x.zA,T.sl 24 1 (x.zG.map (T.ints 2)),T.sl 126 1 (x.zE.map GTrack.t),T.ints 2 x.zK,T.sl 130 4 (x.zJ.map GPatch.t),T.sl 139 3 (x.zF.zD.map GStrip.t)]
def GSession.good (x:GSession):Prop:=I64 x.zA∧(∀ l ∈ x.zG,∀ y ∈ l,I64 y)∧(∀ y ∈ x.zE,GTrack.good y)∧(∀ y ∈ x.zK,I64 y)∧(∀ y ∈ x.zJ,GPatch.good y)∧(∀ y ∈ x.zF.zD,GStrip.good y)
def GSession.small (x:GSession):Prop:=smL (fun l:List Int=>l.length≤1048576) x.zG∧smL GTrack.small x.zE∧x.zK.length≤1048576∧smL GPatch.small x.zJ∧smL GStrip.small x.zF.zD
theorem GSession.yL {w:World} {x:GSession} {cs:List Value} (h:T.rds w x.fs cs): ∃ v1 v2 v3 v4 v5,cs= [.int .i64 x.zA,v1,v2,v3,v4,v5]∧T.rd w (T.sl 24 1 (x.zG.map (T.ints 2))) [v1]∧T.rd w (T.sl 126 1 (x.zE.map GTrack.t)) [v2]∧T.rd w (T.ints 2 x.zK) [v3]∧T.rd w (T.sl 130 4 (x.zJ.map GPatch.t)) [v4]∧T.rd w (T.sl 139 3 (x.zF.zD.map GStrip.t)) [v5]:=by
 simp only[GSession.fs,T.rds_num,T.rds_str,T.rds_sl,T.rds_nil] at h
 obtain⟨_,rfl,v1,_,rfl,h1,v2,_,rfl,h2,v3,_,rfl,h3,v4,_,rfl,h4,v5,_,rfl,h5,rfl⟩:=h
 exact⟨v1,v2,v3,v4,v5,rfl,h1,h2,h3,h4,h5⟩
theorem GSession.rd_mk {w:World} {x:GSession} {v1:Value} {v2:Value} {v3:Value} {v4:Value} {v5:Value} (h1:T.rd w (T.sl 24 1 (x.zG.map (T.ints 2))) [v1]) (h2:T.rd w (T.sl 126 1 (x.zE.map GTrack.t)) [v2]) (h3:T.rd w (T.ints 2 x.zK) [v3]) (h4:T.rd w (T.sl 130 4 (x.zJ.map GPatch.t)) [v4]) (h5:T.rd w (T.sl 139 3 (x.zF.zD.map GStrip.t)) [v5]):T.rds w x.fs [.int .i64 x.zA,v1,v2,v3,v4,v5]:=by
 unfold GSession.fs;exact T.c_rn (T.c_rl h1 (T.c_rl h2 (T.c_rl h3 (T.c_rl h4 (T.c_rl h5 (T.c_re))))))
theorem GSession.ow_mk {w:World} {x:GSession} {v1:Value} {F1:List Nat} {v2:Value} {F2:List Nat} {v3:Value} {F3:List Nat} {v4:Value} {F4:List Nat} {v5:Value} {F5:List Nat} (h1:T.ow w (T.sl 24 1 (x.zG.map (T.ints 2))) F1 [v1]) (h2:T.ow w (T.sl 126 1 (x.zE.map GTrack.t)) F2 [v2]) (h3:T.ow w (T.ints 2 x.zK) F3 [v3]) (h4:T.ow w (T.sl 130 4 (x.zJ.map GPatch.t)) F4 [v4]) (h5:T.ow w (T.sl 139 3 (x.zF.zD.map GStrip.t)) F5 [v5]):T.ows w x.fs (F1++(F2++(F3++(F4++(F5++ []))))) [.int .i64 x.zA,v1,v2,v3,v4,v5]:=by
 unfold GSession.fs;exact T.c_on (T.c_ol h1 (T.c_ol h2 (T.c_ol h3 (T.c_ol h4 (T.c_ol h5 (T.c_oe))))))
structure GCache where
 zB:GSession
 yA:List Int
 zU:List Int
deriving DecidableEq
def GCache.fs (x:GCache):List T:= [.num x.zB.zA,T.sl 24 1 (x.zB.zG.map (T.ints 2)),T.sl 126 1 (x.zB.zE.map GTrack.t),T.ints 2 x.zB.zK,T.sl 130 4 (x.zB.zJ.map GPatch.t),T.sl 139 3 (x.zB.zF.zD.map GStrip.t),T.ints 2 x.yA,T.ints 2 x.zU]
def GCache.good (x:GCache):Prop:=I64 x.zB.zA∧(∀ l ∈ x.zB.zG,∀ y ∈ l,I64 y)∧(∀ y ∈ x.zB.zE,GTrack.good y)∧(∀ y ∈ x.zB.zK,I64 y)∧(∀ y ∈ x.zB.zJ,GPatch.good y)∧(∀ y ∈ x.zB.zF.zD,GStrip.good y)∧(∀ y ∈ x.yA,I64 y)∧(∀ y ∈ x.zU,I64 y)
def GCache.small (x:GCache):Prop:=smL (fun l:List Int=>l.length≤1048576) x.zB.zG∧smL GTrack.small x.zB.zE∧x.zB.zK.length≤1048576∧smL GPatch.small x.zB.zJ∧smL GStrip.small x.zB.zF.zD∧x.yA.length≤1048576∧x.zU.length≤1048576
theorem GCache.yL {w:World} {x:GCache} {cs:List Value} (h:T.rds w x.fs cs): ∃ v1 v2 v3 v4 v5 v6 v7,cs= [.int .i64 x.zB.zA,v1,v2,v3,v4,v5,v6,v7]∧T.rd w (T.sl 24 1 (x.zB.zG.map (T.ints 2))) [v1]∧T.rd w (T.sl 126 1 (x.zB.zE.map GTrack.t)) [v2]∧T.rd w (T.ints 2 x.zB.zK) [v3]∧T.rd w (T.sl 130 4 (x.zB.zJ.map GPatch.t)) [v4]∧T.rd w (T.sl 139 3 (x.zB.zF.zD.map GStrip.t)) [v5]∧T.rd w (T.ints 2 x.yA) [v6]∧T.rd w (T.ints 2 x.zU) [v7]:=by
 simp only[GCache.fs,T.rds_num,T.rds_str,T.rds_sl,T.rds_nil] at h
 obtain⟨_,rfl,v1,_,rfl,h1,v2,_,rfl,h2,v3,_,rfl,h3,v4,_,rfl,h4,v5,_,rfl,h5,v6,_,rfl,h6,v7,_,rfl,h7,rfl⟩:=h
 exact⟨v1,v2,v3,v4,v5,v6,v7,rfl,h1,h2,h3,h4,h5,h6,h7⟩
theorem GCache.rd_mk {w:World} {x:GCache} {v1:Value} {v2:Value} {v3:Value} {v4:Value} {v5:Value} {v6:Value} {v7:Value} (h1:T.rd w (T.sl 24 1 (x.zB.zG.map (T.ints 2))) [v1]) (h2:T.rd w (T.sl 126 1 (x.zB.zE.map GTrack.t)) [v2]) (h3:T.rd w (T.ints 2 x.zB.zK) [v3]) (h4:T.rd w (T.sl 130 4 (x.zB.zJ.map GPatch.t)) [v4]) (h5:T.rd w (T.sl 139 3 (x.zB.zF.zD.map GStrip.t)) [v5]) (h6:T.rd w (T.ints 2 x.yA) [v6]) (h7:T.rd w (T.ints 2 x.zU) [v7]):T.rds w x.fs [.int .i64 x.zB.zA,v1,v2,v3,v4,v5,v6,v7]:=by
 unfold GCache.fs;exact T.c_rn (T.c_rl h1 (T.c_rl h2 (T.c_rl h3 (T.c_rl h4 (T.c_rl h5 (T.c_rl h6 (T.c_rl h7 (T.c_re))))))))
theorem GCache.ow_open {w:World} {x:GCache} {F:List Nat} {cs:List Value} (h:T.ows w x.fs F cs): ∃ v1 v2 v3 v4 v5 v6 v7 F1 F2 F3 F4 F5 F6 F7,cs= [.int .i64 x.zB.zA,v1,v2,v3,v4,v5,v6,v7]∧F=F1++(F2++(F3++(F4++(F5++(F6++(F7++ []))))))∧T.ow w (T.sl 24 1 (x.zB.zG.map (T.ints 2))) F1 [v1]∧T.ow w (T.sl 126 1 (x.zB.zE.map GTrack.t)) F2 [v2]∧T.ow w (T.ints 2 x.zB.zK) F3 [v3]∧T.ow w (T.sl 130 4 (x.zB.zJ.map GPatch.t)) F4 [v4]∧T.ow w (T.sl 139 3 (x.zB.zF.zD.map GStrip.t)) F5 [v5]∧T.ow w (T.ints 2 x.yA) F6 [v6]∧T.ow w (T.ints 2 x.zU) F7 [v7]:=by
 simp only[GCache.fs,T.ows_num,T.ows_str,T.ows_sl,T.ows_nil] at h
 obtain⟨_,rfl,v1,_,F1,_,rfl,rfl,h1,v2,_,F2,_,rfl,rfl,h2,v3,_,F3,_,rfl,rfl,h3,v4,_,F4,_,rfl,rfl,h4,v5,_,F5,_,rfl,rfl,h5,v6,_,F6,_,rfl,rfl,h6,v7,_,F7,_,rfl,rfl,h7,rfl,rfl⟩:=h
 exact⟨v1,v2,v3,v4,v5,v6,v7,F1,F2,F3,F4,F5,F6,F7,rfl,rfl,h1,h2,h3,h4,h5,h6,h7⟩
theorem GCache.ow_mk {w:World} {x:GCache} {v1:Value} {F1:List Nat} {v2:Value} {F2:List Nat} {v3:Value} {F3:List Nat} {v4:Value} {F4:List Nat} {v5:Value} {F5:List Nat} {v6:Value} {F6:List Nat} {v7:Value} {F7:List Nat} (h1:T.ow w (T.sl 24 1 (x.zB.zG.map (T.ints 2))) F1 [v1]) (h2:T.ow w (T.sl 126 1 (x.zB.zE.map GTrack.t)) F2 [v2]) (h3:T.ow w (T.ints 2 x.zB.zK) F3 [v3]) (h4:T.ow w (T.sl 130 4 (x.zB.zJ.map GPatch.t)) F4 [v4]) (h5:T.ow w (T.sl 139 3 (x.zB.zF.zD.map GStrip.t)) F5 [v5]) (h6:T.ow w (T.ints 2 x.yA) F6 [v6]) (h7:T.ow w (T.ints 2 x.zU) F7 [v7]):T.ows w x.fs (F1++(F2++(F3++(F4++(F5++(F6++(F7++ []))))))) [.int .i64 x.zB.zA,v1,v2,v3,v4,v5,v6,v7]:=by
 unfold GCache.fs;exact T.c_on (T.c_ol h1 (T.c_ol h2 (T.c_ol h3 (T.c_ol h4 (T.c_ol h5 (T.c_ol h6 (T.c_ol h7 (T.c_oe))))))))
structure GEdit where
 zC:Int
 zV:Int
 zZ:Int
 zY:Int
 zP:GClip
deriving DecidableEq
def GEdit.fs (x:GEdit):List T:= [.num x.zC,.num x.zV,.num x.zZ,.num x.zY,.num x.zP.zO,.num x.zP.zI,.num x.zP.zA,.num x.zP.zW,.num x.zP.zQ]
def GEdit.good (x:GEdit):Prop:=I64 x.zC∧I64 x.zV∧I64 x.zZ∧I64 x.zY∧I64 x.zP.zO∧I64 x.zP.zI∧I64 x.zP.zA∧I64 x.zP.zW∧I64 x.zP.zQ
theorem GEdit.yL {w:World} {x:GEdit} {cs:List Value} (h:T.rds w x.fs cs):cs= [.int .i64 x.zC,.int .i64 x.zV,.int .i64 x.zZ,.int .i64 x.zY,.int .i64 x.zP.zO,.int .i64 x.zP.zI,.int .i64 x.zP.zA,.int .i64 x.zP.zW,.int .i64 x.zP.zQ]:=by
 simp only[GEdit.fs,T.rds_num,T.rds_str,T.rds_sl,T.rds_nil] at h
 obtain⟨_,rfl,_,rfl,_,rfl,_,rfl,_,rfl,_,rfl,_,rfl,_,rfl,_,rfl,rfl⟩:=h
 exact rfl
theorem GEdit.rd_mk {w:World} {x:GEdit} :T.rds w x.fs [.int .i64 x.zC,.int .i64 x.zV,.int .i64 x.zZ,.int .i64 x.zY,.int .i64 x.zP.zO,.int .i64 x.zP.zI,.int .i64 x.zP.zA,.int .i64 x.zP.zW,.int .i64 x.zP.zQ]:=by
 unfold GEdit.fs;exact T.c_rn (T.c_rn (T.c_rn (T.c_rn (T.c_rn (T.c_rn (T.c_rn (T.c_rn (T.c_rn (T.c_re)))))))))
end Go.Proofs.YteiflbhcehajkaaGreat
end
section
namespace Go.Proofs.YteiflbhcehajkaaGreat
open Go.RowKit
noncomputable def tf (p:Prop):Bool:= @decide p (Classical.propDecidable p)
theorem yW {p:Prop} (h:p):tf p=true:=by unfold tf;exact @decide_eq_true p (Classical.propDecidable p) h
theorem yV {p:Prop} (h: ¬ p):tf p=false:=by unfold tf;exact @decide_eq_false p (Classical.propDecidable p) h
theorem tf_iff {p q:Prop} (h:p↔q):tf p=tf q:=by rw[propext h]
theorem tf_true {p:Prop} :tf p=true↔p:=by
 constructor
 ·intro e
  apply Classical.byContradiction
  intro h
  rw[yV h] at e
  exact absurd e (by simp)
 ·exact yW
theorem tf_dec {p:Prop} [d:Decidable p]:tf p=decide p:=by
 by_cases h:p
 ·rw[yW h,decide_eq_true h]
 ·rw[yV h,decide_eq_false h]
theorem tf_and {p q:Prop} :(tf p && tf q)=tf (p∧q):=by
 rw[Bool.eq_iff_iff];simp[tf_true]
/-- The first k elements are right; all are. -/
def Upto {α:Type} (xs:List α) (Q:Nat→α→Prop) (k:Nat):Prop:= ∀ i x,i<k→xs[i]?=some x→Q i x
def Each {α:Type} (xs:List α) (Q:Nat→α→Prop):Prop:= ∀ i x,xs[i]?=some x→Q i x
section
variable {α:Type} {xs:List α} {Q:Nat→α→Prop} {k:Nat} {x:α}
theorem Upto.zero:Upto xs Q 0:=fun i _ h=>absurd h (Nat.not_lt_zero i)
theorem Upto.step (h:Upto xs Q k) (hx:xs[k]?=some x) (q:Q k x):Upto xs Q (k+1):=by
 intro i y hi hy
 by_cases e:i=k
 ·subst e
  rw[hx] at hy
  injection hy with hy
  subst hy
  exact q
 ·exact h i y (by omega) hy
theorem Upto.all (h:Upto xs Q k) (hk:xs.length≤k):Each xs Q:=fun i y hy=>h i y (Nat.lt_of_lt_of_le (List.getElem?_eq_some_iff.1 hy).1 hk) hy
theorem Each.of_mem {P:α→Prop} :Each xs (fun _ y=>P y)↔ ∀ y ∈ xs,P y:=by
 constructor
 ·intro h y hy
  obtain⟨i,hi,rfl⟩:=List.mem_iff_getElem.1 hy
  exact h i _ (List.getElem?_eq_getElem hi)
 ·intro h i y hy
  exact h y (List.mem_of_getElem? hy)
end
/-- Numbers from 0 on and below n. -/
def Idx (l:List Int) (n:Int):Prop:=Each l fun _ x=>0≤x∧x≤n - 1
structure ClipOk (c:GClip):Prop where
 source:inB c.zO 0 5=true
 length:inB c.zA 1 4000=true
 from_:inB c.zI 0 (4000 - c.zA)=true
 at_:inB c.zW 0 (4000 - c.zA)=true
 gain:Smp c.zQ
structure TrackOk (t:GTrack):Prop where
 clips:Each t.zL fun i c=>ClipOk c∧ ∀ p,0<i→t.zL[i - 1]?=some p→p.zW≤c.zW
 few:t.zL.length≤12
def befS (l:List GSend) (strip:Int) (i:Nat):Int:=if i=0 then strip else (l.getD (i - 1) ⟨0,0⟩).yB
structure SendsOk (l:List GSend) (strip n:Int):Prop where
 each:Each l fun i x=>inB x.yB (befS l strip i+1) (n - 1)=true∧Smp x.zQ
 last:strip=n - 1→l.length=0
 few:strip≠n - 1→1≤l.length∧l.length≤4
def smallN (c:Nat):Prop:=97≤c∧c≤122
def digitN (c:Nat):Prop:=48≤c∧c≤57
structure NameOk (s:ByteArray):Prop where
 some_:1≤s.size
 few:s.size≤10
 each: ∀ i,i<s.size→smallN (bA s i)∨(digitN (bA s i)∧i≠0)
structure StripOk (x:GStrip) (i n:Int):Prop where
 name:NameOk x.zX
 latency:inB x.zT 0 32=true
 sends:SendsOk x.zS i n
structure MixerOk (m:GMixer):Prop where
 some_:1≤m.zD.length
 few:m.zD.length≤8
 each:Each m.zD fun i x=>StripOk x (i:Int) (m.zD.length:Int)∧ ∀ j y,j<i→m.zD[j]?=some y→y.zX≠x.zX
structure SourcesOk (ss:List (List Int)):Prop where
 each:Each ss fun _ l=>sigB l=true
 few:ss.length≤6
structure TablesOk (ts:List (List Int)):Prop where
 each:Each ts fun _ t=>(t.length=2∨t.length=4∨t.length=8∨t.length=16)∧smpB t=true
 few:ts.length≤4
/-- What is known of a kind of nodes: its inputs, the range of A (none if the first is greater), whether it has B. -/
structure Knd where
 inputs:Int
 low:Int
 high:Int
 linear:Bool
 hasB:Bool
def kndL:List Knd:= [⟨0,0,3,true,false⟩,⟨0,-2147483648,2147483647,false,false⟩,⟨2,1,0,true,false⟩,⟨2,1,0,true,false⟩,⟨1,-2147483648,2147483647,true,false⟩,⟨1,1,16,true,false⟩,⟨1,1,0,true,false⟩,⟨1,1,0,true,false⟩,⟨2,1,0,false,false⟩,⟨1,0,31,false,false⟩,⟨1,0,2147483647,false,false⟩,⟨1,-2147483648,2147483647,false,false⟩,⟨1,0,3,false,false⟩,⟨0,-2147483648,2147483647,false,false⟩,⟨3,1,0,false,false⟩,⟨2,1,0,false,false⟩,⟨1,-2147483648,2147483647,true,true⟩]
def kndF (k:Int):Knd:=kndL.getD (k - 1).toNat ⟨0,0,0,false,false⟩
structure NodeOk (x:GNode) (tables:Int):Prop where
 kind:inB x.zC 1 17=true
 a:if (kndF x.zC).low≤(kndF x.zC).high then inB x.fA (kndF x.zC).low (kndF x.zC).high=true else x.fA=0
 b:if (kndF x.zC).hasB then inB x.fB 1 16=true else x.fB=0
 from_:Each x.zI fun _ f=>inB f 0 23=true
 arity:(x.zI.length:Int)=(kndF x.zC).inputs
 table:x.zC=13→x.fA<tables
structure FormedOk (p:GPatch):Prop where
 inputs:inB p.zM 0 4=true
 tables:TablesOk p.zR
 few:p.zH.length≤24
 outs:p.zN.length≤4
 outputs:Idx p.zN (p.zH.length:Int)
 nodes:Each p.zH fun _ x=>NodeOk x (p.zR.length:Int)∧Idx x.zI (p.zH.length:Int)∧(x.zC=1→x.fA<p.zM)
/-- The nodes that a node waits for. -/
def waitsF (x:GNode):List Int:=if x.zC=6 then [] else x.zI
def readyB (nodes:List GNode) (out:List Int) (i:Nat):Bool:= !out.contains (i:Int) && ((nodes[i]?).map fun x=>(waitsF x).all fun f=>out.contains f).getD false
def nextF (nodes:List GNode) (out:List Int):Option Nat:=(List.range nodes.length).find? (readyB nodes out)
/-- The order in which nodes are computed: the first steps. -/
def yX (nodes:List GNode):Nat→List Int
 |0=> []
 |k+1=>match nextF nodes (yX nodes k) with
  |some i=>yX nodes k++ [(i:Int)]
  |none=>yX nodes k
def orderF (nodes:List GNode):List Int:=yX nodes nodes.length
theorem ordNodes_stop {nodes:List GNode} {k:Nat} (h:nextF nodes (yX nodes k)=none): ∀ m,yX nodes (k+m)=yX nodes k:=by
 intro m
 induction m with
 |zero=>rfl
 |succ m ih=>
  rw[←Nat.add_assoc]
  simp only[yX]
  rw[ih,h]
theorem nextF_some {nodes:List GNode} {out:List Int} {i:Nat} (hi:i<nodes.length) (hr:readyB nodes out i=true) (hb: ∀ j,j<i→readyB nodes out j=false):nextF nodes out=some i:=by
 unfold nextF
 rw[List.find?_eq_some_iff_getElem]
 refine⟨hr,i,by simpa using hi,by simp,fun j hj=>by simp[hb j hj]⟩
theorem nextF_none {nodes:List GNode} {out:List Int} (hb: ∀ j,j<nodes.length→readyB nodes out j=false):nextF nodes out=none:=by
 unfold nextF
 rw[List.find?_eq_none]
 intro j hj
 simp[hb j (by simpa using hj)]
theorem nextF_inv {nodes:List GNode} {out:List Int} {i:Nat} (h:nextF nodes out=some i):i<nodes.length∧readyB nodes out i=true:=by
 unfold nextF at h
 exact⟨by simpa using List.mem_of_find?_eq_some h,List.find?_some h⟩
theorem ordNodes_in {nodes:List GNode} : ∀ k,(yX nodes k).Nodup∧ ∀ x ∈ yX nodes k,0≤x∧x<(nodes.length:Int)
 |0=>by simp[yX]
 |k+1=>by
  obtain⟨h1,h2⟩:=ordNodes_in (nodes:=nodes) k
  simp only[yX]
  split
  ·next i h=>
   obtain⟨hi,hr⟩:=nextF_inv h
   have hn:(i:Int) ∉ yX nodes k:=by
    simp only[readyB,Bool.and_eq_true,Bool.not_eq_true'] at hr
    simpa using hr.1
   refine⟨?_,?_⟩
   ·rw[List.nodup_append]
    refine⟨h1,by simp,fun a ha b hb e=>?_⟩
    simp at hb
    subst hb e
    exact hn ha
   ·intro x hx
    rcases List.mem_append.1 hx with hx|hx
    ·exact h2 x hx
    ·simp at hx;subst hx;omega
  ·exact⟨h1,h2⟩
theorem nodup_range: ∀ (n:Nat) (l:List Nat),l.Nodup→(∀ x ∈ l,x<n)→l.length≤n
 |0,[],_,_=>Nat.le_refl _
 |0,x :: _,_,h=>absurd (h x (by simp)) (by omega)
 |n+1,l,h1,h2=>by
  by_cases hm:n ∈ l
  ·have h3:=nodup_range n (l.erase n) (h1.erase n) (fun x hx=>by
    have:=(h1.mem_erase_iff).1 hx
    have h4:=h2 x this.2
    have h5:=this.1
    omega)
   rw[List.length_erase_of_mem hm] at h3
   omega
  ·have h3:=nodup_range n l h1 (fun x hx=>by
    have h4:=h2 x hx
    have:x≠n:=fun e=>hm (e ▸ hx)
    omega)
   omega
theorem nodup_bound {n:Nat} {l:List Int} (h1:l.Nodup) (h2: ∀ x ∈ l,0≤x∧x<(n:Int)):l.length≤n:=by
 have h3:(l.map Int.toNat).Nodup:=by
  rw[List.Nodup,List.pairwise_map]
  refine List.Pairwise.imp_of_mem ?_ h1
  intro a b ha hb hab e
  have:=h2 a ha
  have:=h2 b hb
  omega
 have:=nodup_range n _ h3 (fun x hx=>by
  obtain⟨y,hy,rfl⟩:=List.mem_map.1 hx
  have:=h2 y hy
  omega)
 simpa using this
theorem ordNodes_cap {nodes:List GNode} (k:Nat):(yX nodes k).length≤nodes.length:=nodup_bound (ordNodes_in k).1 (ordNodes_in k).2
/-- Where the order stops, it has stopped for good. -/
theorem orderF_of_stop {nodes:List GNode} {k:Nat} (h:nextF nodes (yX nodes k)=none) (hk:(yX nodes k).length=k):orderF nodes=yX nodes k:=by
 have hc:=ordNodes_cap (nodes:=nodes) k
 unfold orderF
 rw[show nodes.length=k+(nodes.length - k) by omega]
 exact ordNodes_stop h _
theorem ordNodes_snoc {nodes:List GNode} {k i:Nat} (h:nextF nodes (yX nodes k)=some i):yX nodes (k+1)=yX nodes k++ [(i:Int)]:=by
 simp only[yX,h]
structure PatchOk (p:GPatch):Prop where
 formed:FormedOk p
 order:(orderF p.zH).length=p.zH.length
def noPatch:GPatch:=⟨0,[],[],[]⟩
def EffectOk (p:GPatch):Prop:=p=noPatch∨(PatchOk p∧p.zM=1∧p.zN.length=1)
structure SessionOk (s:GSession):Prop where
 length:inB s.zA 0 1000=true
 sources:SourcesOk s.zG
 few:s.zE.length≤6
 mixer:MixerOk s.zF
 feed:s.zK.length=s.zE.length
 feeds:Idx s.zK (s.zF.zD.length:Int)
 effect:s.zJ.length=s.zF.zD.length
 tracks:Each s.zE fun _ t=>TrackOk t∧Each t.zL fun _ c=>c.zO<(s.zG.length:Int)
 effects:Each s.zJ fun _ p=>EffectOk p
def blocksF (n:Int):Int:=(n+15) / 16
structure CacheOk (c:GCache):Prop where
 session:SessionOk c.zB
 length:(c.yA.length:Int)=c.zB.zA
 mix:smpB c.yA=true
 dirty:Each c.zU fun i b=>(0≤b∧b≤blocksF c.zB.zA - 1)∧ ∀ p,0<i→c.zU[i - 1]?=some p→p<b
end Go.Proofs.YteiflbhcehajkaaGreat
end
