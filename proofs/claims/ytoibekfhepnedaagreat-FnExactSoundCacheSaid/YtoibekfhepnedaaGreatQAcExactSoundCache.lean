/- Arguments that are structs read as nested data. Laws for data that a call lays anew: blocks in order, elements stored one by one. No program is named here. Contracts of the smallest functions. -/
import Derived.Test.YtoibekfhepnedaaGreatQAbExactSoundCache
import Derived.Test.YtoibekfhepnedaaGreatQAaExactSoundCache
import Derived.Test.YtoibekfhepnedaaGreatRows
set_option linter.unusedVariables false
set_option linter.unusedSimpArgs false
set_option maxHeartbeats 400000
section
namespace Go.Proofs.YtoibekfhepnedaaGreat
open Go.RowKit Go.ChangeShapes Go.WideShapes Go.Deep
theorem len_of {α:Type} : ∀ (n:Nat) (l:List α),l.length=n+1→ ∃ a t,l=a :: t∧t.length=n
 |n,a :: t,h=>⟨a,t,rfl,by simpa using h⟩
theorem i64_ok {n:Int} (h:(Lit.int .i64 n).wf=true):I64 n:=i64_of_wf h
theorem op_n {H:Type} {enc:TypeId × Value→H} {W:World} {base:Nat} {spare:Nat→Bool} {held:Bool} {fuel:Nat} {cs:List Value} {x:DataW H × List MemPlace} (h:DataW.trod enc Tryz.prog W base spare held fuel 2 cs=some x): ∃ n:Int,cs= [.int .i64 n]∧I64 n:=by
 obtain⟨n,e,_,hw⟩:=DataW.trod_int Tryz.underlying2 h
 exact⟨n,e,i64_ok hw⟩
theorem op_s {H:Type} {enc:TypeId × Value→H} {W:World} {base:Nat} {spare:Nat→Bool} {held:Bool} {fuel:Nat} {cs:List Value} {x:DataW H × List MemPlace} (h:DataW.trod enc Tryz.prog W base spare held fuel 9 cs=some x): ∃ n:ByteArray,cs= [.string n]∧n.size≤9223372036854775807:=by
 obtain⟨n,e,_,hw⟩:=DataW.trod_string Tryz.underlying9 h
 exact⟨n,e,by unfold maxLen at hw;omega⟩
theorem op_LI {H:Type} {enc:TypeId × Value→H} {W:World} {base:Nat} {spare:Nat→Bool} {held:Bool} {fuel:Nat} {cs:List Value} {x:DataW H × List MemPlace} (h:DataW.trod enc Tryz.prog W base spare held fuel 26 cs=some x): ∃ (v:Value) (xs:List Int),cs= [v]∧T.rd W (T.ints 2 xs) [v]∧ ∀ y ∈ xs,I64 y:=
 rdT_open 2 T.num I64 (fun _=>rfl) (by omega) 0 Tryz.underlying26 (by kernel_rfl) (fun n cs' y hy=>by
  obtain⟨z,e,hz⟩:=op_n hy
  exact⟨z,by simp only[T.rd];exact e,hz⟩) h
theorem op_LL {H:Type} {enc:TypeId × Value→H} {W:World} {base:Nat} {spare:Nat→Bool} {held:Bool} {fuel:Nat} {cs:List Value} {x:DataW H × List MemPlace} (h:DataW.trod enc Tryz.prog W base spare held fuel 24 cs=some x): ∃ (v:Value) (xs:List (List Int)),cs= [v]∧T.rd W (T.sl 26 1 (xs.map (T.ints 2))) [v]∧ ∀ l ∈ xs,∀ y ∈ l,I64 y:=
 rdT_open 26 (T.ints 2) (fun l=> ∀ y ∈ l,I64 y) (fun _=>rfl) (by omega) [] Tryz.underlying24 (by kernel_rfl) (fun n cs' y hy=>by
  obtain⟨v,z,e,hr,hz⟩:=op_LI hy
  exact⟨z,by rw[e];exact hr,hz⟩) h
theorem op_Clip {H:Type} {enc:TypeId × Value→H} {W:World} {base:Nat} {spare:Nat→Bool} {held:Bool} {fuel:Nat} {cs:List Value} {x:DataW H × List MemPlace} (h:DataW.trod enc Tryz.prog W base spare held fuel 282 cs=some x): ∃ g:GClip,T.rds W g.fs cs∧g.good:=by
 obtain⟨ys,k,_,_,hcl,hyl,hf⟩:=DataW.trod_struct Tryz.underlying282 h
 have hl5:cs.length=5:=hcl.trans (by kernel_rfl)
 obtain⟨c0,cs0,rfl,hl4⟩:=len_of 4 _ hl5
 obtain⟨c1,cs1,rfl,hl3⟩:=len_of 3 _ hl4
 obtain⟨c2,cs2,rfl,hl2⟩:=len_of 2 _ hl3
 obtain⟨c3,cs3,rfl,hl1⟩:=len_of 1 _ hl2
 obtain⟨c4,cs4,rfl,hl0⟩:=len_of 0 _ hl1
 obtain rfl:cs4= []:=List.eq_nil_of_length_eq_zero hl0
 have hyn:ys.length=5:=hyl
 have z0:Tryz.prog.cellsOf 2=1:=by kernel_rfl
 have g0:DataW.trod enc Tryz.prog W base spare held k 2 (List.take (Tryz.prog.cellsOf 2) (List.drop 0 [c0,c1,c2,c3,c4]))=ys[0]?:=hf 0 _ rfl
 rw[z0,List.getElem?_eq_getElem (by omega)] at g0
 replace g0:DataW.trod enc Tryz.prog W base spare held k 2 [c0]=some _:=g0
 obtain⟨n0,e0,w0⟩:=op_n g0
 have g1:DataW.trod enc Tryz.prog W base spare held k 2 (List.take (Tryz.prog.cellsOf 2) (List.drop 1 [c0,c1,c2,c3,c4]))=ys[1]?:=hf 1 _ rfl
 rw[z0,List.getElem?_eq_getElem (by omega)] at g1
 replace g1:DataW.trod enc Tryz.prog W base spare held k 2 [c1]=some _:=g1
 obtain⟨n1,e1,w1⟩:=op_n g1
 have g2:DataW.trod enc Tryz.prog W base spare held k 2 (List.take (Tryz.prog.cellsOf 2) (List.drop 2 [c0,c1,c2,c3,c4]))=ys[2]?:=hf 2 _ rfl
 rw[z0,List.getElem?_eq_getElem (by omega)] at g2
 replace g2:DataW.trod enc Tryz.prog W base spare held k 2 [c2]=some _:=g2
 obtain⟨n2,e2,w2⟩:=op_n g2
 have g3:DataW.trod enc Tryz.prog W base spare held k 2 (List.take (Tryz.prog.cellsOf 2) (List.drop 3 [c0,c1,c2,c3,c4]))=ys[3]?:=hf 3 _ rfl
 rw[z0,List.getElem?_eq_getElem (by omega)] at g3
 replace g3:DataW.trod enc Tryz.prog W base spare held k 2 [c3]=some _:=g3
 obtain⟨n3,e3,w3⟩:=op_n g3
 have g4:DataW.trod enc Tryz.prog W base spare held k 2 (List.take (Tryz.prog.cellsOf 2) (List.drop 4 [c0,c1,c2,c3,c4]))=ys[4]?:=hf 4 _ rfl
 rw[z0,List.getElem?_eq_getElem (by omega)] at g4
 replace g4:DataW.trod enc Tryz.prog W base spare held k 2 [c4]=some _:=g4
 obtain⟨n4,e4,w4⟩:=op_n g4
 obtain rfl:c0=_:=(List.cons.inj e0).1
 obtain rfl:c1=_:=(List.cons.inj e1).1
 obtain rfl:c2=_:=(List.cons.inj e2).1
 obtain rfl:c3=_:=(List.cons.inj e3).1
 obtain rfl:c4=_:=(List.cons.inj e4).1
 refine⟨⟨n0,n1,n2,n3,n4⟩,?_,⟨w0,w1,w2,w3,w4⟩⟩
 unfold GClip.fs
 exact T.c_rn (T.c_rn (T.c_rn (T.c_rn (T.c_rn (T.c_re)))))
theorem op_LClip {H:Type} {enc:TypeId × Value→H} {W:World} {base:Nat} {spare:Nat→Bool} {held:Bool} {fuel:Nat} {cs:List Value} {x:DataW H × List MemPlace} (h:DataW.trod enc Tryz.prog W base spare held fuel 183 cs=some x): ∃ (v:Value) (xs:List GClip),cs= [v]∧T.rd W (T.sl 39 5 (xs.map GClip.t)) [v]∧ ∀ y ∈ xs,GClip.good y:=
 rdT_open 39 GClip.t GClip.good GClip.wide_t (by omega) ⟨0,0,0,0,0⟩ Tryz.underlying183 (by kernel_rfl) (fun n cs' y hy=>by
  obtain⟨z,hz,hg⟩:=op_Clip hy
  exact⟨z,by simp only[GClip.t,T.rd];exact hz,hg⟩) h
theorem op_Track {H:Type} {enc:TypeId × Value→H} {W:World} {base:Nat} {spare:Nat→Bool} {held:Bool} {fuel:Nat} {cs:List Value} {x:DataW H × List MemPlace} (h:DataW.trod enc Tryz.prog W base spare held fuel 185 cs=some x): ∃ g:GTrack,T.rds W g.fs cs∧g.good:=by
 obtain⟨ys,k,_,_,hcl,hyl,hf⟩:=DataW.trod_struct Tryz.underlying185 h
 have hl1:cs.length=1:=hcl.trans (by kernel_rfl)
 obtain⟨c0,cs0,rfl,hl0⟩:=len_of 0 _ hl1
 obtain rfl:cs0= []:=List.eq_nil_of_length_eq_zero hl0
 have hyn:ys.length=1:=hyl
 have z0:Tryz.prog.cellsOf 183=1:=by kernel_rfl
 have g0:DataW.trod enc Tryz.prog W base spare held k 183 (List.take (Tryz.prog.cellsOf 183) (List.drop 0 [c0]))=ys[0]?:=hf 0 _ rfl
 rw[z0,List.getElem?_eq_getElem (by omega)] at g0
 replace g0:DataW.trod enc Tryz.prog W base spare held k 183 [c0]=some _:=g0
 obtain⟨v0,n0,e0,r0,w0⟩:=op_LClip g0
 obtain rfl:c0=v0:=(List.cons.inj e0).1
 refine⟨⟨n0⟩,?_,w0⟩
 unfold GTrack.fs
 exact T.c_rl r0 (T.c_re)
theorem op_LTrack {H:Type} {enc:TypeId × Value→H} {W:World} {base:Nat} {spare:Nat→Bool} {held:Bool} {fuel:Nat} {cs:List Value} {x:DataW H × List MemPlace} (h:DataW.trod enc Tryz.prog W base spare held fuel 53 cs=some x): ∃ (v:Value) (xs:List GTrack),cs= [v]∧T.rd W (T.sl 96 1 (xs.map GTrack.t)) [v]∧ ∀ y ∈ xs,GTrack.good y:=
 rdT_open 96 GTrack.t GTrack.good GTrack.wide_t (by omega) ⟨[]⟩ Tryz.underlying53 (by kernel_rfl) (fun n cs' y hy=>by
  obtain⟨z,hz,hg⟩:=op_Track hy
  exact⟨z,by simp only[GTrack.t,T.rd];exact hz,hg⟩) h
theorem op_Node {H:Type} {enc:TypeId × Value→H} {W:World} {base:Nat} {spare:Nat→Bool} {held:Bool} {fuel:Nat} {cs:List Value} {x:DataW H × List MemPlace} (h:DataW.trod enc Tryz.prog W base spare held fuel 279 cs=some x): ∃ g:GNode,T.rds W g.fs cs∧g.good:=by
 obtain⟨ys,k,_,_,hcl,hyl,hf⟩:=DataW.trod_struct Tryz.underlying279 h
 have hl4:cs.length=4:=hcl.trans (by kernel_rfl)
 obtain⟨c0,cs0,rfl,hl3⟩:=len_of 3 _ hl4
 obtain⟨c1,cs1,rfl,hl2⟩:=len_of 2 _ hl3
 obtain⟨c2,cs2,rfl,hl1⟩:=len_of 1 _ hl2
 obtain⟨c3,cs3,rfl,hl0⟩:=len_of 0 _ hl1
 obtain rfl:cs3= []:=List.eq_nil_of_length_eq_zero hl0
 have hyn:ys.length=4:=hyl
 have z0:Tryz.prog.cellsOf 26=1:=by kernel_rfl
 have z1:Tryz.prog.cellsOf 2=1:=by kernel_rfl
 have g0:DataW.trod enc Tryz.prog W base spare held k 2 (List.take (Tryz.prog.cellsOf 2) (List.drop 0 [c0,c1,c2,c3]))=ys[0]?:=hf 0 _ rfl
 rw[z1,List.getElem?_eq_getElem (by omega)] at g0
 replace g0:DataW.trod enc Tryz.prog W base spare held k 2 [c0]=some _:=g0
 obtain⟨n0,e0,w0⟩:=op_n g0
 have g1:DataW.trod enc Tryz.prog W base spare held k 2 (List.take (Tryz.prog.cellsOf 2) (List.drop 1 [c0,c1,c2,c3]))=ys[1]?:=hf 1 _ rfl
 rw[z1,List.getElem?_eq_getElem (by omega)] at g1
 replace g1:DataW.trod enc Tryz.prog W base spare held k 2 [c1]=some _:=g1
 obtain⟨n1,e1,w1⟩:=op_n g1
 have g2:DataW.trod enc Tryz.prog W base spare held k 2 (List.take (Tryz.prog.cellsOf 2) (List.drop 2 [c0,c1,c2,c3]))=ys[2]?:=hf 2 _ rfl
 rw[z1,List.getElem?_eq_getElem (by omega)] at g2
 replace g2:DataW.trod enc Tryz.prog W base spare held k 2 [c2]=some _:=g2
 obtain⟨n2,e2,w2⟩:=op_n g2
 have g3:DataW.trod enc Tryz.prog W base spare held k 26 (List.take (Tryz.prog.cellsOf 26) (List.drop 3 [c0,c1,c2,c3]))=ys[3]?:=hf 3 _ rfl
 rw[z0,List.getElem?_eq_getElem (by omega)] at g3
 replace g3:DataW.trod enc Tryz.prog W base spare held k 26 [c3]=some _:=g3
 obtain⟨v3,n3,e3,r3,w3⟩:=op_LI g3
 obtain rfl:c0=_:=(List.cons.inj e0).1
 obtain rfl:c1=_:=(List.cons.inj e1).1
 obtain rfl:c2=_:=(List.cons.inj e2).1
 obtain rfl:c3=v3:=(List.cons.inj e3).1
 refine⟨⟨n0,n1,n2,n3⟩,?_,⟨w0,w1,w2,w3⟩⟩
 unfold GNode.fs
 exact T.c_rn (T.c_rn (T.c_rn (T.c_rl r3 (T.c_re))))
theorem op_LNode {H:Type} {enc:TypeId × Value→H} {W:World} {base:Nat} {spare:Nat→Bool} {held:Bool} {fuel:Nat} {cs:List Value} {x:DataW H × List MemPlace} (h:DataW.trod enc Tryz.prog W base spare held fuel 187 cs=some x): ∃ (v:Value) (xs:List GNode),cs= [v]∧T.rd W (T.sl 167 4 (xs.map GNode.t)) [v]∧ ∀ y ∈ xs,GNode.good y:=
 rdT_open 167 GNode.t GNode.good GNode.wide_t (by omega) ⟨0,0,0,[]⟩ Tryz.underlying187 (by kernel_rfl) (fun n cs' y hy=>by
  obtain⟨z,hz,hg⟩:=op_Node hy
  exact⟨z,by simp only[GNode.t,T.rd];exact hz,hg⟩) h
theorem op_Patch {H:Type} {enc:TypeId × Value→H} {W:World} {base:Nat} {spare:Nat→Bool} {held:Bool} {fuel:Nat} {cs:List Value} {x:DataW H × List MemPlace} (h:DataW.trod enc Tryz.prog W base spare held fuel 189 cs=some x): ∃ g:GPatch,T.rds W g.fs cs∧g.good:=by
 obtain⟨ys,k,_,_,hcl,hyl,hf⟩:=DataW.trod_struct Tryz.underlying189 h
 have hl4:cs.length=4:=hcl.trans (by kernel_rfl)
 obtain⟨c0,cs0,rfl,hl3⟩:=len_of 3 _ hl4
 obtain⟨c1,cs1,rfl,hl2⟩:=len_of 2 _ hl3
 obtain⟨c2,cs2,rfl,hl1⟩:=len_of 1 _ hl2
 obtain⟨c3,cs3,rfl,hl0⟩:=len_of 0 _ hl1
 obtain rfl:cs3= []:=List.eq_nil_of_length_eq_zero hl0
 have hyn:ys.length=4:=hyl
 have z0:Tryz.prog.cellsOf 24=1:=by kernel_rfl
 have z1:Tryz.prog.cellsOf 26=1:=by kernel_rfl
 have z2:Tryz.prog.cellsOf 187=1:=by kernel_rfl
 have z3:Tryz.prog.cellsOf 2=1:=by kernel_rfl
 have g0:DataW.trod enc Tryz.prog W base spare held k 2 (List.take (Tryz.prog.cellsOf 2) (List.drop 0 [c0,c1,c2,c3]))=ys[0]?:=hf 0 _ rfl
 rw[z3,List.getElem?_eq_getElem (by omega)] at g0
 replace g0:DataW.trod enc Tryz.prog W base spare held k 2 [c0]=some _:=g0
 obtain⟨n0,e0,w0⟩:=op_n g0
 have g1:DataW.trod enc Tryz.prog W base spare held k 24 (List.take (Tryz.prog.cellsOf 24) (List.drop 1 [c0,c1,c2,c3]))=ys[1]?:=hf 1 _ rfl
 rw[z0,List.getElem?_eq_getElem (by omega)] at g1
 replace g1:DataW.trod enc Tryz.prog W base spare held k 24 [c1]=some _:=g1
 obtain⟨v1,n1,e1,r1,w1⟩:=op_LL g1
 have g2:DataW.trod enc Tryz.prog W base spare held k 187 (List.take (Tryz.prog.cellsOf 187) (List.drop 2 [c0,c1,c2,c3]))=ys[2]?:=hf 2 _ rfl
 rw[z2,List.getElem?_eq_getElem (by omega)] at g2
 replace g2:DataW.trod enc Tryz.prog W base spare held k 187 [c2]=some _:=g2
 obtain⟨v2,n2,e2,r2,w2⟩:=op_LNode g2
 have g3:DataW.trod enc Tryz.prog W base spare held k 26 (List.take (Tryz.prog.cellsOf 26) (List.drop 3 [c0,c1,c2,c3]))=ys[3]?:=hf 3 _ rfl
 rw[z1,List.getElem?_eq_getElem (by omega)] at g3
 replace g3:DataW.trod enc Tryz.prog W base spare held k 26 [c3]=some _:=g3
 obtain⟨v3,n3,e3,r3,w3⟩:=op_LI g3
 obtain rfl:c0=_:=(List.cons.inj e0).1
 obtain rfl:c1=v1:=(List.cons.inj e1).1
 obtain rfl:c2=v2:=(List.cons.inj e2).1
 obtain rfl:c3=v3:=(List.cons.inj e3).1
 refine⟨⟨n0,n1,n2,n3⟩,?_,⟨w0,w1,w2,w3⟩⟩
 unfold GPatch.fs
 exact T.c_rn (T.c_rl r1 (T.c_rl r2 (T.c_rl r3 (T.c_re))))
theorem op_LPatch {H:Type} {enc:TypeId × Value→H} {W:World} {base:Nat} {spare:Nat→Bool} {held:Bool} {fuel:Nat} {cs:List Value} {x:DataW H × List MemPlace} (h:DataW.trod enc Tryz.prog W base spare held fuel 54 cs=some x): ∃ (v:Value) (xs:List GPatch),cs= [v]∧T.rd W (T.sl 108 4 (xs.map GPatch.t)) [v]∧ ∀ y ∈ xs,GPatch.good y:=
 rdT_open 108 GPatch.t GPatch.good GPatch.wide_t (by omega) ⟨0,[],[],[]⟩ Tryz.underlying54 (by kernel_rfl) (fun n cs' y hy=>by
  obtain⟨z,hz,hg⟩:=op_Patch hy
  exact⟨z,by simp only[GPatch.t,T.rd];exact hz,hg⟩) h
theorem op_Send {H:Type} {enc:TypeId × Value→H} {W:World} {base:Nat} {spare:Nat→Bool} {held:Bool} {fuel:Nat} {cs:List Value} {x:DataW H × List MemPlace} (h:DataW.trod enc Tryz.prog W base spare held fuel 303 cs=some x): ∃ g:GSend,T.rds W g.fs cs∧g.good:=by
 obtain⟨ys,k,_,_,hcl,hyl,hf⟩:=DataW.trod_struct Tryz.underlying303 h
 have hl2:cs.length=2:=hcl.trans (by kernel_rfl)
 obtain⟨c0,cs0,rfl,hl1⟩:=len_of 1 _ hl2
 obtain⟨c1,cs1,rfl,hl0⟩:=len_of 0 _ hl1
 obtain rfl:cs1= []:=List.eq_nil_of_length_eq_zero hl0
 have hyn:ys.length=2:=hyl
 have z0:Tryz.prog.cellsOf 2=1:=by kernel_rfl
 have g0:DataW.trod enc Tryz.prog W base spare held k 2 (List.take (Tryz.prog.cellsOf 2) (List.drop 0 [c0,c1]))=ys[0]?:=hf 0 _ rfl
 rw[z0,List.getElem?_eq_getElem (by omega)] at g0
 replace g0:DataW.trod enc Tryz.prog W base spare held k 2 [c0]=some _:=g0
 obtain⟨n0,e0,w0⟩:=op_n g0
 have g1:DataW.trod enc Tryz.prog W base spare held k 2 (List.take (Tryz.prog.cellsOf 2) (List.drop 1 [c0,c1]))=ys[1]?:=hf 1 _ rfl
 rw[z0,List.getElem?_eq_getElem (by omega)] at g1
 replace g1:DataW.trod enc Tryz.prog W base spare held k 2 [c1]=some _:=g1
 obtain⟨n1,e1,w1⟩:=op_n g1
 obtain rfl:c0=_:=(List.cons.inj e0).1
 obtain rfl:c1=_:=(List.cons.inj e1).1
 refine⟨⟨n0,n1⟩,?_,⟨w0,w1⟩⟩
 unfold GSend.fs
 exact T.c_rn (T.c_rn (T.c_re))
theorem op_LSend {H:Type} {enc:TypeId × Value→H} {W:World} {base:Nat} {spare:Nat→Bool} {held:Bool} {fuel:Nat} {cs:List Value} {x:DataW H × List MemPlace} (h:DataW.trod enc Tryz.prog W base spare held fuel 241 cs=some x): ∃ (v:Value) (xs:List GSend),cs= [v]∧T.rd W (T.sl 98 2 (xs.map GSend.t)) [v]∧ ∀ y ∈ xs,GSend.good y:=
 rdT_open 98 GSend.t GSend.good GSend.wide_t (by omega) ⟨0,0⟩ Tryz.underlying241 (by kernel_rfl) (fun n cs' y hy=>by
  obtain⟨z,hz,hg⟩:=op_Send hy
  exact⟨z,by simp only[GSend.t,T.rd];exact hz,hg⟩) h
theorem op_Strip {H:Type} {enc:TypeId × Value→H} {W:World} {base:Nat} {spare:Nat→Bool} {held:Bool} {fuel:Nat} {cs:List Value} {x:DataW H × List MemPlace} (h:DataW.trod enc Tryz.prog W base spare held fuel 243 cs=some x): ∃ g:GStrip,T.rds W g.fs cs∧g.good:=by
 obtain⟨ys,k,_,_,hcl,hyl,hf⟩:=DataW.trod_struct Tryz.underlying243 h
 have hl3:cs.length=3:=hcl.trans (by kernel_rfl)
 obtain⟨c0,cs0,rfl,hl2⟩:=len_of 2 _ hl3
 obtain⟨c1,cs1,rfl,hl1⟩:=len_of 1 _ hl2
 obtain⟨c2,cs2,rfl,hl0⟩:=len_of 0 _ hl1
 obtain rfl:cs2= []:=List.eq_nil_of_length_eq_zero hl0
 have hyn:ys.length=3:=hyl
 have z0:Tryz.prog.cellsOf 241=1:=by kernel_rfl
 have z1:Tryz.prog.cellsOf 2=1:=by kernel_rfl
 have z2:Tryz.prog.cellsOf 9=1:=by kernel_rfl
 have g0:DataW.trod enc Tryz.prog W base spare held k 9 (List.take (Tryz.prog.cellsOf 9) (List.drop 0 [c0,c1,c2]))=ys[0]?:=hf 0 _ rfl
 rw[z2,List.getElem?_eq_getElem (by omega)] at g0
 replace g0:DataW.trod enc Tryz.prog W base spare held k 9 [c0]=some _:=g0
 obtain⟨n0,e0,w0⟩:=op_s g0
 have g1:DataW.trod enc Tryz.prog W base spare held k 2 (List.take (Tryz.prog.cellsOf 2) (List.drop 1 [c0,c1,c2]))=ys[1]?:=hf 1 _ rfl
 rw[z1,List.getElem?_eq_getElem (by omega)] at g1
 replace g1:DataW.trod enc Tryz.prog W base spare held k 2 [c1]=some _:=g1
 obtain⟨n1,e1,w1⟩:=op_n g1
 have g2:DataW.trod enc Tryz.prog W base spare held k 241 (List.take (Tryz.prog.cellsOf 241) (List.drop 2 [c0,c1,c2]))=ys[2]?:=hf 2 _ rfl
 rw[z0,List.getElem?_eq_getElem (by omega)] at g2
 replace g2:DataW.trod enc Tryz.prog W base spare held k 241 [c2]=some _:=g2
 obtain⟨v2,n2,e2,r2,w2⟩:=op_LSend g2
 obtain rfl:c0=_:=(List.cons.inj e0).1
 obtain rfl:c1=_:=(List.cons.inj e1).1
 obtain rfl:c2=v2:=(List.cons.inj e2).1
 refine⟨⟨n0,n1,n2⟩,?_,⟨w0,w1,w2⟩⟩
 unfold GStrip.fs
 exact T.c_rs (T.c_rn (T.c_rl r2 (T.c_re)))
theorem op_LStrip {H:Type} {enc:TypeId × Value→H} {W:World} {base:Nat} {spare:Nat→Bool} {held:Bool} {fuel:Nat} {cs:List Value} {x:DataW H × List MemPlace} (h:DataW.trod enc Tryz.prog W base spare held fuel 55 cs=some x): ∃ (v:Value) (xs:List GStrip),cs= [v]∧T.rd W (T.sl 101 3 (xs.map GStrip.t)) [v]∧ ∀ y ∈ xs,GStrip.good y:=
 rdT_open 101 GStrip.t GStrip.good GStrip.wide_t (by omega) ⟨ByteArray.empty,0,[]⟩ Tryz.underlying55 (by kernel_rfl) (fun n cs' y hy=>by
  obtain⟨z,hz,hg⟩:=op_Strip hy
  exact⟨z,by simp only[GStrip.t,T.rd];exact hz,hg⟩) h
theorem op_Mixer {H:Type} {enc:TypeId × Value→H} {W:World} {base:Nat} {spare:Nat→Bool} {held:Bool} {fuel:Nat} {cs:List Value} {x:DataW H × List MemPlace} (h:DataW.trod enc Tryz.prog W base spare held fuel 57 cs=some x): ∃ g:GMixer,T.rds W g.fs cs∧g.good:=by
 obtain⟨ys,k,_,_,hcl,hyl,hf⟩:=DataW.trod_struct Tryz.underlying57 h
 have hl1:cs.length=1:=hcl.trans (by kernel_rfl)
 obtain⟨c0,cs0,rfl,hl0⟩:=len_of 0 _ hl1
 obtain rfl:cs0= []:=List.eq_nil_of_length_eq_zero hl0
 have hyn:ys.length=1:=hyl
 have z0:Tryz.prog.cellsOf 55=1:=by kernel_rfl
 have g0:DataW.trod enc Tryz.prog W base spare held k 55 (List.take (Tryz.prog.cellsOf 55) (List.drop 0 [c0]))=ys[0]?:=hf 0 _ rfl
 rw[z0,List.getElem?_eq_getElem (by omega)] at g0
 replace g0:DataW.trod enc Tryz.prog W base spare held k 55 [c0]=some _:=g0
 obtain⟨v0,n0,e0,r0,w0⟩:=op_LStrip g0
 obtain rfl:c0=v0:=(List.cons.inj e0).1
 refine⟨⟨n0⟩,?_,w0⟩
 unfold GMixer.fs
 exact T.c_rl r0 (T.c_re)
theorem op_Session {H:Type} {enc:TypeId × Value→H} {W:World} {base:Nat} {spare:Nat→Bool} {held:Bool} {fuel:Nat} {cs:List Value} {x:DataW H × List MemPlace} (h:DataW.trod enc Tryz.prog W base spare held fuel 59 cs=some x): ∃ g:GSession,T.rds W g.fs cs∧g.good:=by
 obtain⟨ys,k,_,_,hcl,hyl,hf⟩:=DataW.trod_struct Tryz.underlying59 h
 have hl6:cs.length=6:=hcl.trans (by kernel_rfl)
 obtain⟨c0,cs0,rfl,hl5⟩:=len_of 5 _ hl6
 obtain⟨c1,cs1,rfl,hl4⟩:=len_of 4 _ hl5
 obtain⟨c2,cs2,rfl,hl3⟩:=len_of 3 _ hl4
 obtain⟨c3,cs3,rfl,hl2⟩:=len_of 2 _ hl3
 obtain⟨c4,cs4,rfl,hl1⟩:=len_of 1 _ hl2
 obtain⟨c5,cs5,rfl,hl0⟩:=len_of 0 _ hl1
 obtain rfl:cs5= []:=List.eq_nil_of_length_eq_zero hl0
 have hyn:ys.length=6:=hyl
 have z0:Tryz.prog.cellsOf 24=1:=by kernel_rfl
 have z1:Tryz.prog.cellsOf 26=1:=by kernel_rfl
 have z2:Tryz.prog.cellsOf 54=1:=by kernel_rfl
 have z3:Tryz.prog.cellsOf 53=1:=by kernel_rfl
 have z4:Tryz.prog.cellsOf 2=1:=by kernel_rfl
 have z5:Tryz.prog.cellsOf 57=1:=by kernel_rfl
 have g0:DataW.trod enc Tryz.prog W base spare held k 2 (List.take (Tryz.prog.cellsOf 2) (List.drop 0 [c0,c1,c2,c3,c4,c5]))=ys[0]?:=hf 0 _ rfl
 rw[z4,List.getElem?_eq_getElem (by omega)] at g0
 replace g0:DataW.trod enc Tryz.prog W base spare held k 2 [c0]=some _:=g0
 obtain⟨n0,e0,w0⟩:=op_n g0
 have g1:DataW.trod enc Tryz.prog W base spare held k 24 (List.take (Tryz.prog.cellsOf 24) (List.drop 1 [c0,c1,c2,c3,c4,c5]))=ys[1]?:=hf 1 _ rfl
 rw[z0,List.getElem?_eq_getElem (by omega)] at g1
 replace g1:DataW.trod enc Tryz.prog W base spare held k 24 [c1]=some _:=g1
 obtain⟨v1,n1,e1,r1,w1⟩:=op_LL g1
 have g2:DataW.trod enc Tryz.prog W base spare held k 53 (List.take (Tryz.prog.cellsOf 53) (List.drop 2 [c0,c1,c2,c3,c4,c5]))=ys[2]?:=hf 2 _ rfl
 rw[z3,List.getElem?_eq_getElem (by omega)] at g2
 replace g2:DataW.trod enc Tryz.prog W base spare held k 53 [c2]=some _:=g2
 obtain⟨v2,n2,e2,r2,w2⟩:=op_LTrack g2
 have g3:DataW.trod enc Tryz.prog W base spare held k 26 (List.take (Tryz.prog.cellsOf 26) (List.drop 3 [c0,c1,c2,c3,c4,c5]))=ys[3]?:=hf 3 _ rfl
 rw[z1,List.getElem?_eq_getElem (by omega)] at g3
 replace g3:DataW.trod enc Tryz.prog W base spare held k 26 [c3]=some _:=g3
 obtain⟨v3,n3,e3,r3,w3⟩:=op_LI g3
 have g4:DataW.trod enc Tryz.prog W base spare held k 54 (List.take (Tryz.prog.cellsOf 54) (List.drop 4 [c0,c1,c2,c3,c4,c5]))=ys[4]?:=hf 4 _ rfl
 rw[z2,List.getElem?_eq_getElem (by omega)] at g4
 replace g4:DataW.trod enc Tryz.prog W base spare held k 54 [c4]=some _:=g4
 obtain⟨v4,n4,e4,r4,w4⟩:=op_LPatch g4
 have g5:DataW.trod enc Tryz.prog W base spare held k 57 (List.take (Tryz.prog.cellsOf 57) (List.drop 5 [c0,c1,c2,c3,c4,c5]))=ys[5]?:=hf 5 _ rfl
 rw[z5,List.getElem?_eq_getElem (by omega)] at g5
 replace g5:DataW.trod enc Tryz.prog W base spare held k 57 [c5]=some _:=g5
 obtain⟨n5,r5,w5⟩:=op_Mixer g5
 obtain rfl:c0=_:=(List.cons.inj e0).1
 obtain rfl:c1=v1:=(List.cons.inj e1).1
 obtain rfl:c2=v2:=(List.cons.inj e2).1
 obtain rfl:c3=v3:=(List.cons.inj e3).1
 obtain rfl:c4=v4:=(List.cons.inj e4).1
 refine⟨⟨n0,n1,n2,n3,n4,n5⟩,?_,⟨w0,w1,w2,w3,w4,w5⟩⟩
 obtain⟨s5_0,he5,sr5_0⟩:=GMixer.yN r5
 simp only[List.cons.injEq,and_true] at he5
 subst he5
 unfold GSession.fs
 exact T.c_rn (T.c_rl r1 (T.c_rl r2 (T.c_rl r3 (T.c_rl r4 (T.c_rl sr5_0 (T.c_re))))))
theorem op_Cache {H:Type} {enc:TypeId × Value→H} {W:World} {base:Nat} {spare:Nat→Bool} {held:Bool} {fuel:Nat} {cs:List Value} {x:DataW H × List MemPlace} (h:DataW.trod enc Tryz.prog W base spare held fuel 61 cs=some x): ∃ g:GCache,T.rds W g.fs cs∧g.good:=by
 obtain⟨ys,k,_,_,hcl,hyl,hf⟩:=DataW.trod_struct Tryz.underlying61 h
 have hl8:cs.length=8:=hcl.trans (by kernel_rfl)
 obtain⟨c0,cs0,rfl,hl7⟩:=len_of 7 _ hl8
 obtain⟨c1,cs1,rfl,hl6⟩:=len_of 6 _ hl7
 obtain⟨c2,cs2,rfl,hl5⟩:=len_of 5 _ hl6
 obtain⟨c3,cs3,rfl,hl4⟩:=len_of 4 _ hl5
 obtain⟨c4,cs4,rfl,hl3⟩:=len_of 3 _ hl4
 obtain⟨c5,cs5,rfl,hl2⟩:=len_of 2 _ hl3
 obtain⟨c6,cs6,rfl,hl1⟩:=len_of 1 _ hl2
 obtain⟨c7,cs7,rfl,hl0⟩:=len_of 0 _ hl1
 obtain rfl:cs7= []:=List.eq_nil_of_length_eq_zero hl0
 have hyn:ys.length=3:=hyl
 have z0:Tryz.prog.cellsOf 26=1:=by kernel_rfl
 have z1:Tryz.prog.cellsOf 59=6:=by kernel_rfl
 have g0:DataW.trod enc Tryz.prog W base spare held k 59 (List.take (Tryz.prog.cellsOf 59) (List.drop 0 [c0,c1,c2,c3,c4,c5,c6,c7]))=ys[0]?:=hf 0 _ rfl
 rw[z1,List.getElem?_eq_getElem (by omega)] at g0
 replace g0:DataW.trod enc Tryz.prog W base spare held k 59 [c0,c1,c2,c3,c4,c5]=some _:=g0
 obtain⟨n0,r0,w0⟩:=op_Session g0
 have g1:DataW.trod enc Tryz.prog W base spare held k 26 (List.take (Tryz.prog.cellsOf 26) (List.drop 6 [c0,c1,c2,c3,c4,c5,c6,c7]))=ys[1]?:=hf 1 _ rfl
 rw[z0,List.getElem?_eq_getElem (by omega)] at g1
 replace g1:DataW.trod enc Tryz.prog W base spare held k 26 [c6]=some _:=g1
 obtain⟨v1,n1,e1,r1,w1⟩:=op_LI g1
 have g2:DataW.trod enc Tryz.prog W base spare held k 26 (List.take (Tryz.prog.cellsOf 26) (List.drop 7 [c0,c1,c2,c3,c4,c5,c6,c7]))=ys[2]?:=hf 2 _ rfl
 rw[z0,List.getElem?_eq_getElem (by omega)] at g2
 replace g2:DataW.trod enc Tryz.prog W base spare held k 26 [c7]=some _:=g2
 obtain⟨v2,n2,e2,r2,w2⟩:=op_LI g2
 obtain rfl:c6=v1:=(List.cons.inj e1).1
 obtain rfl:c7=v2:=(List.cons.inj e2).1
 refine⟨⟨n0,n1,n2⟩,?_,⟨w0.1,w0.2.1,w0.2.2.1,w0.2.2.2.1,w0.2.2.2.2.1,w0.2.2.2.2.2,w1,w2⟩⟩
 obtain⟨s0_1,s0_2,s0_3,s0_4,s0_5,he0,sr0_1,sr0_2,sr0_3,sr0_4,sr0_5⟩:=GSession.yN r0
 simp only[List.cons.injEq,and_true] at he0
 obtain⟨rfl,rfl,rfl,rfl,rfl,rfl⟩:=he0
 unfold GCache.fs
 exact T.c_rn (T.c_rl sr0_1 (T.c_rl sr0_2 (T.c_rl sr0_3 (T.c_rl sr0_4 (T.c_rl sr0_5 (T.c_rl r1 (T.c_rl r2 (T.c_re))))))))
end Go.Proofs.YtoibekfhepnedaaGreat
end
section
namespace Go.Proofs.YtoibekfhepnedaaGreat
open Go.RowKit
/-- Lists of blocks, one behind the other, from lo on and below hi. -/
def Sg:Nat→Nat→List (List Nat)→Prop
 |lo,hi,[]=>lo≤hi
 |lo,hi,F :: r=> ∃ m,lo≤m∧F.Nodup∧(∀ b ∈ F,lo≤b∧b<m)∧Sg m hi r
theorem Sg.le: ∀ {lo hi:Nat} {xs:List (List Nat)},Sg lo hi xs→lo≤hi
 |_,_,[],h=>h
 |_,_,_ :: _,⟨_,h1,_,_,h2⟩=>Nat.le_trans h1 (Sg.le h2)
theorem Sg.app: ∀ {a b c:Nat} {xs ys:List (List Nat)},Sg a b xs→Sg b c ys→Sg a c (xs++ys)
 |a,b,c,[],[],h,k=>Nat.le_trans h k
 |a,b,c,[],F :: r,h,⟨m,h1,h2,h3,h4⟩=>⟨m,Nat.le_trans h h1,h2,fun x hx=>⟨Nat.le_trans h (h3 x hx).1,(h3 x hx).2⟩,h4⟩
 |a,b,c,F :: r,ys,⟨m,h1,h2,h3,h4⟩,k=>⟨m,h1,h2,h3,Sg.app h4 k⟩
theorem Sg.more: ∀ {a a' b:Nat} {xs:List (List Nat)},Sg a b xs→a'≤a→Sg a' b xs
 |_,_,_,[],h,k=>Nat.le_trans k h
 |_,_,_,_ :: _,⟨m,h1,h2,h3,h4⟩,k=>⟨m,Nat.le_trans k h1,h2,fun x hx=>⟨Nat.le_trans k (h3 x hx).1,(h3 x hx).2⟩,h4⟩
theorem Sg.all: ∀ {lo hi:Nat} {xs:List (List Nat)},Sg lo hi xs→xs.flatten.Nodup∧ ∀ b ∈ xs.flatten,lo≤b∧b<hi
 |_,_,[],_=>by simp
 |lo,hi,F :: r,⟨m,h1,h2,h3,h4⟩=>by
  obtain⟨k1,k2⟩:=Sg.all h4
  have hm:=Sg.le h4
  refine⟨?_,?_⟩
  ·rw[List.flatten_cons]
   exact nodup_lo h2 k1 (fun b hb=>(h3 b hb).2) (fun b hb=>(k2 b hb).1)
  ·intro b hb
   rw[List.flatten_cons] at hb
   rcases List.mem_append.1 hb with hb|hb
   ·have:=h3 b hb;exact⟨this.1,by omega⟩
   ·have:=k2 b hb;exact⟨by omega,this.2⟩
theorem Nv.sg {w w':World} {x:T} {F:List Nat} {v:Value} (h:Nv w w' x F v):Sg w.heap.size w'.heap.size [F]:=
 ⟨w'.heap.size,h.below.size,h.nodup,fun b hb=>⟨h.lo b hb,h.lt b hb⟩,Nat.le_refl _⟩
theorem nf {F:List Nat} {lo g:Nat} (h: ∀ b ∈ F,lo≤b) (hg:g<lo):g ∉ F:=fun hm=>by have:=h g hm;omega
theorem Bk.born1' (w:World) (o:Obj) (t:TypeId) (cs:Array Value):Bk ((w.alloc o).alloc (.cells cs t)) (w.heap.size+1) t cs:=by
 have:=Bk.born (w.alloc o) t cs
 simpa using this
theorem Bk.born2 (w:World) (o o2:Obj) (t:TypeId) (cs:Array Value):Bk (((w.alloc o).alloc o2).alloc (.cells cs t)) (w.heap.size+2) t cs:=by
 have:=Bk.born ((w.alloc o).alloc o2) t cs
 simpa using this
/-- Cells stored one behind the other. -/
def setsW (w:World) (g:Nat):Nat→List Value→World
 |_,[]=>w
 |p,u :: us=>setsW (w.setCell ⟨g,p,none⟩ u) g (p+1) us
def setsL (es:List Value):Nat→List Value→List Value
 |_,[]=>es
 |p,u :: us=>setsL (es.set p u) (p+1) us
theorem grown_set1 (w:World) (g o:Nat) (u:Value):w.grownBy (w.setCell ⟨g,o,none⟩ u) (some g):=
 ⟨rfl,rfl,rfl,by simp[World.setCell],fun k _ hne=>Below.heap_setCell w _ u k (fun e=>hne (by rw[e]))⟩
theorem own_sets {B E sz n g cap:Nat} : ∀ (us:List Value) (w:World) (p:Nat) (es:List Value),w.ownsRow B E sz (.slice (some ⟨g,0,none⟩) n cap) n es→
  (setsW w g p us).ownsRow B E sz (.slice (some ⟨g,0,none⟩) n cap) n (setsL es p us)∧w.grownBy (setsW w g p us) (some g)
 | [],w,p,es,h=>⟨h,World.grownBy.refl _ _⟩
 |u :: us,w,p,es,h=>by
  obtain⟨h1,h2⟩:=own_sets us (w.setCell ⟨g,p,none⟩ u) (p+1) (es.set p u) (World.ownsRow.stored h p u).1
  exact⟨h1,(grown_set1 w g p u).trans h2⟩
theorem setsL_mid: ∀ (us zs c1 c2:List Value),us.length=zs.length→setsL (c1++(zs++c2)) c1.length us=c1++(us++c2)
 | [],[],c1,c2,_=>rfl
 |u :: us,z :: zs,c1,c2,h=>by
  have e:(c1++((z :: zs)++c2)).set c1.length u=(c1++ [u])++(zs++c2):=by
   rw[List.set_append_right _ _ (Nat.le_refl _),Nat.sub_self]
   simp
  have:=setsL_mid us zs (c1++ [u]) c2 (by simpa using h)
  simp only[setsL]
  rw[e]
  rw[List.length_append,List.length_singleton] at this
  rw[this]
  simp
theorem cut_len {α:Type} {l:List α} {n:Nat} (h:n≤l.length): ∃ a b,l=a++b∧a.length=n:=⟨l.take n,l.drop n,(List.take_append_drop n l).symm,by rw[List.length_take];omega⟩
theorem len1 {α:Type} {l:List α} (h:l.length=1): ∃ a,l= [a]:=by match l,h with| [a],_=>exact⟨a,rfl⟩
theorem len2 {α:Type} {l:List α} (h:l.length=2): ∃ a b,l= [a,b]:=by match l,h with| [a,b],_=>exact⟨a,b,rfl⟩
theorem len3 {α:Type} {l:List α} (h:l.length=3): ∃ a b c,l= [a,b,c]:=by match l,h with| [a,b,c],_=>exact⟨a,b,c,rfl⟩
theorem len4 {α:Type} {l:List α} (h:l.length=4): ∃ a b c d,l= [a,b,c,d]:=by match l,h with| [a,b,c,d],_=>exact⟨a,b,c,d,rfl⟩
theorem len5 {α:Type} {l:List α} (h:l.length=5): ∃ a b c d e,l= [a,b,c,d,e]:=by match l,h with| [a,b,c,d,e],_=>exact⟨a,b,c,d,e,rfl⟩
theorem own_cell {w:World} {B E sz n g cap:Nat} {c1 zs c2:List Value} (h:w.ownsRow B E sz (.slice (some ⟨g,0,none⟩) n cap) n (c1++(zs++c2))) {j:Nat} {u:Value} (hj:zs[j]?=some u):w.cell? ⟨g,c1.length+j,none⟩=some u:=by
 have hl:=(List.getElem?_eq_some_iff.1 hj).1
 rw[World.ownsRow.cellAt h (c1.length+j) (by rw[←h.1];simp;omega)]
 rw[List.getElem?_append_right (by omega),Nat.add_sub_cancel_left,List.getElem?_append_left hl]
 exact hj
theorem yS {w:World} {B E sz n g cap:Nat} {es:List Value} (h:w.ownsRow B E sz (.slice (some ⟨g,0,none⟩) n cap) n es) (j:Nat):w.frozen? ⟨g,j,none⟩=false:=World.ownsRow.frozenAt h j
theorem T.ows_snoc {w:World} {xs:List T} {x:T} {F F':List Nat} {c1 c2:List Value} (h:T.ows w xs F c1) (k:T.ow w x F' c2):T.ows w (xs++ [x]) (F++F') (c1++c2):=
 (T.ows_app xs [x] _ _).2 ⟨F,F',c1,c2,rfl,rfl,h,by simp only[T.ows];exact⟨F',[],c2,[],by simp,by simp,k,rfl,rfl⟩⟩
theorem T.ows_grown {w w':World} {xs:List T} {F:List Nat} {cs:List Value} {g:Nat} (h:T.ows w xs F cs) (hg:w.grownBy w' (some g)) (hn:g ∉ F):T.ows w' xs F cs:=
 T.ows_keep xs F cs (fun b hb=>hg.block b (T.ows_lt xs F cs h b hb) (fun e=>hn (by injection e with e;rw[←e];exact hb))) h
theorem T.ow_grown {w w':World} {x:T} {F:List Nat} {cs:List Value} {g:Nat} (h:T.ow w x F cs) (hg:w.grownBy w' (some g)) (hn:g ∉ F):T.ow w' x F cs:=
 T.ow_keep x F cs (fun b hb=>hg.block b (T.ow_lt x F cs h b hb) (fun e=>hn (by injection e with e;rw[←e];exact hb))) h
/-- The row being filled: the first k elements are laid. -/
structure Fil (w0 wr:World) (E sz n:Nat) (xs:List T) (G:List Nat) (c1 c2:List Value):Prop where
 own:wr.ownsRow 0 E sz (.slice (some ⟨w0.heap.size,0,none⟩) n n) n (c1++c2)
 ows:T.ows wr xs G c1
 nodup:G.Nodup
 lo: ∀ b ∈ G,w0.heap.size+1≤b
 below:Below w0.heap.size w0 wr
theorem Fil.len {w0 wr:World} {E sz n:Nat} {xs:List T} {G:List Nat} {c1 c2:List Value} (h:Fil w0 wr E sz n xs G c1 c2) (hw: ∀ x ∈ xs,T.wide x=sz):c1.length=xs.length * sz:=by
 rw[T.ows_len h.ows,T.wides_mul xs hw]
/-- A call that lays memory leaves the row as it is. -/
theorem Fil.call {w0 wr w1:World} {E sz n:Nat} {xs:List T} {G:List Nat} {c1 c2:List Value} (h:Fil w0 wr E sz n xs G c1 c2) (hb:Below wr.heap.size wr w1):Fil w0 w1 E sz n xs G c1 c2:=
 ⟨own_all h.own hb,T.ows_all h.ows hb,h.nodup,h.lo,yI h.below h.below.size hb⟩
/-- One element more. -/
theorem Fil.step {w0 wr w1:World} {E sz n:Nat} {xs:List T} {G F:List Nat} {c1 zs c2 us:List Value} {x:T} (h:Fil w0 w1 E sz n xs G c1 (zs++c2)) (hl:us.length=zs.length)
  (hs:w0.heap.size+1≤wr.heap.size) (hx:T.ow w1 x F us) (hF:F.Nodup) (hF2: ∀ b ∈ F,wr.heap.size≤b) (hG: ∀ b ∈ G,b<wr.heap.size):
  Fil w0 (setsW w1 w0.heap.size c1.length us) E sz n (xs++ [x]) (G++F) (c1++us) c2:=by
 obtain⟨h1,h2⟩:=own_sets us w1 c1.length _ h.own
 rw[setsL_mid us zs c1 c2 hl,←List.append_assoc] at h1
 have hgG:w0.heap.size ∉ G:=nf h.lo (by omega)
 have hgF:w0.heap.size ∉ F:=nf hF2 (by omega)
 refine⟨h1,T.ows_snoc (T.ows_grown h.ows h2 hgG) (T.ow_grown hx h2 hgF),nodup_lo h.nodup hF hG hF2,?_,h.below.grown h2 h.below.size (fun k hk=>by injection hk with hk;omega)⟩
 intro b hb
 rcases List.mem_append.1 hb with hb|hb
 ·exact h.lo b hb
 ·have:=hF2 b hb;omega
theorem Fil.done {w0 wr:World} {E sz n:Nat} {xs:List T} {G:List Nat} {c1:List Value} (h:Fil w0 wr E sz n xs G c1 []) (hw: ∀ x ∈ xs,T.wide x=sz) (hn:xs.length=n):
  Nv w0 wr (.sl E sz xs) (w0.heap.size :: G) (.slice (some ⟨w0.heap.size,0,none⟩) n n):=by
 have ho:=h.own
 rw[List.append_nil] at ho
 refine⟨?_,?_,?_,h.below⟩
 ·simp only[T.ow]
  exact⟨_,c1,G,rfl,rfl,hw,by rw[hn];exact ho,h.ows⟩
 ·rw[List.nodup_cons];exact⟨nf h.lo (by omega),h.nodup⟩
 ·intro b hb
  rcases List.mem_cons.1 hb with rfl|hb
  ·exact Nat.le_refl _
  ·have:=h.lo b hb;omega
theorem Fil.lt {w0 wr:World} {E sz n:Nat} {xs:List T} {G:List Nat} {c1 c2:List Value} (h:Fil w0 wr E sz n xs G c1 c2): ∀ b ∈ G,b<wr.heap.size:=T.ows_lt _ _ _ h.ows
theorem Fil.up {w0 wr:World} {E sz n:Nat} {xs:List T} {G:List Nat} {c1 c2:List Value} (h:Fil w0 wr E sz n xs G c1 c2):w0.heap.size+1≤wr.heap.size:=by
 have:=(h.own.lt w0.heap.size rfl).2;omega
theorem Fil.born {w0 w1:World} {E sz n:Nat} {es:List Value} (h:w1.ownsRow w0.heap.size E sz (.slice (some ⟨w0.heap.size,0,none⟩) n n) n es) (hg:w0.grownBy w1 none):Fil w0 w1 E sz n [] [] [] es:=
 ⟨own_more h (Nat.zero_le _),T.c_oe,by simp,by simp,(Below.refl _ _).grown hg (Nat.le_refl _) (by simp)⟩
theorem Fil.rest {w0 wr:World} {E sz n:Nat} {xs:List T} {G:List Nat} {c1 c2:List Value} (h:Fil w0 wr E sz n xs G c1 c2) (hw: ∀ x ∈ xs,T.wide x=sz):c2.length=n * sz - xs.length * sz:=by
 have h1:=h.own.1
 have h2:=h.len hw
 rw[List.length_append] at h1
 omega
theorem T.yT {w:World} {E:TypeId} {sz:Nat} {xs:List T} {u:Value} (h:T.rd w (.sl E sz xs) [u]): ∃ A l c,u= .slice A l c:=by
 obtain⟨A,cap,rfl,_⟩:=T.yN h
 exact⟨_,_,_,rfl⟩
theorem T.yU {w:World} {E:TypeId} {sz:Nat} {xs:List T} {F:List Nat} {u:Value} (h:T.ow w (.sl E sz xs) F [u]): ∃ A l c,u= .slice A l c:=T.yT (T.ow_rd _ _ _ h)
end Go.Proofs.YtoibekfhepnedaaGreat
end
section
namespace Go.Proofs.YtoibekfhepnedaaGreat
open Go.RowKit
theorem c_l00In (n a b:Int) (w:World):Calls Tryz.prog 87 #[.int .i64 n,.int .i64 a,.int .i64 b] w fun e w'=>e= .returned (.bool (inB n a b))∧w=w':=by
 by_cases h:a≤n
 all_goals
  go_enter Tryz.func87,Tryz.ntmps87
  go_wp2
  go_ret
  exact⟨by first|(simp[inB,h];done)|(simp[inB];omega),rfl⟩
theorem c_within (n a b:Int) (w:World):Calls Tryz.prog 89 #[.int .i64 n,.int .i64 a,.int .i64 b] w fun e w'=>e= .returned (.bool (inB n a b))∧w=w':=by
 by_cases h:a≤n
 all_goals
  go_enter Tryz.func89,Tryz.ntmps89
  go_wp2
  go_ret
  exact⟨by first|(simp[inB,h];done)|(simp[inB];omega),rfl⟩
theorem c_l01Sample (n:Int) (w:World):Calls Tryz.prog 158 #[.int .i64 n] w fun e w'=>e= .returned (.bool (decide (Smp n)))∧w=w':=by
 go_enter Tryz.func158,Tryz.ntmps158
 go_wp2_with (go_at_call 87;refine(c_l00In _ _ _ _).mono ?_;rintro e w' ⟨rfl,rfl⟩)
 go_ret
 exact⟨rfl,rfl⟩
theorem c_isSample (n:Int) (w:World):Calls Tryz.prog 169 #[.int .i64 n] w fun e w'=>e= .returned (.bool (decide (Smp n)))∧w=w':=by
 go_enter Tryz.func169,Tryz.ntmps169
 go_wp2_with (go_at_call 89;refine(c_within _ _ _ _).mono ?_;rintro e w' ⟨rfl,rfl⟩)
 go_ret
 exact⟨rfl,rfl⟩
theorem c_l03Ok (v:Value) (xs:List Int) (w:World) (hr:RdI w v xs):Calls Tryz.prog 123 #[v] w fun e w'=>e= .returned (.bool (sigB xs))∧w=w':=by
 obtain⟨A,cap,rfl,hl,hc,hx⟩:=hr.open_
 have HX:=hide hx;clear hx hr
 by_cases h4:xs.length≤4000
 ·go_enter Tryz.func123,Tryz.ntmps123
  go_wp2
  go_loop [3] (fun i=> ∃ k:Nat,k≤xs.length∧i= .int .i64 k∧smpB (xs.take k)=true) (fun i=>xs.length - (intOf i).toNat)
  case atStart=>exact⟨0,Nat.zero_le _,rfl,by simp[smpB]⟩
  case round=>
   obtain⟨k,hk,rfl,hs⟩:=hrel
   have HS:=hide hs;clear hs
   by_cases hlt:k<xs.length
   ·obtain⟨b,off,rfl,hb,hcell⟩:=HX.out k xs[k] (List.getElem?_eq_getElem hlt)
    by_cases hsm:Smp xs[k]
    ·have hd:decide (Smp xs[k])=true:=by simpa using hsm
     go_wp2_with (go_at_call 158;refine(c_l01Sample _ _).mono ?_;rintro e w' ⟨rfl,rfl⟩)
     go_round
     case rel=>exact⟨k+1,by omega,by go_num,smpB_take_succ (List.getElem?_eq_getElem hlt) HS.out hsm⟩
     case measure=>simp[intOf];omega
    ·have hd:decide (Smp xs[k])=false:=by simpa using hsm
     go_wp2_with (go_at_call 158;refine(c_l01Sample _ _).mono ?_;rintro e w' ⟨rfl,rfl⟩)
     go_ret
     exact⟨by simp[sigB,smpB_no (List.getElem?_eq_getElem hlt) hsm],rfl⟩
   ·go_wp2
    go_ret
    have:k=xs.length:=by omega
    subst this
    have:=HS.out
    rw[List.take_length] at this
    exact⟨by simp[sigB,h4,this],rfl⟩
 ·go_enter Tryz.func123,Tryz.ntmps123
  go_wp2
  go_ret
  exact⟨by simp[sigB];omega,rfl⟩
end Go.Proofs.YtoibekfhepnedaaGreat
end
