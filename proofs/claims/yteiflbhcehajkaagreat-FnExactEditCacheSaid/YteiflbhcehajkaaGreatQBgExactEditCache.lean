/- Arguments that are structs read as nested data. -/
import Derived.Test.YteiflbhcehajkaaGreatQBfExactEditCache
set_option linter.unusedVariables false
set_option linter.unusedSimpArgs false

namespace Go.Proofs.YteiflbhcehajkaaGreat
open Go.RowKit Go.ChangeShapes Go.WideShapes Go.Deep
theorem len_of {α:Type} : ∀ (n:Nat) (l:List α),l.length=n+1→ ∃ a t,l=a :: t∧t.length=n
 |n,a :: t,h=>⟨a,t,rfl,by simpa using h⟩
theorem i64_ok {n:Int} (h:(Lit.int .i64 n).wf=true):I64 n:=i64_of_wf h
theorem op_n {H:Type} {enc:TypeId × Value→H} {W:World} {base:Nat} {spare:Nat→Bool} {held:Bool} {fuel:Nat} {cs:List Value} {x:DataW H × List MemPlace} (h:DataW.trod enc Tryz.prog W base spare held fuel 2 cs=some x): ∃ n:Int,cs= [.int .i64 n]∧I64 n:=by
 obtain⟨n,e,_,hw⟩:=DataW.trod_int Tryz.underlying2 h
 exact⟨n,e,i64_ok hw⟩
theorem op_s {H:Type} {enc:TypeId × Value→H} {W:World} {base:Nat} {spare:Nat→Bool} {held:Bool} {fuel:Nat} {cs:List Value} {x:DataW H × List MemPlace} (h:DataW.trod enc Tryz.prog W base spare held fuel 9 cs=some x): ∃ n:ByteArray,cs= [.string n]∧n.size≤9223372036854775807:=by
 obtain⟨n,e,_,hw⟩:=DataW.trod_string Tryz.underlying9 h
 exact⟨n,e,by unfold maxLen at hw;omega⟩
theorem op_LI {H:Type} {enc:TypeId × Value→H} {W:World} {base:Nat} {spare:Nat→Bool} {held:Bool} {fuel:Nat} {cs:List Value} {x:DataW H × List MemPlace} (h:DataW.trod enc Tryz.prog W base spare held fuel 24 cs=some x): ∃ (v:Value) (xs:List Int),cs= [v]∧T.rd W (T.ints 2 xs) [v]∧ ∀ y ∈ xs,I64 y:=
 rdT_open 2 T.num I64 (fun _=>rfl) (by omega) 0 Tryz.underlying24 (by kernel_rfl) (fun n cs' y hy=>by
  obtain⟨z,e,hz⟩:=op_n hy
  exact⟨z,by simp only[T.rd];exact e,hz⟩) h
theorem op_LL {H:Type} {enc:TypeId × Value→H} {W:World} {base:Nat} {spare:Nat→Bool} {held:Bool} {fuel:Nat} {cs:List Value} {x:DataW H × List MemPlace} (h:DataW.trod enc Tryz.prog W base spare held fuel 22 cs=some x): ∃ (v:Value) (xs:List (List Int)),cs= [v]∧T.rd W (T.sl 24 1 (xs.map (T.ints 2))) [v]∧ ∀ l ∈ xs,∀ y ∈ l,I64 y:=
 rdT_open 24 (T.ints 2) (fun l=> ∀ y ∈ l,I64 y) (fun _=>rfl) (by omega) [] Tryz.underlying22 (by kernel_rfl) (fun n cs' y hy=>by
  obtain⟨v,z,e,hr,hz⟩:=op_LI hy
  exact⟨z,by rw[e];exact hr,hz⟩) h
theorem op_Clip {H:Type} {enc:TypeId × Value→H} {W:World} {base:Nat} {spare:Nat→Bool} {held:Bool} {fuel:Nat} {cs:List Value} {x:DataW H × List MemPlace} (h:DataW.trod enc Tryz.prog W base spare held fuel 56 cs=some x): ∃ g:GClip,T.rds W g.fs cs∧g.good:=by
 obtain⟨ys,k,_,_,hcl,hyl,hf⟩:=DataW.trod_struct Tryz.underlying56 h
 have hl5:cs.length=5:=hcl.trans (by kernel_rfl)
 obtain⟨c0,cs0,rfl,hl4⟩:=len_of 4 _ hl5
 obtain⟨c1,cs1,rfl,hl3⟩:=len_of 3 _ hl4
 obtain⟨c2,cs2,rfl,hl2⟩:=len_of 2 _ hl3
 obtain⟨c3,cs3,rfl,hl1⟩:=len_of 1 _ hl2
 obtain⟨c4,cs4,rfl,hl0⟩:=len_of 0 _ hl1
 obtain rfl:cs4= []:=List.eq_nil_of_length_eq_zero hl0
 have hyn:ys.length=5:=hyl
 have z0:Tryz.prog.cellsOf 2=1:=by kernel_rfl
 have g0:DataW.trod enc Tryz.prog W base spare held k 2 (List.take (Tryz.prog.cellsOf 2) (List.drop 0 [c0,c1,c2,c3,c4]))=ys[0]?:=hf 0 _ rfl
 rw[z0,List.getElem?_eq_getElem (by omega)] at g0
 replace g0:DataW.trod enc Tryz.prog W base spare held k 2 [c0]=some _:=g0
 obtain⟨n0,e0,w0⟩:=op_n g0
 have g1:DataW.trod enc Tryz.prog W base spare held k 2 (List.take (Tryz.prog.cellsOf 2) (List.drop 1 [c0,c1,c2,c3,c4]))=ys[1]?:=hf 1 _ rfl
 rw[z0,List.getElem?_eq_getElem (by omega)] at g1
 replace g1:DataW.trod enc Tryz.prog W base spare held k 2 [c1]=some _:=g1
 obtain⟨n1,e1,w1⟩:=op_n g1
 have g2:DataW.trod enc Tryz.prog W base spare held k 2 (List.take (Tryz.prog.cellsOf 2) (List.drop 2 [c0,c1,c2,c3,c4]))=ys[2]?:=hf 2 _ rfl
 rw[z0,List.getElem?_eq_getElem (by omega)] at g2
 replace g2:DataW.trod enc Tryz.prog W base spare held k 2 [c2]=some _:=g2
 obtain⟨n2,e2,w2⟩:=op_n g2
 have g3:DataW.trod enc Tryz.prog W base spare held k 2 (List.take (Tryz.prog.cellsOf 2) (List.drop 3 [c0,c1,c2,c3,c4]))=ys[3]?:=hf 3 _ rfl
 rw[z0,List.getElem?_eq_getElem (by omega)] at g3
 replace g3:DataW.trod enc Tryz.prog W base spare held k 2 [c3]=some _:=g3
 obtain⟨n3,e3,w3⟩:=op_n g3
 have g4:DataW.trod enc Tryz.prog W base spare held k 2 (List.take (Tryz.prog.cellsOf 2) (List.drop 4 [c0,c1,c2,c3,c4]))=ys[4]?:=hf 4 _ rfl
 rw[z0,List.getElem?_eq_getElem (by omega)] at g4
 replace g4:DataW.trod enc Tryz.prog W base spare held k 2 [c4]=some _:=g4
 obtain⟨n4,e4,w4⟩:=op_n g4
 obtain rfl:c0=_:=(List.cons.inj e0).1
 obtain rfl:c1=_:=(List.cons.inj e1).1
 obtain rfl:c2=_:=(List.cons.inj e2).1
 obtain rfl:c3=_:=(List.cons.inj e3).1
 obtain rfl:c4=_:=(List.cons.inj e4).1
 refine⟨⟨n0,n1,n2,n3,n4⟩,?_,⟨w0,w1,w2,w3,w4⟩⟩
 unfold GClip.fs
 exact T.c_rn (T.c_rn (T.c_rn (T.c_rn (T.c_rn (T.c_re)))))
theorem op_LClip {H:Type} {enc:TypeId × Value→H} {W:World} {base:Nat} {spare:Nat→Bool} {held:Bool} {fuel:Nat} {cs:List Value} {x:DataW H × List MemPlace} (h:DataW.trod enc Tryz.prog W base spare held fuel 112 cs=some x): ∃ (v:Value) (xs:List GClip),cs= [v]∧T.rd W (T.sl 60 5 (xs.map GClip.t)) [v]∧ ∀ y ∈ xs,GClip.good y:=
 rdT_open 60 GClip.t GClip.good GClip.wide_t (by omega) ⟨0,0,0,0,0⟩ Tryz.underlying112 (by kernel_rfl) (fun n cs' y hy=>by
  obtain⟨z,hz,hg⟩:=op_Clip hy
  exact⟨z,by simp only[GClip.t,T.rd];exact hz,hg⟩) h
theorem op_Track {H:Type} {enc:TypeId × Value→H} {W:World} {base:Nat} {spare:Nat→Bool} {held:Bool} {fuel:Nat} {cs:List Value} {x:DataW H × List MemPlace} (h:DataW.trod enc Tryz.prog W base spare held fuel 114 cs=some x): ∃ g:GTrack,T.rds W g.fs cs∧g.good:=by
 obtain⟨ys,k,_,_,hcl,hyl,hf⟩:=DataW.trod_struct Tryz.underlying114 h
 have hl1:cs.length=1:=hcl.trans (by kernel_rfl)
 obtain⟨c0,cs0,rfl,hl0⟩:=len_of 0 _ hl1
 obtain rfl:cs0= []:=List.eq_nil_of_length_eq_zero hl0
 have hyn:ys.length=1:=hyl
 have z0:Tryz.prog.cellsOf 112=1:=by kernel_rfl
 have g0:DataW.trod enc Tryz.prog W base spare held k 112 (List.take (Tryz.prog.cellsOf 112) (List.drop 0 [c0]))=ys[0]?:=hf 0 _ rfl
 rw[z0,List.getElem?_eq_getElem (by omega)] at g0
 replace g0:DataW.trod enc Tryz.prog W base spare held k 112 [c0]=some _:=g0
 obtain⟨v0,n0,e0,r0,w0⟩:=op_LClip g0
 obtain rfl:c0=v0:=(List.cons.inj e0).1
 refine⟨⟨n0⟩,?_,w0⟩
 unfold GTrack.fs
 exact T.c_rl r0 (T.c_re)
theorem op_LTrack {H:Type} {enc:TypeId × Value→H} {W:World} {base:Nat} {spare:Nat→Bool} {held:Bool} {fuel:Nat} {cs:List Value} {x:DataW H × List MemPlace} (h:DataW.trod enc Tryz.prog W base spare held fuel 23 cs=some x): ∃ (v:Value) (xs:List GTrack),cs= [v]∧T.rd W (T.sl 126 1 (xs.map GTrack.t)) [v]∧ ∀ y ∈ xs,GTrack.good y:=
 rdT_open 126 GTrack.t GTrack.good GTrack.wide_t (by omega) ⟨[]⟩ Tryz.underlying23 (by kernel_rfl) (fun n cs' y hy=>by
  obtain⟨z,hz,hg⟩:=op_Track hy
  exact⟨z,by simp only[GTrack.t,T.rd];exact hz,hg⟩) h
theorem op_Node {H:Type} {enc:TypeId × Value→H} {W:World} {base:Nat} {spare:Nat→Bool} {held:Bool} {fuel:Nat} {cs:List Value} {x:DataW H × List MemPlace} (h:DataW.trod enc Tryz.prog W base spare held fuel 230 cs=some x): ∃ g:GNode,T.rds W g.fs cs∧g.good:=by
 obtain⟨ys,k,_,_,hcl,hyl,hf⟩:=DataW.trod_struct Tryz.underlying230 h
 have hl4:cs.length=4:=hcl.trans (by kernel_rfl)
 obtain⟨c0,cs0,rfl,hl3⟩:=len_of 3 _ hl4
 obtain⟨c1,cs1,rfl,hl2⟩:=len_of 2 _ hl3
 obtain⟨c2,cs2,rfl,hl1⟩:=len_of 1 _ hl2
 obtain⟨c3,cs3,rfl,hl0⟩:=len_of 0 _ hl1
 obtain rfl:cs3= []:=List.eq_nil_of_length_eq_zero hl0
 have hyn:ys.length=4:=hyl
 have z0:Tryz.prog.cellsOf 24=1:=by kernel_rfl
 have z1:Tryz.prog.cellsOf 2=1:=by kernel_rfl
 have g0:DataW.trod enc Tryz.prog W base spare held k 2 (List.take (Tryz.prog.cellsOf 2) (List.drop 0 [c0,c1,c2,c3]))=ys[0]?:=hf 0 _ rfl
 rw[z1,List.getElem?_eq_getElem (by omega)] at g0
 replace g0:DataW.trod enc Tryz.prog W base spare held k 2 [c0]=some _:=g0
 obtain⟨n0,e0,w0⟩:=op_n g0
 have g1:DataW.trod enc Tryz.prog W base spare held k 2 (List.take (Tryz.prog.cellsOf 2) (List.drop 1 [c0,c1,c2,c3]))=ys[1]?:=hf 1 _ rfl
 rw[z1,List.getElem?_eq_getElem (by omega)] at g1
 replace g1:DataW.trod enc Tryz.prog W base spare held k 2 [c1]=some _:=g1
 obtain⟨n1,e1,w1⟩:=op_n g1
 have g2:DataW.trod enc Tryz.prog W base spare held k 2 (List.take (Tryz.prog.cellsOf 2) (List.drop 2 [c0,c1,c2,c3]))=ys[2]?:=hf 2 _ rfl
 rw[z1,List.getElem?_eq_getElem (by omega)] at g2
 replace g2:DataW.trod enc Tryz.prog W base spare held k 2 [c2]=some _:=g2
 obtain⟨n2,e2,w2⟩:=op_n g2
 have g3:DataW.trod enc Tryz.prog W base spare held k 24 (List.take (Tryz.prog.cellsOf 24) (List.drop 3 [c0,c1,c2,c3]))=ys[3]?:=hf 3 _ rfl
 rw[z0,List.getElem?_eq_getElem (by omega)] at g3
 replace g3:DataW.trod enc Tryz.prog W base spare held k 24 [c3]=some _:=g3
 obtain⟨v3,n3,e3,r3,w3⟩:=op_LI g3
 obtain rfl:c0=_:=(List.cons.inj e0).1
 obtain rfl:c1=_:=(List.cons.inj e1).1
 obtain rfl:c2=_:=(List.cons.inj e2).1
 obtain rfl:c3=v3:=(List.cons.inj e3).1
 refine⟨⟨n0,n1,n2,n3⟩,?_,⟨w0,w1,w2,w3⟩⟩
 unfold GNode.fs
 exact T.c_rn (T.c_rn (T.c_rn (T.c_rl r3 (T.c_re))))
theorem op_LNode {H:Type} {enc:TypeId × Value→H} {W:World} {base:Nat} {spare:Nat→Bool} {held:Bool} {fuel:Nat} {cs:List Value} {x:DataW H × List MemPlace} (h:DataW.trod enc Tryz.prog W base spare held fuel 116 cs=some x): ∃ (v:Value) (xs:List GNode),cs= [v]∧T.rd W (T.sl 198 4 (xs.map GNode.t)) [v]∧ ∀ y ∈ xs,GNode.good y:=
 rdT_open 198 GNode.t GNode.good GNode.wide_t (by omega) ⟨0,0,0,[]⟩ Tryz.underlying116 (by kernel_rfl) (fun n cs' y hy=>by
  obtain⟨z,hz,hg⟩:=op_Node hy
  exact⟨z,by simp only[GNode.t,T.rd];exact hz,hg⟩) h
theorem op_Patch {H:Type} {enc:TypeId × Value→H} {W:World} {base:Nat} {spare:Nat→Bool} {held:Bool} {fuel:Nat} {cs:List Value} {x:DataW H × List MemPlace} (h:DataW.trod enc Tryz.prog W base spare held fuel 118 cs=some x): ∃ g:GPatch,T.rds W g.fs cs∧g.good:=by
 obtain⟨ys,k,_,_,hcl,hyl,hf⟩:=DataW.trod_struct Tryz.underlying118 h
 have hl4:cs.length=4:=hcl.trans (by kernel_rfl)
 obtain⟨c0,cs0,rfl,hl3⟩:=len_of 3 _ hl4
 obtain⟨c1,cs1,rfl,hl2⟩:=len_of 2 _ hl3
 obtain⟨c2,cs2,rfl,hl1⟩:=len_of 1 _ hl2
 obtain⟨c3,cs3,rfl,hl0⟩:=len_of 0 _ hl1
 obtain rfl:cs3= []:=List.eq_nil_of_length_eq_zero hl0
 have hyn:ys.length=4:=hyl
 have z0:Tryz.prog.cellsOf 22=1:=by kernel_rfl
 have z1:Tryz.prog.cellsOf 24=1:=by kernel_rfl
 have z2:Tryz.prog.cellsOf 116=1:=by kernel_rfl
 have z3:Tryz.prog.cellsOf 2=1:=by kernel_rfl
 have g0:DataW.trod enc Tryz.prog W base spare held k 2 (List.take (Tryz.prog.cellsOf 2) (List.drop 0 [c0,c1,c2,c3]))=ys[0]?:=hf 0 _ rfl
 rw[z3,List.getElem?_eq_getElem (by omega)] at g0
 replace g0:DataW.trod enc Tryz.prog W base spare held k 2 [c0]=some _:=g0
 obtain⟨n0,e0,w0⟩:=op_n g0
 have g1:DataW.trod enc Tryz.prog W base spare held k 22 (List.take (Tryz.prog.cellsOf 22) (List.drop 1 [c0,c1,c2,c3]))=ys[1]?:=hf 1 _ rfl
 rw[z0,List.getElem?_eq_getElem (by omega)] at g1
 replace g1:DataW.trod enc Tryz.prog W base spare held k 22 [c1]=some _:=g1
 obtain⟨v1,n1,e1,r1,w1⟩:=op_LL g1
 have g2:DataW.trod enc Tryz.prog W base spare held k 116 (List.take (Tryz.prog.cellsOf 116) (List.drop 2 [c0,c1,c2,c3]))=ys[2]?:=hf 2 _ rfl
 rw[z2,List.getElem?_eq_getElem (by omega)] at g2
 replace g2:DataW.trod enc Tryz.prog W base spare held k 116 [c2]=some _:=g2
 obtain⟨v2,n2,e2,r2,w2⟩:=op_LNode g2
 have g3:DataW.trod enc Tryz.prog W base spare held k 24 (List.take (Tryz.prog.cellsOf 24) (List.drop 3 [c0,c1,c2,c3]))=ys[3]?:=hf 3 _ rfl
 rw[z1,List.getElem?_eq_getElem (by omega)] at g3
 replace g3:DataW.trod enc Tryz.prog W base spare held k 24 [c3]=some _:=g3
 obtain⟨v3,n3,e3,r3,w3⟩:=op_LI g3
 obtain rfl:c0=_:=(List.cons.inj e0).1
 obtain rfl:c1=v1:=(List.cons.inj e1).1
 obtain rfl:c2=v2:=(List.cons.inj e2).1
 obtain rfl:c3=v3:=(List.cons.inj e3).1
 refine⟨⟨n0,n1,n2,n3⟩,?_,⟨w0,w1,w2,w3⟩⟩
 unfold GPatch.fs
 exact T.c_rn (T.c_rl r1 (T.c_rl r2 (T.c_rl r3 (T.c_re))))
theorem op_LPatch {H:Type} {enc:TypeId × Value→H} {W:World} {base:Nat} {spare:Nat→Bool} {held:Bool} {fuel:Nat} {cs:List Value} {x:DataW H × List MemPlace} (h:DataW.trod enc Tryz.prog W base spare held fuel 25 cs=some x): ∃ (v:Value) (xs:List GPatch),cs= [v]∧T.rd W (T.sl 130 4 (xs.map GPatch.t)) [v]∧ ∀ y ∈ xs,GPatch.good y:=
 rdT_open 130 GPatch.t GPatch.good GPatch.wide_t (by omega) ⟨0,[],[],[]⟩ Tryz.underlying25 (by kernel_rfl) (fun n cs' y hy=>by
  obtain⟨z,hz,hg⟩:=op_Patch hy
  exact⟨z,by simp only[GPatch.t,T.rd];exact hz,hg⟩) h
theorem op_Send {H:Type} {enc:TypeId × Value→H} {W:World} {base:Nat} {spare:Nat→Bool} {held:Bool} {fuel:Nat} {cs:List Value} {x:DataW H × List MemPlace} (h:DataW.trod enc Tryz.prog W base spare held fuel 260 cs=some x): ∃ g:GSend,T.rds W g.fs cs∧g.good:=by
 obtain⟨ys,k,_,_,hcl,hyl,hf⟩:=DataW.trod_struct Tryz.underlying260 h
 have hl2:cs.length=2:=hcl.trans (by kernel_rfl)
 obtain⟨c0,cs0,rfl,hl1⟩:=len_of 1 _ hl2
 obtain⟨c1,cs1,rfl,hl0⟩:=len_of 0 _ hl1
 obtain rfl:cs1= []:=List.eq_nil_of_length_eq_zero hl0
 have hyn:ys.length=2:=hyl
 have z0:Tryz.prog.cellsOf 2=1:=by kernel_rfl
 have g0:DataW.trod enc Tryz.prog W base spare held k 2 (List.take (Tryz.prog.cellsOf 2) (List.drop 0 [c0,c1]))=ys[0]?:=hf 0 _ rfl
 rw[z0,List.getElem?_eq_getElem (by omega)] at g0
 replace g0:DataW.trod enc Tryz.prog W base spare held k 2 [c0]=some _:=g0
 obtain⟨n0,e0,w0⟩:=op_n g0
 have g1:DataW.trod enc Tryz.prog W base spare held k 2 (List.take (Tryz.prog.cellsOf 2) (List.drop 1 [c0,c1]))=ys[1]?:=hf 1 _ rfl
 rw[z0,List.getElem?_eq_getElem (by omega)] at g1
 replace g1:DataW.trod enc Tryz.prog W base spare held k 2 [c1]=some _:=g1
 obtain⟨n1,e1,w1⟩:=op_n g1
 obtain rfl:c0=_:=(List.cons.inj e0).1
 obtain rfl:c1=_:=(List.cons.inj e1).1
 refine⟨⟨n0,n1⟩,?_,⟨w0,w1⟩⟩
 unfold GSend.fs
 exact T.c_rn (T.c_rn (T.c_re))
theorem op_LSend {H:Type} {enc:TypeId × Value→H} {W:World} {base:Nat} {spare:Nat→Bool} {held:Bool} {fuel:Nat} {cs:List Value} {x:DataW H × List MemPlace} (h:DataW.trod enc Tryz.prog W base spare held fuel 182 cs=some x): ∃ (v:Value) (xs:List GSend),cs= [v]∧T.rd W (T.sl 159 2 (xs.map GSend.t)) [v]∧ ∀ y ∈ xs,GSend.good y:=
 rdT_open 159 GSend.t GSend.good GSend.wide_t (by omega) ⟨0,0⟩ Tryz.underlying182 (by kernel_rfl) (fun n cs' y hy=>by
  obtain⟨z,hz,hg⟩:=op_Send hy
  exact⟨z,by simp only[GSend.t,T.rd];exact hz,hg⟩) h
theorem op_Strip {H:Type} {enc:TypeId × Value→H} {W:World} {base:Nat} {spare:Nat→Bool} {held:Bool} {fuel:Nat} {cs:List Value} {x:DataW H × List MemPlace} (h:DataW.trod enc Tryz.prog W base spare held fuel 184 cs=some x): ∃ g:GStrip,T.rds W g.fs cs∧g.good:=by
 obtain⟨ys,k,_,_,hcl,hyl,hf⟩:=DataW.trod_struct Tryz.underlying184 h
 have hl3:cs.length=3:=hcl.trans (by kernel_rfl)
 obtain⟨c0,cs0,rfl,hl2⟩:=len_of 2 _ hl3
 obtain⟨c1,cs1,rfl,hl1⟩:=len_of 1 _ hl2
 obtain⟨c2,cs2,rfl,hl0⟩:=len_of 0 _ hl1
 obtain rfl:cs2= []:=List.eq_nil_of_length_eq_zero hl0
 have hyn:ys.length=3:=hyl
 have z0:Tryz.prog.cellsOf 182=1:=by kernel_rfl
 have z1:Tryz.prog.cellsOf 2=1:=by kernel_rfl
 have z2:Tryz.prog.cellsOf 9=1:=by kernel_rfl
 have g0:DataW.trod enc Tryz.prog W base spare held k 9 (List.take (Tryz.prog.cellsOf 9) (List.drop 0 [c0,c1,c2]))=ys[0]?:=hf 0 _ rfl
 rw[z2,List.getElem?_eq_getElem (by omega)] at g0
 replace g0:DataW.trod enc Tryz.prog W base spare held k 9 [c0]=some _:=g0
 obtain⟨n0,e0,w0⟩:=op_s g0
 have g1:DataW.trod enc Tryz.prog W base spare held k 2 (List.take (Tryz.prog.cellsOf 2) (List.drop 1 [c0,c1,c2]))=ys[1]?:=hf 1 _ rfl
 rw[z1,List.getElem?_eq_getElem (by omega)] at g1
 replace g1:DataW.trod enc Tryz.prog W base spare held k 2 [c1]=some _:=g1
 obtain⟨n1,e1,w1⟩:=op_n g1
 have g2:DataW.trod enc Tryz.prog W base spare held k 182 (List.take (Tryz.prog.cellsOf 182) (List.drop 2 [c0,c1,c2]))=ys[2]?:=hf 2 _ rfl
 rw[z0,List.getElem?_eq_getElem (by omega)] at g2
 replace g2:DataW.trod enc Tryz.prog W base spare held k 182 [c2]=some _:=g2
 obtain⟨v2,n2,e2,r2,w2⟩:=op_LSend g2
 obtain rfl:c0=_:=(List.cons.inj e0).1
 obtain rfl:c1=_:=(List.cons.inj e1).1
 obtain rfl:c2=v2:=(List.cons.inj e2).1
 refine⟨⟨n0,n1,n2⟩,?_,⟨w0,w1,w2⟩⟩
 unfold GStrip.fs
 exact T.c_rs (T.c_rn (T.c_rl r2 (T.c_re)))
theorem op_LStrip {H:Type} {enc:TypeId × Value→H} {W:World} {base:Nat} {spare:Nat→Bool} {held:Bool} {fuel:Nat} {cs:List Value} {x:DataW H × List MemPlace} (h:DataW.trod enc Tryz.prog W base spare held fuel 26 cs=some x): ∃ (v:Value) (xs:List GStrip),cs= [v]∧T.rd W (T.sl 139 3 (xs.map GStrip.t)) [v]∧ ∀ y ∈ xs,GStrip.good y:=
 rdT_open 139 GStrip.t GStrip.good GStrip.wide_t (by omega) ⟨ByteArray.empty,0,[]⟩ Tryz.underlying26 (by kernel_rfl) (fun n cs' y hy=>by
  obtain⟨z,hz,hg⟩:=op_Strip hy
  exact⟨z,by simp only[GStrip.t,T.rd];exact hz,hg⟩) h
theorem op_Mixer {H:Type} {enc:TypeId × Value→H} {W:World} {base:Nat} {spare:Nat→Bool} {held:Bool} {fuel:Nat} {cs:List Value} {x:DataW H × List MemPlace} (h:DataW.trod enc Tryz.prog W base spare held fuel 28 cs=some x): ∃ g:GMixer,T.rds W g.fs cs∧g.good:=by
 obtain⟨ys,k,_,_,hcl,hyl,hf⟩:=DataW.trod_struct Tryz.underlying28 h
 have hl1:cs.length=1:=hcl.trans (by kernel_rfl)
 obtain⟨c0,cs0,rfl,hl0⟩:=len_of 0 _ hl1
 obtain rfl:cs0= []:=List.eq_nil_of_length_eq_zero hl0
 have hyn:ys.length=1:=hyl
 have z0:Tryz.prog.cellsOf 26=1:=by kernel_rfl
 have g0:DataW.trod enc Tryz.prog W base spare held k 26 (List.take (Tryz.prog.cellsOf 26) (List.drop 0 [c0]))=ys[0]?:=hf 0 _ rfl
 rw[z0,List.getElem?_eq_getElem (by omega)] at g0
 replace g0:DataW.trod enc Tryz.prog W base spare held k 26 [c0]=some _:=g0
 obtain⟨v0,n0,e0,r0,w0⟩:=op_LStrip g0
 obtain rfl:c0=v0:=(List.cons.inj e0).1
 refine⟨⟨n0⟩,?_,w0⟩
 unfold GMixer.fs
 exact T.c_rl r0 (T.c_re)
theorem op_Session {H:Type} {enc:TypeId × Value→H} {W:World} {base:Nat} {spare:Nat→Bool} {held:Bool} {fuel:Nat} {cs:List Value} {x:DataW H × List MemPlace} (h:DataW.trod enc Tryz.prog W base spare held fuel 30 cs=some x): ∃ g:GSession,T.rds W g.fs cs∧g.good:=by
 obtain⟨ys,k,_,_,hcl,hyl,hf⟩:=DataW.trod_struct Tryz.underlying30 h
 have hl6:cs.length=6:=hcl.trans (by kernel_rfl)
 obtain⟨c0,cs0,rfl,hl5⟩:=len_of 5 _ hl6
 obtain⟨c1,cs1,rfl,hl4⟩:=len_of 4 _ hl5
 obtain⟨c2,cs2,rfl,hl3⟩:=len_of 3 _ hl4
 obtain⟨c3,cs3,rfl,hl2⟩:=len_of 2 _ hl3
 obtain⟨c4,cs4,rfl,hl1⟩:=len_of 1 _ hl2
 obtain⟨c5,cs5,rfl,hl0⟩:=len_of 0 _ hl1
 obtain rfl:cs5= []:=List.eq_nil_of_length_eq_zero hl0
 have hyn:ys.length=6:=hyl
 have z0:Tryz.prog.cellsOf 22=1:=by kernel_rfl
 have z1:Tryz.prog.cellsOf 24=1:=by kernel_rfl
 have z2:Tryz.prog.cellsOf 25=1:=by kernel_rfl
 have z3:Tryz.prog.cellsOf 23=1:=by kernel_rfl
 have z4:Tryz.prog.cellsOf 2=1:=by kernel_rfl
 have z5:Tryz.prog.cellsOf 28=1:=by kernel_rfl
 have g0:DataW.trod enc Tryz.prog W base spare held k 2 (List.take (Tryz.prog.cellsOf 2) (List.drop 0 [c0,c1,c2,c3,c4,c5]))=ys[0]?:=hf 0 _ rfl
 rw[z4,List.getElem?_eq_getElem (by omega)] at g0
 replace g0:DataW.trod enc Tryz.prog W base spare held k 2 [c0]=some _:=g0
 obtain⟨n0,e0,w0⟩:=op_n g0
 have g1:DataW.trod enc Tryz.prog W base spare held k 22 (List.take (Tryz.prog.cellsOf 22) (List.drop 1 [c0,c1,c2,c3,c4,c5]))=ys[1]?:=hf 1 _ rfl
 rw[z0,List.getElem?_eq_getElem (by omega)] at g1
 replace g1:DataW.trod enc Tryz.prog W base spare held k 22 [c1]=some _:=g1
 obtain⟨v1,n1,e1,r1,w1⟩:=op_LL g1
 have g2:DataW.trod enc Tryz.prog W base spare held k 23 (List.take (Tryz.prog.cellsOf 23) (List.drop 2 [c0,c1,c2,c3,c4,c5]))=ys[2]?:=hf 2 _ rfl
 rw[z3,List.getElem?_eq_getElem (by omega)] at g2
 replace g2:DataW.trod enc Tryz.prog W base spare held k 23 [c2]=some _:=g2
 obtain⟨v2,n2,e2,r2,w2⟩:=op_LTrack g2
 have g3:DataW.trod enc Tryz.prog W base spare held k 24 (List.take (Tryz.prog.cellsOf 24) (List.drop 3 [c0,c1,c2,c3,c4,c5]))=ys[3]?:=hf 3 _ rfl
 rw[z1,List.getElem?_eq_getElem (by omega)] at g3
 replace g3:DataW.trod enc Tryz.prog W base spare held k 24 [c3]=some _:=g3
 obtain⟨v3,n3,e3,r3,w3⟩:=op_LI g3
 have g4:DataW.trod enc Tryz.prog W base spare held k 25 (List.take (Tryz.prog.cellsOf 25) (List.drop 4 [c0,c1,c2,c3,c4,c5]))=ys[4]?:=hf 4 _ rfl
 rw[z2,List.getElem?_eq_getElem (by omega)] at g4
 replace g4:DataW.trod enc Tryz.prog W base spare held k 25 [c4]=some _:=g4
 obtain⟨v4,n4,e4,r4,w4⟩:=op_LPatch g4
 have g5:DataW.trod enc Tryz.prog W base spare held k 28 (List.take (Tryz.prog.cellsOf 28) (List.drop 5 [c0,c1,c2,c3,c4,c5]))=ys[5]?:=hf 5 _ rfl
 rw[z5,List.getElem?_eq_getElem (by omega)] at g5
 replace g5:DataW.trod enc Tryz.prog W base spare held k 28 [c5]=some _:=g5
 obtain⟨n5,r5,w5⟩:=op_Mixer g5
 obtain rfl:c0=_:=(List.cons.inj e0).1
 obtain rfl:c1=v1:=(List.cons.inj e1).1
 obtain rfl:c2=v2:=(List.cons.inj e2).1
 obtain rfl:c3=v3:=(List.cons.inj e3).1
 obtain rfl:c4=v4:=(List.cons.inj e4).1
 refine⟨⟨n0,n1,n2,n3,n4,n5⟩,?_,⟨w0,w1,w2,w3,w4,w5⟩⟩
 obtain⟨s5_0,he5,sr5_0⟩:=GMixer.yL r5
 simp only[List.cons.injEq,and_true] at he5
 subst he5
 unfold GSession.fs
 exact T.c_rn (T.c_rl r1 (T.c_rl r2 (T.c_rl r3 (T.c_rl r4 (T.c_rl sr5_0 (T.c_re))))))
theorem op_Cache {H:Type} {enc:TypeId × Value→H} {W:World} {base:Nat} {spare:Nat→Bool} {held:Bool} {fuel:Nat} {cs:List Value} {x:DataW H × List MemPlace} (h:DataW.trod enc Tryz.prog W base spare held fuel 32 cs=some x): ∃ g:GCache,T.rds W g.fs cs∧g.good:=by
 obtain⟨ys,k,_,_,hcl,hyl,hf⟩:=DataW.trod_struct Tryz.underlying32 h
 have hl8:cs.length=8:=hcl.trans (by kernel_rfl)
 obtain⟨c0,cs0,rfl,hl7⟩:=len_of 7 _ hl8
 obtain⟨c1,cs1,rfl,hl6⟩:=len_of 6 _ hl7
 obtain⟨c2,cs2,rfl,hl5⟩:=len_of 5 _ hl6
 obtain⟨c3,cs3,rfl,hl4⟩:=len_of 4 _ hl5
 obtain⟨c4,cs4,rfl,hl3⟩:=len_of 3 _ hl4
 obtain⟨c5,cs5,rfl,hl2⟩:=len_of 2 _ hl3
 obtain⟨c6,cs6,rfl,hl1⟩:=len_of 1 _ hl2
 obtain⟨c7,cs7,rfl,hl0⟩:=len_of 0 _ hl1
 obtain rfl:cs7= []:=List.eq_nil_of_length_eq_zero hl0
 have hyn:ys.length=3:=hyl
 have z0:Tryz.prog.cellsOf 24=1:=by kernel_rfl
 have z1:Tryz.prog.cellsOf 30=6:=by kernel_rfl
 have g0:DataW.trod enc Tryz.prog W base spare held k 30 (List.take (Tryz.prog.cellsOf 30) (List.drop 0 [c0,c1,c2,c3,c4,c5,c6,c7]))=ys[0]?:=hf 0 _ rfl
 rw[z1,List.getElem?_eq_getElem (by omega)] at g0
 replace g0:DataW.trod enc Tryz.prog W base spare held k 30 [c0,c1,c2,c3,c4,c5]=some _:=g0
 obtain⟨n0,r0,w0⟩:=op_Session g0
 have g1:DataW.trod enc Tryz.prog W base spare held k 24 (List.take (Tryz.prog.cellsOf 24) (List.drop 6 [c0,c1,c2,c3,c4,c5,c6,c7]))=ys[1]?:=hf 1 _ rfl
 rw[z0,List.getElem?_eq_getElem (by omega)] at g1
 replace g1:DataW.trod enc Tryz.prog W base spare held k 24 [c6]=some _:=g1
 obtain⟨v1,n1,e1,r1,w1⟩:=op_LI g1
 have g2:DataW.trod enc Tryz.prog W base spare held k 24 (List.take (Tryz.prog.cellsOf 24) (List.drop 7 [c0,c1,c2,c3,c4,c5,c6,c7]))=ys[2]?:=hf 2 _ rfl
 rw[z0,List.getElem?_eq_getElem (by omega)] at g2
 replace g2:DataW.trod enc Tryz.prog W base spare held k 24 [c7]=some _:=g2
 obtain⟨v2,n2,e2,r2,w2⟩:=op_LI g2
 obtain rfl:c6=v1:=(List.cons.inj e1).1
 obtain rfl:c7=v2:=(List.cons.inj e2).1
 refine⟨⟨n0,n1,n2⟩,?_,⟨w0.1,w0.2.1,w0.2.2.1,w0.2.2.2.1,w0.2.2.2.2.1,w0.2.2.2.2.2,w1,w2⟩⟩
 obtain⟨s0_1,s0_2,s0_3,s0_4,s0_5,he0,sr0_1,sr0_2,sr0_3,sr0_4,sr0_5⟩:=GSession.yL r0
 simp only[List.cons.injEq,and_true] at he0
 obtain⟨rfl,rfl,rfl,rfl,rfl,rfl⟩:=he0
 unfold GCache.fs
 exact T.c_rn (T.c_rl sr0_1 (T.c_rl sr0_2 (T.c_rl sr0_3 (T.c_rl sr0_4 (T.c_rl sr0_5 (T.c_rl r1 (T.c_rl r2 (T.c_re))))))))
theorem op_Edit {H:Type} {enc:TypeId × Value→H} {W:World} {base:Nat} {spare:Nat→Bool} {held:Bool} {fuel:Nat} {cs:List Value} {x:DataW H × List MemPlace} (h:DataW.trod enc Tryz.prog W base spare held fuel 58 cs=some x): ∃ g:GEdit,T.rds W g.fs cs∧g.good:=by
 obtain⟨ys,k,_,_,hcl,hyl,hf⟩:=DataW.trod_struct Tryz.underlying58 h
 have hl9:cs.length=9:=hcl.trans (by kernel_rfl)
 obtain⟨c0,cs0,rfl,hl8⟩:=len_of 8 _ hl9
 obtain⟨c1,cs1,rfl,hl7⟩:=len_of 7 _ hl8
 obtain⟨c2,cs2,rfl,hl6⟩:=len_of 6 _ hl7
 obtain⟨c3,cs3,rfl,hl5⟩:=len_of 5 _ hl6
 obtain⟨c4,cs4,rfl,hl4⟩:=len_of 4 _ hl5
 obtain⟨c5,cs5,rfl,hl3⟩:=len_of 3 _ hl4
 obtain⟨c6,cs6,rfl,hl2⟩:=len_of 2 _ hl3
 obtain⟨c7,cs7,rfl,hl1⟩:=len_of 1 _ hl2
 obtain⟨c8,cs8,rfl,hl0⟩:=len_of 0 _ hl1
 obtain rfl:cs8= []:=List.eq_nil_of_length_eq_zero hl0
 have hyn:ys.length=5:=hyl
 have z0:Tryz.prog.cellsOf 2=1:=by kernel_rfl
 have z1:Tryz.prog.cellsOf 56=5:=by kernel_rfl
 have g0:DataW.trod enc Tryz.prog W base spare held k 2 (List.take (Tryz.prog.cellsOf 2) (List.drop 0 [c0,c1,c2,c3,c4,c5,c6,c7,c8]))=ys[0]?:=hf 0 _ rfl
 rw[z0,List.getElem?_eq_getElem (by omega)] at g0
 replace g0:DataW.trod enc Tryz.prog W base spare held k 2 [c0]=some _:=g0
 obtain⟨n0,e0,w0⟩:=op_n g0
 have g1:DataW.trod enc Tryz.prog W base spare held k 2 (List.take (Tryz.prog.cellsOf 2) (List.drop 1 [c0,c1,c2,c3,c4,c5,c6,c7,c8]))=ys[1]?:=hf 1 _ rfl
 rw[z0,List.getElem?_eq_getElem (by omega)] at g1
 replace g1:DataW.trod enc Tryz.prog W base spare held k 2 [c1]=some _:=g1
 obtain⟨n1,e1,w1⟩:=op_n g1
 have g2:DataW.trod enc Tryz.prog W base spare held k 2 (List.take (Tryz.prog.cellsOf 2) (List.drop 2 [c0,c1,c2,c3,c4,c5,c6,c7,c8]))=ys[2]?:=hf 2 _ rfl
 rw[z0,List.getElem?_eq_getElem (by omega)] at g2
 replace g2:DataW.trod enc Tryz.prog W base spare held k 2 [c2]=some _:=g2
 obtain⟨n2,e2,w2⟩:=op_n g2
 have g3:DataW.trod enc Tryz.prog W base spare held k 2 (List.take (Tryz.prog.cellsOf 2) (List.drop 3 [c0,c1,c2,c3,c4,c5,c6,c7,c8]))=ys[3]?:=hf 3 _ rfl
 rw[z0,List.getElem?_eq_getElem (by omega)] at g3
 replace g3:DataW.trod enc Tryz.prog W base spare held k 2 [c3]=some _:=g3
 obtain⟨n3,e3,w3⟩:=op_n g3
 have g4:DataW.trod enc Tryz.prog W base spare held k 56 (List.take (Tryz.prog.cellsOf 56) (List.drop 4 [c0,c1,c2,c3,c4,c5,c6,c7,c8]))=ys[4]?:=hf 4 _ rfl
 rw[z1,List.getElem?_eq_getElem (by omega)] at g4
 replace g4:DataW.trod enc Tryz.prog W base spare held k 56 [c4,c5,c6,c7,c8]=some _:=g4
 obtain⟨n4,r4,w4⟩:=op_Clip g4
 obtain rfl:c0=_:=(List.cons.inj e0).1
 obtain rfl:c1=_:=(List.cons.inj e1).1
 obtain rfl:c2=_:=(List.cons.inj e2).1
 obtain rfl:c3=_:=(List.cons.inj e3).1
 refine⟨⟨n0,n1,n2,n3,n4⟩,?_,⟨w0,w1,w2,w3,w4.1,w4.2.1,w4.2.2.1,w4.2.2.2.1,w4.2.2.2.2⟩⟩
 have he4:=GClip.yL r4
 simp only[List.cons.injEq,and_true] at he4
 obtain⟨rfl,rfl,rfl,rfl,rfl⟩:=he4
 unfold GEdit.fs
 exact T.c_rn (T.c_rn (T.c_rn (T.c_rn (T.c_rn (T.c_rn (T.c_rn (T.c_rn (T.c_rn (T.c_re)))))))))
end Go.Proofs.YteiflbhcehajkaaGreat
