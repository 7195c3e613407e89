/- The words of the translation's head, without running through its whole list of roots; and the closed facts of a row out of them. -/
import Derived.Test.YtdcofkabaigjpaaGreatRows
import Derived.ProofKit
set_option linter.unusedVariables false
set_option linter.unusedSimpArgs false
set_option maxRecDepth 100000
namespace Go.Proofs.YtdcofkabaigjpaaGreat
open Go.ChangeShapes
theorem wHz: ∀ (a r:List Char),(a.all fun c=>c != Char.ofNat 32)=true→wordsSigns (a++Char.ofNat 32 :: r)=a :: wordsSigns r
 | [],r,_=>rfl
 |c :: a,r,h=>by
  simp only[List.all_cons,Bool.and_eq_true,bne_iff_ne,ne_eq] at h;have ih:=wHz a r (by simpa using h.2);rw[List.cons_append]
  conv=>lhs;unfold wordsSigns
  split
  ·rename_i e;cases e
  ·rename_i e
   injection e with e1 _;exact absurd e1 h.1
  ·rename_i e
   injection e with e1 e2;subst e1 e2;rw[ih]
theorem head_list: ∃ l,Tryz.prog.initOrder=String.ofList l∧("harness e62a8115f02e7d88259a74e8e5f48f07f1eda65fc6f81ca3c217d7b38e1c1358 cut ".toList).isPrefixOf l=true:=by
 refine⟨_,rfl,?_⟩
 kernel_rfl
theorem head_words: ∃ X,wordsSigns Tryz.prog.initOrder.toList= "harness".toList :: "e62a8115f02e7d88259a74e8e5f48f07f1eda65fc6f81ca3c217d7b38e1c1358".toList :: "cut".toList :: X:=by
 obtain⟨l,hl,hp⟩:=head_list;obtain⟨r,hr⟩:=List.isPrefixOf_iff_prefix.1 hp;have e: "harness e62a8115f02e7d88259a74e8e5f48f07f1eda65fc6f81ca3c217d7b38e1c1358 cut ".toList= "harness".toList++Char.ofNat 32 :: ("e62a8115f02e7d88259a74e8e5f48f07f1eda65fc6f81ca3c217d7b38e1c1358".toList++Char.ofNat 32 :: ("cut".toList++ [Char.ofNat 32])):=by kernel_rfl
 refine⟨wordsSigns r,?_⟩;rw[hl,String.toList_ofList,←hr,e];simp only[List.append_assoc,List.cons_append,List.nil_append];rw[wHz _ _ (by kernel_rfl),wHz _ _ (by kernel_rfl),wHz _ _ (by kernel_rfl)]
theorem behind: ∃ X,behindMainWord (wordsSigns Tryz.prog.initOrder.toList)= "cut".toList :: X:=by
 obtain⟨X,hX⟩:=head_words;refine⟨X,?_⟩;rw[hX];have e1:("harness".toList == "harness".toList || "harness".toList == "ownmain".toList)=true:=by kernel_rfl
 have e2:isSumSigns "e62a8115f02e7d88259a74e8e5f48f07f1eda65fc6f81ca3c217d7b38e1c1358".toList=true:=by kernel_rfl
 unfold behindMainWord;dsimp only;rw[e1,e2];rfl
section
variable {P:Program} {X:List (List Char)}
theorem make_of (hX:behindMainWord (wordsSigns P.initOrder.toList)= "cut".toList :: X):P.make=some .cut:=by
 unfold Program.make;rw[hX];rfl
theorem lifts_of (X:List (List Char)):stripLifts liftWords ("cut".toList :: X)=([], "cut".toList :: X):=rfl
theorem headLifts_of (hX:behindMainWord (wordsSigns P.initOrder.toList)= "cut".toList :: X):P.headLifts= []:=by
 unfold Program.headLifts;rw[hX,lifts_of];rfl
theorem liftsFinal_of (hX:behindMainWord (wordsSigns P.initOrder.toList)= "cut".toList :: X):P.liftsFinal=false:=by
 unfold Program.liftsFinal;rw[hX,headLifts_of hX];rfl
theorem mayEnter_of (hX:behindMainWord (wordsSigns P.initOrder.toList)= "cut".toList :: X) (h1:P.laysLater=false) (h2:P.bearsReflect=false) (h3:P.doorFits []=true):P.mayEnter=true:=by
 unfold Program.mayEnter;rw[hX];dsimp only;rw[lifts_of,h1,h2,h3]
 rfl
end
theorem make_is:Tryz.prog.make=some .cut:=by
 obtain⟨X,hX⟩:=behind;exact make_of hX
theorem liftsFinal_is:Tryz.prog.liftsFinal=false:=by
 obtain⟨X,hX⟩:=behind;exact liftsFinal_of hX
theorem mayEnter_is:Tryz.prog.mayEnter=true:=by
 obtain⟨X,hX⟩:=behind;exact mayEnter_of hX (by kernel_rfl) (by kernel_rfl) (by kernel_rfl)
theorem laidOut_is:laidOutB Tryz.prog=true:=by kernel_rfl
theorem own_is:ownKnob Tryz.prog.godebug=none:=by kernel_rfl
end Go.Proofs.YtdcofkabaigjpaaGreat
