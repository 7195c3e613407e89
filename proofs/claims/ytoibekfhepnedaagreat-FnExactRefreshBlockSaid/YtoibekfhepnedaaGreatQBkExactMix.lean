/- Contracts on whole structs that own their memory. Contracts that the laws on sessions and edits share. The words of the translation's head, without running through its whole list of roots; and the closed facts of a row out of them. -/
import Derived.Test.YtoibekfhepnedaaGreatQAwExactMix
import Derived.Test.YtoibekfhepnedaaGreatQAiExactMix
import Derived.Test.YtoibekfhepnedaaGreatRows
import Derived.ProofKit
set_option linter.unusedVariables false
set_option linter.unusedSimpArgs false
set_option maxRecDepth 100000
namespace Go.Proofs.YtoibekfhepnedaaGreat
section
open Go.RowKit
theorem cntL_bd {α:Type} {c:α→Nat} {B:Nat} : ∀ {xs:List α},(∀ x ∈ xs,c x≤B)→wR c xs≤xs.length * B
 | [],_=>by simp[wR]
 |x :: r,h=>by
  have h1:=h x (by simp);have h2:=cntL_bd (xs:=r) (fun y hy=>h y (by simp[hy]));simp only[wR,List.length_cons,Nat.add_mul]
  omega
theorem zSz {α:Type} {c:α→Nat} {B N:Nat} {xs:List α} (h: ∀ x ∈ xs,c x≤B) (hl:xs.length≤N):wR c xs≤N * B:=
 Nat.le_trans (cntL_bd h) (Nat.mul_le_mul_right B hl)
theorem xQ.cnt_le {x:xQ} (h:x.small):x.cnt≤5242880:=by
 have b0:=zSz (c:=xU.cnt) (xs:=x.zZ) (B:=5) (N:=1048576) (fun y _=>zJ) h;unfold xQ.cnt
 omega
theorem xR.cnt_le {x:xR} (h:x.small):x.cnt≤1048579:=by
 have b3:x.zK.length≤1048576:=h;unfold xR.cnt
 omega
theorem xO.cnt_le {x:xO} (h:x.small):x.cnt≤2199027449857:=by
 have b1:=zSz (c:=List.length) (B:=1048576) (N:=1048576) h.1.2 h.1.1;have b2:=zSz (c:=xR.cnt) (B:=1048579) (N:=1048576) (fun y hy=>xR.cnt_le (h.2.1.2 y hy)) h.2.1.1;have b3:x.zT.length≤1048576:=h.2.2;unfold xO.cnt
 omega
theorem xP.cnt_le {x:xP} (h:x.small):x.cnt≤2097154:=by
 have b2:=zSz (c:=xV.cnt) (xs:=x.zY) (B:=2) (N:=1048576) (fun y _=>zJ) h.2;unfold xP.cnt
 omega
theorem xS.cntv_le {x:xS} (h:x.small):x.cntv≤4611686018000000000:=by
 have b1:=zSz (c:=List.length) (B:=1048576) (N:=1048576) h.1.2 h.1.1;have b2:=zSz (c:=xQ.cnt) (B:=5242880) (N:=1048576) (fun y hy=>xQ.cnt_le (h.2.1.2 y hy)) h.2.1.1;have b3:x.zX.length≤1048576:=h.2.2.1;have b4:=zSz (c:=xO.cnt) (B:=2199027449857) (N:=1048576) (fun y hy=>xO.cnt_le (h.2.2.2.1.2 y hy)) h.2.2.2.1.1;have b5:=zSz (c:=xP.cnt) (B:=2097154) (N:=1048576) (fun y hy=>xP.cnt_le (h.2.2.2.2.2 y hy)) h.2.2.2.2.1;simp only[xS.cntv,wG.cntv]
 omega
theorem bo_toSession (x:xS) (cs:List Value) (w:World) (hs:x.small) (h:T.rds w x.fs cs):Calls Tryz.prog 26 #[.agg cs.toArray] w fun e w'=> ∃ ds F,e= .returned (.agg ds.toArray)∧Nw w w' x.fs F ds:=by
 obtain⟨v1,v2,v3,v4,v5,rfl,h1,h2,h3,h4,h5⟩:=xS.yV h;refine(zAy x _ _ _ _ _ w hs h1 h2 h3 h4 h5).mono ?_;rintro e w' ⟨u1,F1,u2,F2,u3,F3,u4,F4,u5,F5,rfl,o1,o2,o3,o4,o5,sg,hb⟩;have ha:=sg.all;simp only[List.flatten_cons,List.flatten_nil] at ha;exact⟨_,_,rfl,xS.ow_mk o1 o2 o3 o4 o5,ha.1,fun b hb=>(ha.2 b hb).1,hb⟩
theorem bo_markSession (x:xS) (cs:List Value) (F:List Nat) (m:Nat) (w:World) (h0:0<m) (hm:m+x.cntv≤4611686018427387904) (h:T.ows w x.fs F cs) (hn:F.Nodup):Calls Tryz.prog 29 #[.agg cs.toArray,.int .i64 (m:Int)] w fun e w'=>e= .returned (.int .i64 ((m+x.cntv:Nat):Int))∧T.ows w' (x.mkv m).fs F cs∧Trn F w w':=by
 obtain⟨v1,v2,v3,v4,v5,F1,F2,F3,F4,F5,rfl,rfl,h1,h2,h3,h4,h5⟩:=xS.ow_open h;refine(zXy x _ _ _ _ _ _ _ _ _ _ m w h0 hm h1 h2 h3 h4 h5 hn).mono ?_;rintro e w' ⟨rfl,o1,o2,o3,o4,o5,ht⟩;exact⟨rfl,xS.ow_mk (x:=x.mkv m) o1 o2 o3 o4 o5,ht⟩
theorem xX.cntv_le {x:xX} (h:x.small):x.cntv≤4611686018000000000:=by
 have b1:=zSz (c:=List.length) (B:=1048576) (N:=1048576) h.1.2 h.1.1;have b2:=zSz (c:=xQ.cnt) (B:=5242880) (N:=1048576) (fun y hy=>xQ.cnt_le (h.2.1.2 y hy)) h.2.1.1;have b3:x.zB.zX.length≤1048576:=h.2.2.1;have b4:=zSz (c:=xO.cnt) (B:=2199027449857) (N:=1048576) (fun y hy=>xO.cnt_le (h.2.2.2.1.2 y hy)) h.2.2.2.1.1;have b5:=zSz (c:=xP.cnt) (B:=2097154) (N:=1048576) (fun y hy=>xP.cnt_le (h.2.2.2.2.1.2 y hy)) h.2.2.2.2.1.1;have b6:x.yF.length≤1048576:=h.2.2.2.2.2.1;have b7:x.yC.length≤1048576:=h.2.2.2.2.2.2;simp only[xX.cntv,xS.cntv,wG.cntv]
 omega
theorem bo_toCache (x:xX) (cs:List Value) (w:World) (hs:x.small) (h:T.rds w x.fs cs):Calls Tryz.prog 21 #[.agg cs.toArray] w fun e w'=> ∃ ds F,e= .returned (.agg ds.toArray)∧Nw w w' x.fs F ds:=by
 obtain⟨v1,v2,v3,v4,v5,v6,v7,rfl,h1,h2,h3,h4,h5,h6,h7⟩:=xX.yV h;refine(c_toCache x _ _ _ _ _ _ _ w hs h1 h2 h3 h4 h5 h6 h7).mono ?_;rintro e w' ⟨u1,F1,u2,F2,u3,F3,u4,F4,u5,F5,u6,F6,u7,F7,rfl,o1,o2,o3,o4,o5,o6,o7,sg,hb⟩;have ha:=sg.all;simp only[List.flatten_cons,List.flatten_nil] at ha;exact⟨_,_,rfl,xX.ow_mk o1 o2 o3 o4 o5 o6 o7,ha.1,fun b hb=>(ha.2 b hb).1,hb⟩
theorem xJz (x:xX) (cs:List Value) (F:List Nat) (m:Nat) (w:World) (h0:0<m) (hm:m+x.cntv≤4611686018427387904) (h:T.ows w x.fs F cs) (hn:F.Nodup):Calls Tryz.prog 30 #[.agg cs.toArray,.int .i64 (m:Int)] w fun e w'=>e= .returned (.int .i64 ((m+x.cntv:Nat):Int))∧T.ows w' (x.mkv m).fs F cs∧Trn F w w':=by
 obtain⟨v1,v2,v3,v4,v5,v6,v7,F1,F2,F3,F4,F5,F6,F7,rfl,rfl,h1,h2,h3,h4,h5,h6,h7⟩:=xX.ow_open h;refine(c_markCache x _ _ _ _ _ _ _ _ _ _ _ _ _ _ m w h0 hm h1 h2 h3 h4 h5 h6 h7 hn).mono ?_;rintro e w' ⟨rfl,o1,o2,o3,o4,o5,o6,o7,ht⟩;exact⟨rfl,xX.ow_mk (x:=x.mkv m) o1 o2 o3 o4 o5 o6 o7,ht⟩
theorem yIz (x:xX) (cs:List Value) (m:Nat) (w:World) (h0:0<m) (hm:m+x.cntv≤4611686018427387904) (h:T.rds w (x.mkv m).fs cs):Calls Tryz.prog 31 #[.agg cs.toArray,.int .i64 (m:Int)] w fun e w'=>e= .returned (.int .i64 ((m+x.cntv:Nat):Int))∧Below w.heap.size w w':=by
 obtain⟨v1,v2,v3,v4,v5,v6,v7,rfl,h1,h2,h3,h4,h5,h6,h7⟩:=xX.yV h;exact c_heldCache x _ _ _ _ _ _ _ _ m w h0 hm h1 h2 h3 h4 h5 h6 h7
end
section
open Go.RowKit
theorem b_szSession (x:xS) (cs:List Value) (n:Int) (w:World) (hn:0≤n) (hm:n≤1048576) (hg:x.good) (h:T.rds w x.fs cs):Calls Tryz.prog 24 #[.agg cs.toArray,.int .i64 n] w fun e w'=> ∃ m:Int,e= .returned (.int .i64 m)∧ -1≤m∧m≤n∧(0≤m→x.small)∧Below w.heap.size w w':=by
 obtain⟨v1,v2,v3,v4,v5,rfl,h1,h2,h3,h4,h5⟩:=xS.yV h;exact c_szSession x _ _ _ _ _ n w hn hm hg h1 h2 h3 h4 h5
end
section
open Go.ChangeShapes
theorem zTy: ∀ (a r:List Char),(a.all fun c=>c != Char.ofNat 32)=true→wordsSigns (a++Char.ofNat 32 :: r)=a :: wordsSigns r
 | [],r,_=>rfl
 |c :: a,r,h=>by
  simp only[List.all_cons,Bool.and_eq_true,bne_iff_ne,ne_eq] at h;have ih:=zTy a r (by simpa using h.2);rw[List.cons_append]
  conv=>lhs;unfold wordsSigns
  split
  ·rename_i e;cases e
  ·rename_i e
   injection e with e1 _;exact absurd e1 h.1
  ·rename_i e
   injection e with e1 e2;subst e1 e2;rw[ih]
theorem head_list: ∃ l,Tryz.prog.initOrder=String.ofList l∧("harness e82b0b89ba27765a464d549177c32b2184cc887a43bee21ac0e0d4633859cc82 cut ".toList).isPrefixOf l=true:=by
 refine⟨_,rfl,?_⟩
 kernel_rfl
theorem head_words: ∃ X,wordsSigns Tryz.prog.initOrder.toList= "harness".toList :: "e82b0b89ba27765a464d549177c32b2184cc887a43bee21ac0e0d4633859cc82".toList :: "cut".toList :: X:=by
 obtain⟨l,hl,hp⟩:=head_list;obtain⟨r,hr⟩:=List.isPrefixOf_iff_prefix.1 hp;have e: "harness e82b0b89ba27765a464d549177c32b2184cc887a43bee21ac0e0d4633859cc82 cut ".toList= "harness".toList++Char.ofNat 32 :: ("e82b0b89ba27765a464d549177c32b2184cc887a43bee21ac0e0d4633859cc82".toList++Char.ofNat 32 :: ("cut".toList++ [Char.ofNat 32])):=by kernel_rfl
 refine⟨wordsSigns r,?_⟩;rw[hl,String.toList_ofList,←hr,e];simp only[List.append_assoc,List.cons_append,List.nil_append];rw[zTy _ _ (by kernel_rfl),zTy _ _ (by kernel_rfl),zTy _ _ (by kernel_rfl)]
theorem behind: ∃ X,behindMainWord (wordsSigns Tryz.prog.initOrder.toList)= "cut".toList :: X:=by
 obtain⟨X,hX⟩:=head_words;refine⟨X,?_⟩;rw[hX];have e1:("harness".toList == "harness".toList || "harness".toList == "ownmain".toList)=true:=by kernel_rfl
 have e2:isSumSigns "e82b0b89ba27765a464d549177c32b2184cc887a43bee21ac0e0d4633859cc82".toList=true:=by kernel_rfl
 unfold behindMainWord;dsimp only;rw[e1,e2];rfl
section
variable {P:Program} {X:List (List Char)}
theorem make_of (hX:behindMainWord (wordsSigns P.initOrder.toList)= "cut".toList :: X):P.make=some .cut:=by
 unfold Program.make;rw[hX];rfl
theorem lifts_of (X:List (List Char)):stripLifts liftWords ("cut".toList :: X)=([], "cut".toList :: X):=rfl
theorem headLifts_of (hX:behindMainWord (wordsSigns P.initOrder.toList)= "cut".toList :: X):P.headLifts= []:=by
 unfold Program.headLifts;rw[hX,lifts_of];rfl
theorem liftsFinal_of (hX:behindMainWord (wordsSigns P.initOrder.toList)= "cut".toList :: X):P.liftsFinal=false:=by
 unfold Program.liftsFinal;rw[hX,headLifts_of hX];rfl
theorem mayEnter_of (hX:behindMainWord (wordsSigns P.initOrder.toList)= "cut".toList :: X) (h1:P.laysLater=false) (h2:P.bearsReflect=false) (h3:P.doorFits []=true):P.mayEnter=true:=by
 unfold Program.mayEnter;rw[hX];dsimp only;rw[lifts_of,h1,h2,h3]
 rfl
end
theorem make_is:Tryz.prog.make=some .cut:=by
 obtain⟨X,hX⟩:=behind;exact make_of hX
theorem vFz:Tryz.prog.liftsFinal=false:=by
 obtain⟨X,hX⟩:=behind;exact liftsFinal_of hX
theorem zDy:Tryz.prog.mayEnter=true:=by
 obtain⟨X,hX⟩:=behind;exact mayEnter_of hX (by kernel_rfl) (by kernel_rfl) (by kernel_rfl)
theorem yGy:laidOutB Tryz.prog=true:=by kernel_rfl
theorem own_is:ownKnob Tryz.prog.godebug=none:=by kernel_rfl
end
end Go.Proofs.YtoibekfhepnedaaGreat
