/- Contracts on whole structs that own their memory. Contracts that the laws on sessions and edits share. -/
import Derived.Test.YteiflbhcehajkaaGreatQBhExactEditCache
import Derived.Test.YteiflbhcehajkaaGreatQAmExactEditCache
set_option linter.unusedVariables false
set_option linter.unusedSimpArgs false

section
namespace Go.Proofs.YteiflbhcehajkaaGreat
open Go.RowKit
theorem cntL_bd {α:Type} {c:α→Nat} {B:Nat} : ∀ {xs:List α},(∀ x ∈ xs,c x≤B)→cntL c xs≤xs.length * B
 | [],_=>by simp[cntL]
 |x :: r,h=>by
  have h1:=h x (by simp)
  have h2:=cntL_bd (xs:=r) (fun y hy=>h y (by simp[hy]))
  simp only[cntL,List.length_cons,Nat.add_mul]
  omega
theorem cntL_le2 {α:Type} {c:α→Nat} {B N:Nat} {xs:List α} (h: ∀ x ∈ xs,c x≤B) (hl:xs.length≤N):cntL c xs≤N * B:=
 Nat.le_trans (cntL_bd h) (Nat.mul_le_mul_right B hl)
theorem GTrack.cnt_le {x:GTrack} (h:x.small):x.cnt≤5242880:=by
 have b0:=cntL_le2 (c:=GClip.cnt) (xs:=x.zL) (B:=5) (N:=1048576) (fun y _=>Nat.le_refl _) h
 unfold GTrack.cnt
 omega
theorem GNode.cnt_le {x:GNode} (h:x.small):x.cnt≤1048579:=by
 have b3:x.zI.length≤1048576:=h
 unfold GNode.cnt
 omega
theorem GPatch.cnt_le {x:GPatch} (h:x.small):x.cnt≤2199027449857:=by
 have b1:=cntL_le2 (c:=List.length) (B:=1048576) (N:=1048576) h.1.2 h.1.1
 have b2:=cntL_le2 (c:=GNode.cnt) (B:=1048579) (N:=1048576) (fun y hy=>GNode.cnt_le (h.2.1.2 y hy)) h.2.1.1
 have b3:x.zN.length≤1048576:=h.2.2
 unfold GPatch.cnt
 omega
theorem GStrip.cnt_le {x:GStrip} (h:x.small):x.cnt≤2097154:=by
 have b2:=cntL_le2 (c:=GSend.cnt) (xs:=x.zS) (B:=2) (N:=1048576) (fun y _=>Nat.le_refl _) h.2
 unfold GStrip.cnt
 omega
theorem GCache.cntv_le {x:GCache} (h:x.small):x.cntv≤4611686018000000000:=by
 have b1:=cntL_le2 (c:=List.length) (B:=1048576) (N:=1048576) h.1.2 h.1.1
 have b2:=cntL_le2 (c:=GTrack.cnt) (B:=5242880) (N:=1048576) (fun y hy=>GTrack.cnt_le (h.2.1.2 y hy)) h.2.1.1
 have b3:x.zB.zK.length≤1048576:=h.2.2.1
 have b4:=cntL_le2 (c:=GPatch.cnt) (B:=2199027449857) (N:=1048576) (fun y hy=>GPatch.cnt_le (h.2.2.2.1.2 y hy)) h.2.2.2.1.1
 have b5:=cntL_le2 (c:=GStrip.cnt) (B:=2097154) (N:=1048576) (fun y hy=>GStrip.cnt_le (h.2.2.2.2.1.2 y hy)) h.2.2.2.2.1.1
 have b6:x.yA.length≤1048576:=h.2.2.2.2.2.1
 have b7:x.zU.length≤1048576:=h.2.2.2.2.2.2
 simp only[GCache.cntv,GSession.cntv,GMixer.cntv]
 omega
theorem bo_toCache (x:GCache) (cs:List Value) (w:World) (hs:x.small) (h:T.rds w x.fs cs):Calls Tryz.prog 8 #[.agg cs.toArray] w fun e w'=> ∃ ds F,e= .returned (.agg ds.toArray)∧Nw w w' x.fs F ds:=by
 obtain⟨v1,v2,v3,v4,v5,v6,v7,rfl,h1,h2,h3,h4,h5,h6,h7⟩:=GCache.yL h
 refine(c_toCache x _ _ _ _ _ _ _ w hs h1 h2 h3 h4 h5 h6 h7).mono ?_
 rintro e w' ⟨u1,F1,u2,F2,u3,F3,u4,F4,u5,F5,u6,F6,u7,F7,rfl,o1,o2,o3,o4,o5,o6,o7,sg,hb⟩
 have ha:=sg.all
 simp only[List.flatten_cons,List.flatten_nil] at ha
 exact⟨_,_,rfl,GCache.ow_mk o1 o2 o3 o4 o5 o6 o7,ha.1,fun b hb=>(ha.2 b hb).1,hb⟩
theorem bo_markCache (x:GCache) (cs:List Value) (F:List Nat) (m:Nat) (w:World) (h0:0<m) (hm:m+x.cntv≤4611686018427387904) (h:T.ows w x.fs F cs) (hn:F.Nodup):Calls Tryz.prog 17 #[.agg cs.toArray,.int .i64 (m:Int)] w fun e w'=>e= .returned (.int .i64 ((m+x.cntv:Nat):Int))∧T.ows w' (x.mkv m).fs F cs∧Trn F w w':=by
 obtain⟨v1,v2,v3,v4,v5,v6,v7,F1,F2,F3,F4,F5,F6,F7,rfl,rfl,h1,h2,h3,h4,h5,h6,h7⟩:=GCache.ow_open h
 refine(c_markCache x _ _ _ _ _ _ _ _ _ _ _ _ _ _ m w h0 hm h1 h2 h3 h4 h5 h6 h7 hn).mono ?_
 rintro e w' ⟨rfl,o1,o2,o3,o4,o5,o6,o7,ht⟩
 exact⟨rfl,GCache.ow_mk (x:=x.mkv m) o1 o2 o3 o4 o5 o6 o7,ht⟩
theorem bo_heldCache (x:GCache) (cs:List Value) (m:Nat) (w:World) (h0:0<m) (hm:m+x.cntv≤4611686018427387904) (h:T.rds w (x.mkv m).fs cs):Calls Tryz.prog 18 #[.agg cs.toArray,.int .i64 (m:Int)] w fun e w'=>e= .returned (.int .i64 ((m+x.cntv:Nat):Int))∧Below w.heap.size w w':=by
 obtain⟨v1,v2,v3,v4,v5,v6,v7,rfl,h1,h2,h3,h4,h5,h6,h7⟩:=GCache.yL h
 exact c_heldCache x _ _ _ _ _ _ _ _ m w h0 hm h1 h2 h3 h4 h5 h6 h7
end Go.Proofs.YteiflbhcehajkaaGreat
end
section
namespace Go.Proofs.YteiflbhcehajkaaGreat
open Go.RowKit
end Go.Proofs.YteiflbhcehajkaaGreat
end
