/- Contracts: marks of nested data, and marks that are still there. Contracts: which nested data are the same. -/
import Derived.Test.YtbgedljbgkcpiaaGreatDoorQAuExactDiffSessions
import Derived.Test.YtbgedljbgkcpiaaGreatDoorQAjExactDiffSessions
import Derived.Laws.StructEq
set_option linter.unusedVariables false
set_option linter.unusedSimpArgs false
set_option maxHeartbeats 1000000
set_option maxRecDepth 20000
section
namespace Go.Proofs.YtbgedljbgkcpiaaGreatDoor
open Go.RowKit
theorem c_markMixer (x:GMixer) (v0:Value) (F0:List Nat) (m:Nat) (w:World) (h0:0<m) (hm:m+x.cntv≤4611686018427387904) (o0:T.ow w (T.sl 117 3 (x.zH.map GStrip.t)) F0 [v0]) (hn:(F0++ []).Nodup):
  Calls Tryz.prog 42 #[.agg #[v0],.int .i64 (m:Int)] w fun e w'=>e= .returned (.int .i64 ((m+x.cntv:Nat):Int))∧T.ow w' (T.sl 117 3 ((x.mkv m).zH.map GStrip.t)) F0 [v0]∧Trn (F0++ []) w w':=by
 have hnd0:=nodup_fst hn
 have hg0:w.heap.size ∉ F0:=fun h=>by have:=T.ow_lt _ _ _ o0 _ h;omega
 have O0_0:=hide (T.ow_all o0 (show Below w.heap.size w (w.alloc (.cells #[v0] 39)) from(Below.refl _ _).alloc (Nat.le_refl _) _))
 clear o0
 go_enter Tryz.func42,Tryz.ntmps42
 have HTX0:=hide (show Trn (F0++ []) w (w.alloc (.cells #[v0] 39)) from Trn.alloc _)
 have HK0:=hide (Bk.born w 39 #[v0])
 go_wp2_with fail
 refine(c_markStripS _ x.zH F0 (m) _ (by omega) (by unfold GMixer.cntv at hm;omega) O0_0.out hnd0).mono ?_;rintro e w1 ⟨rfl,hn0,hT⟩
 have hT2:Trn (F0++ []) _ _:=hT.mono (fun b hb=>by simp[hb])
 have HTX1:=hide (HTX0.out.trans hT2);have HK1:=hide (HK0.out.trn hT hg0)
 have O0_1:=hide hn0
 clear hT hT2 hn0
 have k1:=HK1.out.cell
 go_wp2
 go_ret
 exact⟨by unfold GMixer.cntv;first|rfl|go_num|exact ret_int (by omega),O0_1.out,HTX1.out⟩
theorem c_markSession (x:GSession) (v1:Value) (v2:Value) (v3:Value) (v4:Value) (v5:Value) (F1:List Nat) (F2:List Nat) (F3:List Nat) (F4:List Nat) (F5:List Nat) (m:Nat) (w:World) (h0:0<m) (hm:m+x.cntv≤4611686018427387904) (o1:T.ow w (T.sl 24 1 (x.zM.map (T.ints 2))) F1 [v1]) (o2:T.ow w (T.sl 98 1 (x.zO.map GTrack.t)) F2 [v2]) (o3:T.ow w (T.ints 2 x.zU) F3 [v3]) (o4:T.ow w (T.sl 102 4 (x.zP.map GPatch.t)) F4 [v4]) (o5:T.ow w (T.sl 117 3 (x.zW.zH.map GStrip.t)) F5 [v5]) (hn:(F1++(F2++(F3++(F4++(F5++ []))))).Nodup):
  Calls Tryz.prog 10 #[.agg #[.int .i64 x.zE,v1,v2,v3,v4,v5],.int .i64 (m:Int)] w fun e w'=>e= .returned (.int .i64 ((m+x.cntv:Nat):Int))∧T.ow w' (T.sl 24 1 ((x.mkv m).zM.map (T.ints 2))) F1 [v1]∧T.ow w' (T.sl 98 1 ((x.mkv m).zO.map GTrack.t)) F2 [v2]∧T.ow w' (T.ints 2 (x.mkv m).zU) F3 [v3]∧T.ow w' (T.sl 102 4 ((x.mkv m).zP.map GPatch.t)) F4 [v4]∧T.ow w' (T.sl 117 3 ((x.mkv m).zW.zH.map GStrip.t)) F5 [v5]∧Trn (F1++(F2++(F3++(F4++(F5++ []))))) w w':=by
 have hnd1:=nodup_fst hn
 have hdj1_2: ∀ b ∈ F1,b ∉ F2:=fun b h1 h2=>nodup_dj hn b h1 (by simp[h2])
 have hdj2_1: ∀ b ∈ F2,b ∉ F1:=fun b h1 h2=>hdj1_2 b h2 h1
 have hdj1_3: ∀ b ∈ F1,b ∉ F3:=fun b h1 h2=>nodup_dj hn b h1 (by simp[h2])
 have hdj3_1: ∀ b ∈ F3,b ∉ F1:=fun b h1 h2=>hdj1_3 b h2 h1
 have hdj1_4: ∀ b ∈ F1,b ∉ F4:=fun b h1 h2=>nodup_dj hn b h1 (by simp[h2])
 have hdj4_1: ∀ b ∈ F4,b ∉ F1:=fun b h1 h2=>hdj1_4 b h2 h1
 have hdj1_5: ∀ b ∈ F1,b ∉ F5:=fun b h1 h2=>nodup_dj hn b h1 (by simp[h2])
 have hdj5_1: ∀ b ∈ F5,b ∉ F1:=fun b h1 h2=>hdj1_5 b h2 h1
 have hnd2:=nodup_fst (yN hn)
 have hdj2_3: ∀ b ∈ F2,b ∉ F3:=fun b h1 h2=>nodup_dj (yN hn) b h1 (by simp[h2])
 have hdj3_2: ∀ b ∈ F3,b ∉ F2:=fun b h1 h2=>hdj2_3 b h2 h1
 have hdj2_4: ∀ b ∈ F2,b ∉ F4:=fun b h1 h2=>nodup_dj (yN hn) b h1 (by simp[h2])
 have hdj4_2: ∀ b ∈ F4,b ∉ F2:=fun b h1 h2=>hdj2_4 b h2 h1
 have hdj2_5: ∀ b ∈ F2,b ∉ F5:=fun b h1 h2=>nodup_dj (yN hn) b h1 (by simp[h2])
 have hdj5_2: ∀ b ∈ F5,b ∉ F2:=fun b h1 h2=>hdj2_5 b h2 h1
 have hnd3:=nodup_fst (yN (yN hn))
 have hdj3_4: ∀ b ∈ F3,b ∉ F4:=fun b h1 h2=>nodup_dj (yN (yN hn)) b h1 (by simp[h2])
 have hdj4_3: ∀ b ∈ F4,b ∉ F3:=fun b h1 h2=>hdj3_4 b h2 h1
 have hdj3_5: ∀ b ∈ F3,b ∉ F5:=fun b h1 h2=>nodup_dj (yN (yN hn)) b h1 (by simp[h2])
 have hdj5_3: ∀ b ∈ F5,b ∉ F3:=fun b h1 h2=>hdj3_5 b h2 h1
 have hnd4:=nodup_fst (yN (yN (yN hn)))
 have hdj4_5: ∀ b ∈ F4,b ∉ F5:=fun b h1 h2=>nodup_dj (yN (yN (yN hn))) b h1 (by simp[h2])
 have hdj5_4: ∀ b ∈ F5,b ∉ F4:=fun b h1 h2=>hdj4_5 b h2 h1
 have hnd5:=nodup_fst (yN (yN (yN (yN hn))))
 have hg1:w.heap.size ∉ F1:=fun h=>by have:=T.ow_lt _ _ _ o1 _ h;omega
 have O1_0:=hide (T.ow_all o1 (show Below w.heap.size w (w.alloc (.cells #[.int .i64 x.zE,v1,v2,v3,v4,v5] 41)) from(Below.refl _ _).alloc (Nat.le_refl _) _))
 have hg2:w.heap.size ∉ F2:=fun h=>by have:=T.ow_lt _ _ _ o2 _ h;omega
 have O2_0:=hide (T.ow_all o2 (show Below w.heap.size w (w.alloc (.cells #[.int .i64 x.zE,v1,v2,v3,v4,v5] 41)) from(Below.refl _ _).alloc (Nat.le_refl _) _))
 have hg3:w.heap.size ∉ F3:=fun h=>by have:=T.ow_lt _ _ _ o3 _ h;omega
 have O3_0:=hide (T.ow_all o3 (show Below w.heap.size w (w.alloc (.cells #[.int .i64 x.zE,v1,v2,v3,v4,v5] 41)) from(Below.refl _ _).alloc (Nat.le_refl _) _))
 have hg4:w.heap.size ∉ F4:=fun h=>by have:=T.ow_lt _ _ _ o4 _ h;omega
 have O4_0:=hide (T.ow_all o4 (show Below w.heap.size w (w.alloc (.cells #[.int .i64 x.zE,v1,v2,v3,v4,v5] 41)) from(Below.refl _ _).alloc (Nat.le_refl _) _))
 have hg5:w.heap.size ∉ F5:=fun h=>by have:=T.ow_lt _ _ _ o5 _ h;omega
 have O5_0:=hide (T.ow_all o5 (show Below w.heap.size w (w.alloc (.cells #[.int .i64 x.zE,v1,v2,v3,v4,v5] 41)) from(Below.refl _ _).alloc (Nat.le_refl _) _))
 clear o1 o2 o3 o4 o5
 go_enter Tryz.func10,Tryz.ntmps10
 have HTX0:=hide (show Trn (F1++(F2++(F3++(F4++(F5++ []))))) w (w.alloc (.cells #[.int .i64 x.zE,v1,v2,v3,v4,v5] 41)) from Trn.alloc _)
 have HK0:=hide (Bk.born w 41 #[.int .i64 x.zE,v1,v2,v3,v4,v5])
 go_wp2_with fail
 refine(c_markInt64SS _ x.zM F1 (m) _ (by omega) (by unfold GSession.cntv at hm;omega) O1_0.out hnd1).mono ?_;rintro e w1 ⟨rfl,hn1,hT⟩
 have hT2:Trn (F1++(F2++(F3++(F4++(F5++ []))))) _ _:=hT.mono (fun b hb=>by simp[hb])
 have HTX1:=hide (HTX0.out.trans hT2);have HK1:=hide (HK0.out.trn hT hg1)
 have O1_1:=hide hn1
 have O2_1:=hide (T.ow_trn O2_0.out hT hdj2_1)
 have O3_1:=hide (T.ow_trn O3_0.out hT hdj3_1)
 have O4_1:=hide (T.ow_trn O4_0.out hT hdj4_1)
 have O5_1:=hide (T.ow_trn O5_0.out hT hdj5_1)
 clear hT hT2 hn1
 have k1:=HK1.out.cell
 go_wp2_with fail
 refine(c_markTrackS _ x.zO F2 (m+cntL List.length x.zM) _ (by omega) (by unfold GSession.cntv at hm;omega) O2_1.out hnd2).mono ?_;rintro e w2 ⟨rfl,hn2,hT⟩
 have hT2:Trn (F1++(F2++(F3++(F4++(F5++ []))))) _ _:=hT.mono (fun b hb=>by simp[hb])
 have HTX2:=hide (HTX1.out.trans hT2);have HK2:=hide (HK1.out.trn hT hg2)
 have O1_2:=hide (T.ow_trn O1_1.out hT hdj1_2)
 have O2_2:=hide hn2
 have O3_2:=hide (T.ow_trn O3_1.out hT hdj3_2)
 have O4_2:=hide (T.ow_trn O4_1.out hT hdj4_2)
 have O5_2:=hide (T.ow_trn O5_1.out hT hdj5_2)
 clear hT hT2 hn2
 have k2:=HK2.out.cell
 go_wp2_with fail
 refine(c_markI _ x.zU F3 (m+cntL List.length x.zM+cntL GTrack.cnt x.zO) _ (by omega) (by unfold GSession.cntv at hm;omega) O3_2.out hnd3).mono ?_;rintro e w3 ⟨rfl,hn3,hT⟩
 have hT2:Trn (F1++(F2++(F3++(F4++(F5++ []))))) _ _:=hT.mono (fun b hb=>by simp[hb])
 have HTX3:=hide (HTX2.out.trans hT2);have HK3:=hide (HK2.out.trn hT hg3)
 have O1_3:=hide (T.ow_trn O1_2.out hT hdj1_3)
 have O2_3:=hide (T.ow_trn O2_2.out hT hdj2_3)
 have O3_3:=hide hn3
 have O4_3:=hide (T.ow_trn O4_2.out hT hdj4_3)
 have O5_3:=hide (T.ow_trn O5_2.out hT hdj5_3)
 clear hT hT2 hn3
 have k3:=HK3.out.cell
 go_wp2_with fail
 refine(c_markPatchS _ x.zP F4 (m+cntL List.length x.zM+cntL GTrack.cnt x.zO+x.zU.length) _ (by omega) (by unfold GSession.cntv at hm;omega) O4_3.out hnd4).mono ?_;rintro e w4 ⟨rfl,hn4,hT⟩
 have hT2:Trn (F1++(F2++(F3++(F4++(F5++ []))))) _ _:=hT.mono (fun b hb=>by simp[hb])
 have HTX4:=hide (HTX3.out.trans hT2);have HK4:=hide (HK3.out.trn hT hg4)
 have O1_4:=hide (T.ow_trn O1_3.out hT hdj1_4)
 have O2_4:=hide (T.ow_trn O2_3.out hT hdj2_4)
 have O3_4:=hide (T.ow_trn O3_3.out hT hdj3_4)
 have O4_4:=hide hn4
 have O5_4:=hide (T.ow_trn O5_3.out hT hdj5_4)
 clear hT hT2 hn4
 have k4:=HK4.out.cell
 go_wp2_with fail
 refine(c_markMixer x.zW v5 F5 (m+cntL List.length x.zM+cntL GTrack.cnt x.zO+x.zU.length+cntL GPatch.cnt x.zP) _ (by omega) (by unfold GSession.cntv at hm;omega) O5_4.out (List.Nodup.sublist (List.Sublist.trans (List.Sublist.trans (List.Sublist.trans (List.Sublist.trans (List.Sublist.append (List.Sublist.refl _) (List.nil_sublist _)) (List.sublist_append_right _ _)) (List.sublist_append_right _ _)) (List.sublist_append_right _ _)) (List.sublist_append_right _ _)) hn)).mono ?_;rintro e w5 ⟨rfl,hn5,hT⟩
 have hT2:Trn (F1++(F2++(F3++(F4++(F5++ []))))) _ _:=hT.mono (fun b hb=>by simp only[List.mem_append,List.not_mem_nil,or_false] at hb ⊢;simp[hb])
 have HTX5:=hide (HTX4.out.trans hT2);have HK5:=hide (HK4.out.trn hT (fun h=>by simp only[List.mem_append,List.not_mem_nil,or_false] at h;exact hg5 h))
 have O1_5:=hide (T.ow_trn O1_4.out hT (fun b hb h=>by simp only[List.mem_append,List.not_mem_nil,or_false] at h;exact hdj1_5 b hb h))
 have O2_5:=hide (T.ow_trn O2_4.out hT (fun b hb h=>by simp only[List.mem_append,List.not_mem_nil,or_false] at h;exact hdj2_5 b hb h))
 have O3_5:=hide (T.ow_trn O3_4.out hT (fun b hb h=>by simp only[List.mem_append,List.not_mem_nil,or_false] at h;exact hdj3_5 b hb h))
 have O4_5:=hide (T.ow_trn O4_4.out hT (fun b hb h=>by simp only[List.mem_append,List.not_mem_nil,or_false] at h;exact hdj4_5 b hb h))
 have O5_5:=hide hn5
 clear hT hT2 hn5
 have k5:=HK5.out.cell
 go_wp2
 go_ret
 exact⟨by unfold GSession.cntv;first|rfl|go_num|exact ret_int (by omega),O1_5.out,O2_5.out,O3_5.out,O4_5.out,O5_5.out,HTX5.out⟩
end Go.Proofs.YtbgedljbgkcpiaaGreatDoor
end
section
namespace Go.Proofs.YtbgedljbgkcpiaaGreatDoor
open Go.RowKit
theorem c_same (v u:Value) (xs ys:List Int) (w:World) (hr1:RdI w v xs) (hr2:RdI w u ys):Calls Tryz.prog 150 #[v,u] w fun e w'=>e= .returned (.bool (decide (xs=ys)))∧Dr w w':=by
 obtain⟨A1,cap1,rfl,hl1,hc1,hx1⟩:=hr1.open_
 obtain⟨A2,cap2,rfl,hl2,hc2,hx2⟩:=hr2.open_
 have HX1:=hide hx1;have HX2:=hide hx2;clear hx1 hx2 hr1 hr2
 by_cases hll:xs.length=ys.length
 ·have hb:((xs.length:Int) != (ys.length:Int))=false:=by simp[hll]
  have HL:=hide hll;clear hll
  go_enter Tryz.func150,Tryz.ntmps150
  go_wp2
  go_loopw [14] (fun i wr=> ∃ k:Nat,k≤xs.length∧i= .int .i64 k∧xs.take k=ys.take k∧Dr w wr) (fun i _=>xs.length - (intOf i).toNat)
  case atStart=>exact⟨0,Nat.zero_le _,rfl,rfl,Dr.refl _⟩
  case round=>
   obtain⟨k,hk,rfl,hs,nr,rfl⟩:=hrel
   have HS:=hide hs;clear hs
   by_cases hlt:k<xs.length
   ·have hlt2:k<ys.length:=by have:=HL.out;omega
    obtain⟨b1,off1,rfl,hb1,hcell1⟩:=HX1.out k xs[k] (List.getElem?_eq_getElem hlt)
    obtain⟨b2,off2,rfl,hb2,hcell2⟩:=HX2.out k ys[k] (List.getElem?_eq_getElem hlt2)
    by_cases he:xs[k]=ys[k]
    ·have hd:(xs[k] != ys[k])=false:=by simp[he]
     have HE:=hide he;clear he
     go_wp2
     go_roundw
     case rel=>exact⟨k+1,by omega,by go_num,takes_succ HS.out (List.getElem?_eq_getElem hlt) (by rw[HE.out];exact List.getElem?_eq_getElem hlt2),(by repeat(first|exact Dr.refl _|exact⟨_,rfl⟩|refine Dr.drewN ?_ _|refine Dr.drew ?_))⟩
     case measure=>simp[intOf];omega
    ·have hd:(xs[k] != ys[k])=true:=by simp[he]
     have HE:=hide he;clear he
     go_wp2
     go_ret
     exact⟨by simp[ne_at (List.getElem?_eq_getElem hlt) (List.getElem?_eq_getElem hlt2) HE.out],(by repeat(first|exact Dr.refl _|exact⟨_,rfl⟩|refine Dr.drewN ?_ _|refine Dr.drew ?_))⟩
   ·go_wp2
    go_ret
    exact⟨by simp[eq_of_takes (k:=k) (by omega) HL.out HS.out],(by repeat(first|exact Dr.refl _|exact⟨_,rfl⟩|refine Dr.drewN ?_ _|refine Dr.drew ?_))⟩
 ·have hb:((xs.length:Int) != (ys.length:Int))=true:=by simp;omega
  have hne:xs≠ys:=fun e=>hll (by rw[e])
  have HN:=hide hne;clear hll hne
  go_enter Tryz.func150,Tryz.ntmps150
  go_wp2
  go_ret
  exact⟨by simp[HN.out],Dr.refl _⟩
theorem c_sameAll (v u:Value) (xs ys:List (List Int)) (w:World) (hr:T.rd w (T.sl 24 1 (xs.map (T.ints 2))) [v]) (ht:T.rd w (T.sl 24 1 (ys.map (T.ints 2))) [u]):
  Calls Tryz.prog 149 #[v,u] w fun e w'=>e= .returned (.bool (decide (xs=ys)))∧Dr w w':=by
 obtain⟨A1,cap1,rfl,hl1,hc1,hx1⟩:=T.yM hr
 obtain⟨A2,cap2,rfl,hl2,hc2,hx2⟩:=T.yM ht
 rw[List.length_map] at hl1 hl2 ⊢
 rw[List.length_map]
 have HX1:=hide hx1;have HX2:=hide hx2;clear hx1 hx2 hr ht
 by_cases hll:xs.length=ys.length
 ·have hb:((xs.length:Int) != (ys.length:Int))=false:=by simp[hll]
  have HL:=hide hll;clear hll
  go_enter Tryz.func149,Tryz.ntmps149
  go_wp2
  go_loopw [14] (fun i wr=> ∃ k:Nat,k≤xs.length∧i= .int .i64 k∧xs.take k=ys.take k∧Dr w wr) (fun i _=>xs.length - (intOf i).toNat)
  case atStart=>exact⟨0,Nat.zero_le _,rfl,rfl,Dr.refl _⟩
  case round=>
   obtain⟨k,hk,rfl,hs,nr,rfl⟩:=hrel
   have HS:=hide hs;clear hs
   by_cases hlt:k<xs.length
   ·have hlt2:k<ys.length:=by have:=HL.out;omega
    obtain⟨b1,o1,cs1,rfl,hb1,hcs1,hcell1⟩:=HX1.out k (T.ints 2 xs[k]) (by rw[List.getElem?_map,List.getElem?_eq_getElem hlt];rfl)
    obtain⟨b2,o2,cs2,rfl,hb2,hcs2,hcell2⟩:=HX2.out k (T.ints 2 ys[k]) (by rw[List.getElem?_map,List.getElem?_eq_getElem hlt2];rfl)
    have hg1:=List.getElem?_eq_getElem hlt
    have hg2:=List.getElem?_eq_getElem hlt2
    generalize xs[k]=x at *
    generalize ys[k]=y at *
    have HG1:=hide hg1;have HG2:=hide hg2;clear hg1 hg2
    obtain⟨v3,rfl⟩:=T.rd_one hcs1
    obtain⟨v4,rfl⟩:=T.rd_one hcs2
    have d0:=hcell1 0 v3 rfl
    have g0:=hcell2 0 v4 rfl
    rw[Nat.mul_one,Nat.add_zero] at d0 g0
    have R1:=hide (show RdI (w.drewN nr) v3 x from Rd.drewN (T.yQ.1 hcs1) nr);have R2:=hide (show RdI (w.drewN nr) v4 y from Rd.drewN (T.yQ.1 hcs2) nr)
    clear hcs1 hcs2 hcell1 hcell2
    by_cases he:x=y
    ·have hde:decide (x=y)=true:=decide_eq_true he
     have HE:=hide he;clear he
     go_wp2_with (go_at_call 150;refine(c_same _ _ x y _ R1.out R2.out).mono ?_;rintro e w3 ⟨rfl,hd3⟩;rw[hde])
     go_roundw
     case rel=>exact⟨k+1,by omega,by go_num,takes_succ HS.out HG1.out (by rw[HE.out];exact HG2.out),(Dr.drewN (Dr.refl _) _).trans hd3⟩
     case measure=>simp[intOf];omega
    ·have hde:decide (x=y)=false:=decide_eq_false he
     have HE:=hide he;clear he
     go_wp2_with (go_at_call 150;refine(c_same _ _ x y _ R1.out R2.out).mono ?_;rintro e w3 ⟨rfl,hd3⟩;rw[hde])
     go_ret
     exact⟨by simp[ne_at HG1.out HG2.out HE.out],(Dr.drewN (Dr.refl _) _).trans hd3⟩
   ·go_wp2
    go_ret
    exact⟨by simp[eq_of_takes (k:=k) (by omega) HL.out HS.out],(by repeat(first|exact Dr.refl _|exact⟨_,rfl⟩|refine Dr.drewN ?_ _|refine Dr.drew ?_))⟩
 ·have hb:((xs.length:Int) != (ys.length:Int))=true:=by simp;omega
  have hne:xs≠ys:=fun e=>hll (by rw[e])
  have HN:=hide hne;clear hll hne
  go_enter Tryz.func149,Tryz.ntmps149
  go_wp2
  go_ret
  exact⟨by simp[HN.out],Dr.refl _⟩
theorem c_iSameNode (a b:GNode) (v3:Value) (u3:Value) (w:World) (r3:T.rd w (T.ints 2 a.zG) [v3]) (t3:T.rd w (T.ints 2 b.zG) [u3]):
  Calls Tryz.prog 151 #[.agg #[.int .i64 a.zC,.int .i64 a.fA,.int .i64 a.fB,v3],.agg #[.int .i64 b.zC,.int .i64 b.fA,.int .i64 b.fB,u3]] w fun e w'=>e= .returned (.bool (decide (a=b)))∧Below w.heap.size w w':=by
 have hab:decide (a=b)=(decide (a.zC=b.zC) && (decide (a.fA=b.fA) && (decide (a.fB=b.fB) && (decide (a.zG=b.zG))))):=by
  obtain⟨x0,x1,x2,x3⟩:=a
  obtain⟨y0,y1,y2,y3⟩:=b
  rw[Bool.eq_iff_iff]
  simp only[GNode.mk.injEq,decide_eq_true_eq,Bool.and_eq_true]
  try (constructor<;>(intro h;simp[h]))
 have R3:=hide r3;have Q3:=hide t3
 obtain⟨va3,vl3,vc3,rfl⟩:=T.yS r3
 obtain⟨ua3,ul3,uc3,rfl⟩:=T.yS t3
 clear r3 t3
 have HAB:=hide hab;clear hab
 have HB0:=hide (show Below w.heap.size w ((w.alloc (.cells #[.int .i64 a.zC,.int .i64 a.fA,.int .i64 a.fB,(.slice va3 vl3 vc3)] 160)).alloc (.cells #[.int .i64 b.zC,.int .i64 b.fA,.int .i64 b.fB,(.slice ua3 ul3 uc3)] 160)) from((Below.refl _ _).alloc (Nat.le_refl _) _).alloc (by first|(simp;done)|(simp;omega)|omega) _)
 have HKA0:=hide ((Bk.born w 160 #[.int .i64 a.zC,.int .i64 a.fA,.int .i64 a.fB,(.slice va3 vl3 vc3)]).alloc (.cells #[.int .i64 b.zC,.int .i64 b.fA,.int .i64 b.fB,(.slice ua3 ul3 uc3)] 160))
 have HKB0:=hide (Bk.born1' w (.cells #[.int .i64 a.zC,.int .i64 a.fA,.int .i64 a.fB,(.slice va3 vl3 vc3)] 160) 160 #[.int .i64 b.zC,.int .i64 b.fA,.int .i64 b.fB,(.slice ua3 ul3 uc3)])
 by_cases h0:a.zC=b.zC
 ·have e0:(a.zC == b.zC)=true:=by simp[h0]
  have H0:=hide h0;clear h0
  by_cases h1:a.fA=b.fA
  ·have e1:(a.fA == b.fA)=true:=by simp[h1]
   have H1:=hide h1;clear h1
   by_cases h2:a.fB=b.fB
   ·have e2:(a.fB == b.fB)=true:=by simp[h2]
    have H2:=hide h2;clear h2
    by_cases h3:a.zG=b.zG
    ·have c3:decide (a.zG=b.zG)=true:=by simp[h3]
     have H3:=hide h3;clear h3
     go_enter Tryz.func151,Tryz.ntmps151
     go_wp2_with fail
     refine(c_same _ _ a.zG b.zG _ (T.yQ.1 (T.yD R3.out HB0.out)) (T.yQ.1 (T.yD Q3.out HB0.out))).mono ?_;rintro e w1 ⟨rfl,hd⟩;rw[c3]
     have hb:Below (((w.alloc (.cells #[.int .i64 a.zC,.int .i64 a.fA,.int .i64 a.fB,(.slice va3 vl3 vc3)] 160)).alloc (.cells #[.int .i64 b.zC,.int .i64 b.fA,.int .i64 b.fB,(.slice ua3 ul3 uc3)] 160))).heap.size ((w.alloc (.cells #[.int .i64 a.zC,.int .i64 a.fA,.int .i64 a.fB,(.slice va3 vl3 vc3)] 160)).alloc (.cells #[.int .i64 b.zC,.int .i64 b.fA,.int .i64 b.fB,(.slice ua3 ul3 uc3)] 160)) w1:=by first|exact hd.to_below _|exact hd
     have HKA1:=hide (HKA0.out.below hb HKA0.out.lt);have HKB1:=hide (HKB0.out.below hb HKB0.out.lt);have HB1:=hide (yH HB0.out HB0.out.size hb);clear hb hd
     have ka1:=HKA1.out.cell;have kb1:=HKB1.out.cell
     go_wp2
     go_ret
     exact⟨yG (by rw[HAB.out];simp[H0.out,H1.out,H2.out,H3.out]),HB1.out⟩
    ·have c3:decide (a.zG=b.zG)=false:=by simp[h3]
     have H3:=hide h3;clear h3
     go_enter Tryz.func151,Tryz.ntmps151
     go_wp2_with fail
     refine(c_same _ _ a.zG b.zG _ (T.yQ.1 (T.yD R3.out HB0.out)) (T.yQ.1 (T.yD Q3.out HB0.out))).mono ?_;rintro e w1 ⟨rfl,hd⟩;rw[c3]
     have hb:Below (((w.alloc (.cells #[.int .i64 a.zC,.int .i64 a.fA,.int .i64 a.fB,(.slice va3 vl3 vc3)] 160)).alloc (.cells #[.int .i64 b.zC,.int .i64 b.fA,.int .i64 b.fB,(.slice ua3 ul3 uc3)] 160))).heap.size ((w.alloc (.cells #[.int .i64 a.zC,.int .i64 a.fA,.int .i64 a.fB,(.slice va3 vl3 vc3)] 160)).alloc (.cells #[.int .i64 b.zC,.int .i64 b.fA,.int .i64 b.fB,(.slice ua3 ul3 uc3)] 160)) w1:=by first|exact hd.to_below _|exact hd
     have HKA1:=hide (HKA0.out.below hb HKA0.out.lt);have HKB1:=hide (HKB0.out.below hb HKB0.out.lt);have HB1:=hide (yH HB0.out HB0.out.size hb);clear hb hd
     have ka1:=HKA1.out.cell;have kb1:=HKB1.out.cell
     go_wp2
     go_ret
     exact⟨yG (by rw[HAB.out];simp[H0.out,H1.out,H2.out,H3.out]),HB1.out⟩
   ·have e2:(a.fB == b.fB)=false:=by simp[h2]
    have H2:=hide h2;clear h2
    go_enter Tryz.func151,Tryz.ntmps151
    go_wp2
    go_ret
    exact⟨yG (by rw[HAB.out];simp[H0.out,H1.out,H2.out]),HB0.out⟩
  ·have e1:(a.fA == b.fA)=false:=by simp[h1]
   have H1:=hide h1;clear h1
   go_enter Tryz.func151,Tryz.ntmps151
   go_wp2
   go_ret
   exact⟨yG (by rw[HAB.out];simp[H0.out,H1.out]),HB0.out⟩
 ·have e0:(a.zC == b.zC)=false:=by simp[h0]
  have H0:=hide h0;clear h0
  go_enter Tryz.func151,Tryz.ntmps151
  go_wp2
  go_ret
  exact⟨yG (by rw[HAB.out];simp[H0.out]),HB0.out⟩
end Go.Proofs.YtbgedljbgkcpiaaGreatDoor
end
