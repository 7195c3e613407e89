/- Contracts: nested data marked cell by cell. -/
import Derived.Test.YtbgedljbgkcpiaaGreatDoorQAgExactDiffSessions
import Derived.Test.YtbgedljbgkcpiaaGreatDoorQAqExactDiffSessions
import Derived.Test.YtbgedljbgkcpiaaGreatDoorQAfExactDiffSessions
import Derived.Test.YtbgedljbgkcpiaaGreatDoorQAdExactDiffSessions
set_option linter.unusedVariables false
set_option linter.unusedSimpArgs false
set_option maxHeartbeats 1000000
set_option maxRecDepth 20000
namespace Go.Proofs.YtbgedljbgkcpiaaGreatDoor
open Go.RowKit
def GClip.cnt (x:GClip):Nat:=1+1+1+1+1
def GClip.mkd (x:GClip) (k:Nat):GClip:= { zS:=((k:Nat):Int),zG:=((k+1:Nat):Int),zE:=((k+2:Nat):Int),yB:=((k+3:Nat):Int),zQ:=((k+4:Nat):Int) }
def GTrack.cnt (x:GTrack):Nat:=cntL GClip.cnt x.zR
def GTrack.mkd (x:GTrack) (k:Nat):GTrack:= { zR:=mkL GClip.mkd GClip.cnt x.zR (k) }
def GNode.cnt (x:GNode):Nat:=1+1+1+x.zG.length
def GNode.mkd (x:GNode) (k:Nat):GNode:= { zC:=((k:Nat):Int),fA:=((k+1:Nat):Int),fB:=((k+2:Nat):Int),zG:=marks (k+3) x.zG.length }
def GPatch.cnt (x:GPatch):Nat:=1+cntL List.length x.zN+cntL GNode.cnt x.zD+x.zK.length
def GPatch.mkd (x:GPatch) (k:Nat):GPatch:= { zJ:=((k:Nat):Int),zN:=mkL (fun l k=>marks k l.length) List.length x.zN (k+1),zD:=mkL GNode.mkd GNode.cnt x.zD (k+1+cntL List.length x.zN),zK:=marks (k+1+cntL List.length x.zN+cntL GNode.cnt x.zD) x.zK.length }
def GSend.cnt (x:GSend):Nat:=1+1
def GSend.mkd (x:GSend) (k:Nat):GSend:= { yC:=((k:Nat):Int),zQ:=((k+1:Nat):Int) }
def GStrip.cnt (x:GStrip):Nat:=1+1+cntL GSend.cnt x.yA
def GStrip.mkd (x:GStrip) (k:Nat):GStrip:= { zV:=mrkB (k),zT:=((k+1:Nat):Int),yA:=mkL GSend.mkd GSend.cnt x.yA (k+2) }
def GMixer.cntv (x:GMixer):Nat:=cntL GStrip.cnt x.zH
def GMixer.mkv (x:GMixer) (k:Nat):GMixer:= { zH:=mkL GStrip.mkd GStrip.cnt x.zH (k) }
def GSession.cntv (x:GSession):Nat:=cntL List.length x.zM+cntL GTrack.cnt x.zO+x.zU.length+cntL GPatch.cnt x.zP+x.zW.cntv
def GSession.mkv (x:GSession) (k:Nat):GSession:= { zE:=x.zE,zM:=mkL (fun l k=>marks k l.length) List.length x.zM (k),zO:=mkL GTrack.mkd GTrack.cnt x.zO (k+cntL List.length x.zM),zU:=marks (k+cntL List.length x.zM+cntL GTrack.cnt x.zO) x.zU.length,zP:=mkL GPatch.mkd GPatch.cnt x.zP (k+cntL List.length x.zM+cntL GTrack.cnt x.zO+x.zU.length),zW:=x.zW.mkv (k+cntL List.length x.zM+cntL GTrack.cnt x.zO+x.zU.length+cntL GPatch.cnt x.zP) }
theorem c_markI (v:Value) (xs:List Int) (F:List Nat) (m:Nat) (w:World) (h0:0<m) (hm:m+xs.length≤4611686018427387904) (ho:T.ow w (T.ints 2 xs) F [v]) (hn:F.Nodup):
  Calls Tryz.prog 40 #[v,.int .i64 (m:Int)] w fun e w'=>e= .returned (.int .i64 ((m+xs.length:Nat):Int))∧T.ow w' (T.ints 2 (marks m xs.length)) F [v]∧Trn F w w':=by
 obtain⟨h1,rfl⟩:=T.ow_ints.1 ho
 exact(c_markInt64S _ 0 v xs m w h1 hm).mono fun e w' ⟨a,b,c⟩=>⟨a,T.ow_ints.2 ⟨b,rfl⟩,Trn.of_grown c⟩
theorem c_markInt64SS (v:Value) (xs:List (List Int)) (F:List Nat) (m:Nat) (w:World) (h0:0<m) (hm:m+cntL List.length xs≤4611686018427387904) (ho:T.ow w (T.sl 24 1 (xs.map (T.ints 2))) F [v]) (hn:F.Nodup):
  Calls Tryz.prog 38 #[v,.int .i64 (m:Int)] w fun e w'=>e= .returned (.int .i64 ((m+cntL List.length xs:Nat):Int))∧T.ow w' (T.sl 24 1 ((mkL (fun l k=>marks k l.length) List.length xs m).map (T.ints 2))) F [v]∧Trn F w w':=by
 rcases Nat.eq_zero_or_pos xs.length with hz|hz
 ·obtain rfl:xs= []:=List.eq_nil_of_length_eq_zero hz
  obtain⟨A,cap,rfl⟩:=T.mid_empty ho
  have HO:=hide ho;clear ho hz hm
  go_enter Tryz.func38,Tryz.ntmps38
  go_wp2
  refine wp_loop_rounds 1 ?_
  rw[rounds_succ]
  go_wp2
  go_ret
  exact⟨by simp[cntL],HO.out,Trn.refl _ _⟩
 ·obtain⟨g,cap,rfl,hl,hc⟩:=T.ow_form ho (by rw[List.length_map];exact hz)
  rw[List.length_map] at hl ⊢
  have HO:=hide ho;clear ho
  go_enter Tryz.func38,Tryz.ntmps38
  go_wp2
  go_loopw [1,5] (fun t iv wr=> ∃ k j:Nat,k≤xs.length∧iv= .int .i64 (k:Int)∧t= .int .i64 (j:Int)∧j=m+cntL List.length (xs.take k)∧T.ow wr (.sl 24 1 ((mkL (fun l k=>marks k l.length) List.length (xs.take k) m++xs.drop k).map (T.ints 2))) F [.slice (some ⟨g,0,none⟩) xs.length cap]∧Trn F w wr) (fun _ iv _=>xs.length - (intOf iv).toNat)
  case atStart=>exact⟨0,m,Nat.zero_le _,rfl,rfl,by simp[cntL],by have:=HO.out;rw[List.length_map] at this;simpa[mkL] using this,Trn.refl _ _⟩
  case round=>
   obtain⟨k,j,hk,rfl,rfl,hj,ho,ht⟩:=hrel
   have HT:=hide ht;clear ht
   by_cases hlt:k<xs.length
   ·have hgk:=List.getElem?_eq_getElem hlt
    have hcl:=cntL_take (c:=List.length) hgk
    have hle:=cntL_le (c:=List.length) xs (k+1)
    have hdr:xs.drop k=xs[k] :: xs.drop (k+1):=List.drop_eq_getElem_cons hlt
    rw[hdr,List.map_append,List.map_cons] at ho
    generalize xs[k]=x at *
    have HGK:=hide hgk;clear hgk hdr
    obtain⟨n',g',cap',G1,Fx,G2,c1,cx,c2,hv,rfl,hmid⟩:=T.mid ho hn
    obtain⟨rfl,rfl,rfl⟩:g=g'∧xs.length=n'∧cap=cap':=by simpa using hv
    have hc1:=hmid.c1
    rw[List.length_map,length_mkL,List.length_take,Nat.min_eq_left hk,Nat.mul_one] at hc1
    have HJ:=hide hj
    have hxb:j+List.length x≤4611686018427387904:=by omega
    have hj0:0<j:=by omega
    clear ho hv hcl hle hj
    obtain⟨v0,hcx⟩:=T.rd_one (T.ow_rd _ _ _ hmid.el)
    subst hcx
    have ho0:=hmid.el
    have hfx:=hmid.fx
    have hgx:=hmid.gx
    obtain⟨va0,vl0,vc0,rfl⟩:=T.yT ho0
    have hnd0:=hfx
    have hg0:g ∉ Fx:=fun h=>hgx (by simp[h])
    have HMID:=hide hmid;have HOW0:=hide hmid.own;have HTX0:=hide (Trn.refl (g :: (Fx)) wr)
    have O0_0:=hide ho0
    clear hmid ho0
    have q0_0:wr.cell? ⟨g,k,none⟩=some ((.slice va0 vl0 vc0)):=own_at 0 HOW0.out hc1 rfl
    have f0_0:=yR HOW0.out (k)
    go_wp2_with fail
    refine(c_markI _ x Fx (j) _ (by omega) (by omega) O0_0.out hnd0).mono ?_;rintro e w3 ⟨rfl,hno,hT⟩
    have HTX1:=hide (HTX0.out.trans (hT.mono (fun b hb=>by simp[hb])))
    have HOW1:=hide (own_trn HOW0.out hT hg0)
    have O0_1:=hide hno
    clear hno
    clear hT
    have q1_0:w3.cell? ⟨g,k,none⟩=some ((.slice va0 vl0 vc0)):=own_at 0 HOW1.out hc1 rfl
    have f1_0:=yR HOW1.out (k)
    go_wp2
    go_roundw
    case rel=>
     have hrec:(mkL (fun l k=>marks k l.length) List.length (xs.take (k+1)) m++xs.drop (k+1)).map (T.ints 2)=(mkL (fun l k=>marks k l.length) List.length (xs.take k) m).map (T.ints 2)++T.ints 2 (marks j x.length) :: (xs.drop (k+1)).map (T.ints 2):=by rw[mkL_take HGK.out,←HJ.out];simp
     refine⟨k+1,j+x.length,by omega,by go_num,?_,by rw[cntL_take HGK.out,HJ.out];omega,?_,?_⟩
     ·rfl
     ·rw[hrec];exact HMID.out.close HTX1.out HOW1.out O0_1.out rfl
     ·exact HT.out.trans (Trn.mono (F:=g :: (Fx)) (HTX1.out) (fun b hb=>by simp only[List.mem_cons,List.mem_append,List.not_mem_nil,or_false] at hb ⊢;rcases hb with h|h<;>simp[h]))
    case measure=>simp[intOf];omega
   ·obtain rfl:k=xs.length:=by omega
    go_wp2
    go_ret
    rw[List.take_length] at ho hj
    rw[List.drop_length,List.append_nil] at ho
    exact⟨by rw[hj];rfl,ho,HT.out⟩
theorem c_markClipS (v:Value) (xs:List GClip) (F:List Nat) (m:Nat) (w:World) (h0:0<m) (hm:m+cntL GClip.cnt xs≤4611686018427387904) (ho:T.ow w (T.sl 107 5 (xs.map GClip.t)) F [v]) (hn:F.Nodup):
  Calls Tryz.prog 84 #[v,.int .i64 (m:Int)] w fun e w'=>e= .returned (.int .i64 ((m+cntL GClip.cnt xs:Nat):Int))∧T.ow w' (T.sl 107 5 ((mkL GClip.mkd GClip.cnt xs m).map GClip.t)) F [v]∧Trn F w w':=by
 rcases Nat.eq_zero_or_pos xs.length with hz|hz
 ·obtain rfl:xs= []:=List.eq_nil_of_length_eq_zero hz
  obtain⟨A,cap,rfl⟩:=T.mid_empty ho
  have HO:=hide ho;clear ho hz hm
  go_enter Tryz.func84,Tryz.ntmps84
  go_wp2
  refine wp_loop_rounds 1 ?_
  rw[rounds_succ]
  go_wp2
  go_ret
  exact⟨by simp[cntL],HO.out,Trn.refl _ _⟩
 ·obtain⟨g,cap,rfl,hl,hc⟩:=T.ow_form ho (by rw[List.length_map];exact hz)
  rw[List.length_map] at hl ⊢
  have HO:=hide ho;clear ho
  go_enter Tryz.func84,Tryz.ntmps84
  go_wp2
  go_loopw [1,5] (fun t iv wr=> ∃ k j:Nat,k≤xs.length∧iv= .int .i64 (k:Int)∧t= .int .i64 (j:Int)∧j=m+cntL GClip.cnt (xs.take k)∧T.ow wr (.sl 107 5 ((mkL GClip.mkd GClip.cnt (xs.take k) m++xs.drop k).map GClip.t)) F [.slice (some ⟨g,0,none⟩) xs.length cap]∧Trn F w wr) (fun _ iv _=>xs.length - (intOf iv).toNat)
  case atStart=>exact⟨0,m,Nat.zero_le _,rfl,rfl,by simp[cntL],by have:=HO.out;rw[List.length_map] at this;simpa[mkL] using this,Trn.refl _ _⟩
  case round=>
   obtain⟨k,j,hk,rfl,rfl,hj,ho,ht⟩:=hrel
   have HT:=hide ht;clear ht
   by_cases hlt:k<xs.length
   ·have hgk:=List.getElem?_eq_getElem hlt
    have hcl:=cntL_take (c:=GClip.cnt) hgk
    have hle:=cntL_le (c:=GClip.cnt) xs (k+1)
    have hdr:xs.drop k=xs[k] :: xs.drop (k+1):=List.drop_eq_getElem_cons hlt
    rw[hdr,List.map_append,List.map_cons] at ho
    generalize xs[k]=x at *
    have HGK:=hide hgk;clear hgk hdr
    obtain⟨n',g',cap',G1,Fx,G2,c1,cx,c2,hv,rfl,hmid⟩:=T.mid ho hn
    obtain⟨rfl,rfl,rfl⟩:g=g'∧xs.length=n'∧cap=cap':=by simpa using hv
    have hc1:=hmid.c1
    rw[List.length_map,length_mkL,List.length_take,Nat.min_eq_left hk] at hc1
    have HJ:=hide hj
    have hxb:j+GClip.cnt x≤4611686018427387904:=by omega
    have hj0:0<j:=by omega
    clear ho hv hcl hle hj
    obtain⟨hFx,hcx⟩:Fx= []∧cx= [.int .i64 x.zS,.int .i64 x.zG,.int .i64 x.zE,.int .i64 x.yB,.int .i64 x.zQ]:=by
     have:=hmid.el
     simp only[GClip.t,T.ow,GClip.fs,T.ows_num,T.ows_str,T.ows_nil] at this
     obtain⟨_,rfl,_,rfl,_,rfl,_,rfl,_,rfl,rfl,rfl⟩:=this
     exact⟨rfl,rfl⟩
    subst hcx hFx
    have hfx:=hmid.fx
    have hgx:=hmid.gx
    have HMID:=hide hmid;have HOW0:=hide hmid.own;have HTX0:=hide (Trn.refl (g :: ([])) wr)
    clear hmid
    have q0_0:wr.cell? ⟨g,k * 5,none⟩=some (.int .i64 x.zS):=own_at 0 HOW0.out hc1 rfl
    have f0_0:=yR HOW0.out (k * 5)
    have q0_1:wr.cell? ⟨g,k * 5+1,none⟩=some (.int .i64 x.zG):=own_at 1 HOW0.out hc1 rfl
    have f0_1:=yR HOW0.out (k * 5+1)
    have q0_2:wr.cell? ⟨g,k * 5+2,none⟩=some (.int .i64 x.zE):=own_at 2 HOW0.out hc1 rfl
    have f0_2:=yR HOW0.out (k * 5+2)
    have q0_3:wr.cell? ⟨g,k * 5+3,none⟩=some (.int .i64 x.yB):=own_at 3 HOW0.out hc1 rfl
    have f0_3:=yR HOW0.out (k * 5+3)
    have q0_4:wr.cell? ⟨g,k * 5+4,none⟩=some (.int .i64 x.zQ):=own_at 4 HOW0.out hc1 rfl
    have f0_4:=yR HOW0.out (k * 5+4)
    go_wp2
    go_roundw
    case rel=>
     have hrec:(mkL GClip.mkd GClip.cnt (xs.take (k+1)) m++xs.drop (k+1)).map GClip.t=(mkL GClip.mkd GClip.cnt (xs.take k) m).map GClip.t++(GClip.mkd x j).t :: (xs.drop (k+1)).map GClip.t:=by rw[mkL_take HGK.out,←HJ.out];simp
     refine⟨k+1,j+GClip.cnt x,by omega,by go_num,?_,by rw[cntL_take HGK.out,HJ.out];omega,?_,?_⟩
     ·unfold GClip.cnt;go_num
     ·rw[hrec];exact HMID.out.close (cx':= [.int .i64 ((j:Nat):Int),.int .i64 ((j+1:Nat):Int),.int .i64 ((j+2:Nat):Int),.int .i64 ((j+3:Nat):Int),.int .i64 ((j+4:Nat):Int)]) ((Trn.trans (Trn.trans (Trn.trans (Trn.trans (Trn.trans HTX0.out (Trn.set_ (by simp) _ _)) (Trn.set_ (by simp) _ _)) (Trn.set_ (by simp) _ _)) (Trn.set_ (by simp) _ _)) (Trn.set_ (by simp) _ _))) ((own_st 4 (own_st 3 (own_st 2 (own_st 1 (own_st 0 HOW0.out hc1 (by simp)) hc1 (by simp)) hc1 (by simp)) hc1 (by simp)) hc1 (by simp))) (by simp only[GClip.t,T.ow];exact GClip.ow_mk (x:=GClip.mkd x j)) (GClip.wide_t _)
     ·exact HT.out.trans (Trn.mono (F:=g :: ([])) ((Trn.trans (Trn.trans (Trn.trans (Trn.trans (Trn.trans HTX0.out (Trn.set_ (by simp) _ _)) (Trn.set_ (by simp) _ _)) (Trn.set_ (by simp) _ _)) (Trn.set_ (by simp) _ _)) (Trn.set_ (by simp) _ _))) (fun b hb=>by simp at hb;simp[hb]))
    case measure=>simp[intOf];omega
   ·obtain rfl:k=xs.length:=by omega
    go_wp2
    go_ret
    rw[List.take_length] at ho hj
    rw[List.drop_length,List.append_nil] at ho
    exact⟨by rw[hj];rfl,ho,HT.out⟩
theorem c_markTrackS (v:Value) (xs:List GTrack) (F:List Nat) (m:Nat) (w:World) (h0:0<m) (hm:m+cntL GTrack.cnt xs≤4611686018427387904) (ho:T.ow w (T.sl 98 1 (xs.map GTrack.t)) F [v]) (hn:F.Nodup):
  Calls Tryz.prog 39 #[v,.int .i64 (m:Int)] w fun e w'=>e= .returned (.int .i64 ((m+cntL GTrack.cnt xs:Nat):Int))∧T.ow w' (T.sl 98 1 ((mkL GTrack.mkd GTrack.cnt xs m).map GTrack.t)) F [v]∧Trn F w w':=by
 rcases Nat.eq_zero_or_pos xs.length with hz|hz
 ·obtain rfl:xs= []:=List.eq_nil_of_length_eq_zero hz
  obtain⟨A,cap,rfl⟩:=T.mid_empty ho
  have HO:=hide ho;clear ho hz hm
  go_enter Tryz.func39,Tryz.ntmps39
  go_wp2
  refine wp_loop_rounds 1 ?_
  rw[rounds_succ]
  go_wp2
  go_ret
  exact⟨by simp[cntL],HO.out,Trn.refl _ _⟩
 ·obtain⟨g,cap,rfl,hl,hc⟩:=T.ow_form ho (by rw[List.length_map];exact hz)
  rw[List.length_map] at hl ⊢
  have HO:=hide ho;clear ho
  go_enter Tryz.func39,Tryz.ntmps39
  go_wp2
  go_loopw [1,5] (fun t iv wr=> ∃ k j:Nat,k≤xs.length∧iv= .int .i64 (k:Int)∧t= .int .i64 (j:Int)∧j=m+cntL GTrack.cnt (xs.take k)∧T.ow wr (.sl 98 1 ((mkL GTrack.mkd GTrack.cnt (xs.take k) m++xs.drop k).map GTrack.t)) F [.slice (some ⟨g,0,none⟩) xs.length cap]∧Trn F w wr) (fun _ iv _=>xs.length - (intOf iv).toNat)
  case atStart=>exact⟨0,m,Nat.zero_le _,rfl,rfl,by simp[cntL],by have:=HO.out;rw[List.length_map] at this;simpa[mkL] using this,Trn.refl _ _⟩
  case round=>
   obtain⟨k,j,hk,rfl,rfl,hj,ho,ht⟩:=hrel
   have HT:=hide ht;clear ht
   by_cases hlt:k<xs.length
   ·have hgk:=List.getElem?_eq_getElem hlt
    have hcl:=cntL_take (c:=GTrack.cnt) hgk
    have hle:=cntL_le (c:=GTrack.cnt) xs (k+1)
    have hdr:xs.drop k=xs[k] :: xs.drop (k+1):=List.drop_eq_getElem_cons hlt
    rw[hdr,List.map_append,List.map_cons] at ho
    generalize xs[k]=x at *
    have HGK:=hide hgk;clear hgk hdr
    obtain⟨n',g',cap',G1,Fx,G2,c1,cx,c2,hv,rfl,hmid⟩:=T.mid ho hn
    obtain⟨rfl,rfl,rfl⟩:g=g'∧xs.length=n'∧cap=cap':=by simpa using hv
    have hc1:=hmid.c1
    rw[List.length_map,length_mkL,List.length_take,Nat.min_eq_left hk,Nat.mul_one] at hc1
    have HJ:=hide hj
    have hxb:j+GTrack.cnt x≤4611686018427387904:=by omega
    have hj0:0<j:=by omega
    clear ho hv hcl hle hj
    obtain⟨v0,F0,hcx,hFx,ho0⟩:=GTrack.ow_open (show T.ows _ _ _ _ by simpa only[GTrack.t,T.ow] using hmid.el)
    subst hcx hFx
    obtain⟨va0,vl0,vc0,rfl⟩:=T.yT ho0
    have hfx:=hmid.fx
    have hgx:=hmid.gx
    have hnd0:=nodup_fst hfx
    have hg0:g ∉ F0:=fun h=>hgx (by simp[h])
    have HMID:=hide hmid;have HOW0:=hide hmid.own;have HTX0:=hide (Trn.refl (g :: (F0++ [])) wr)
    have O0_0:=hide ho0
    clear hmid ho0
    have q0_0:wr.cell? ⟨g,k,none⟩=some ((.slice va0 vl0 vc0)):=own_at 0 HOW0.out hc1 rfl
    have f0_0:=yR HOW0.out (k)
    go_wp2_with fail
    refine(c_markClipS _ x.zR F0 (j) _ (by omega) (by unfold GTrack.cnt at hxb;omega) O0_0.out hnd0).mono ?_;rintro e w3 ⟨rfl,hno,hT⟩
    have HTX1:=hide (HTX0.out.trans (hT.mono (fun b hb=>by simp[hb])))
    have HOW1:=hide (own_trn HOW0.out hT hg0)
    have O0_1:=hide hno
    clear hno
    clear hT
    have q1_0:w3.cell? ⟨g,k,none⟩=some ((.slice va0 vl0 vc0)):=own_at 0 HOW1.out hc1 rfl
    have f1_0:=yR HOW1.out (k)
    go_wp2
    go_roundw
    case rel=>
     have hrec:(mkL GTrack.mkd GTrack.cnt (xs.take (k+1)) m++xs.drop (k+1)).map GTrack.t=(mkL GTrack.mkd GTrack.cnt (xs.take k) m).map GTrack.t++(GTrack.mkd x j).t :: (xs.drop (k+1)).map GTrack.t:=by rw[mkL_take HGK.out,←HJ.out];simp
     refine⟨k+1,j+GTrack.cnt x,by omega,by go_num,?_,by rw[cntL_take HGK.out,HJ.out];omega,?_,?_⟩
     ·unfold GTrack.cnt;go_num
     ·rw[hrec];exact HMID.out.close (cx':= [(.slice va0 vl0 vc0)]) (HTX1.out) (HOW1.out) (by simp only[GTrack.t,T.ow];exact GTrack.ow_mk (x:=GTrack.mkd x j) (O0_1.out)) (GTrack.wide_t _)
     ·exact HT.out.trans (Trn.mono (F:=g :: (F0++ [])) (HTX1.out) (fun b hb=>by simp only[List.mem_cons,List.mem_append,List.not_mem_nil,or_false] at hb ⊢;rcases hb with h|h<;>simp[h]))
    case measure=>simp[intOf];omega
   ·obtain rfl:k=xs.length:=by omega
    go_wp2
    go_ret
    rw[List.take_length] at ho hj
    rw[List.drop_length,List.append_nil] at ho
    exact⟨by rw[hj];rfl,ho,HT.out⟩
theorem c_markNodeS (v:Value) (xs:List GNode) (F:List Nat) (m:Nat) (w:World) (h0:0<m) (hm:m+cntL GNode.cnt xs≤4611686018427387904) (ho:T.ow w (T.sl 160 4 (xs.map GNode.t)) F [v]) (hn:F.Nodup):
  Calls Tryz.prog 85 #[v,.int .i64 (m:Int)] w fun e w'=>e= .returned (.int .i64 ((m+cntL GNode.cnt xs:Nat):Int))∧T.ow w' (T.sl 160 4 ((mkL GNode.mkd GNode.cnt xs m).map GNode.t)) F [v]∧Trn F w w':=by
 rcases Nat.eq_zero_or_pos xs.length with hz|hz
 ·obtain rfl:xs= []:=List.eq_nil_of_length_eq_zero hz
  obtain⟨A,cap,rfl⟩:=T.mid_empty ho
  have HO:=hide ho;clear ho hz hm
  go_enter Tryz.func85,Tryz.ntmps85
  go_wp2
  refine wp_loop_rounds 1 ?_
  rw[rounds_succ]
  go_wp2
  go_ret
  exact⟨by simp[cntL],HO.out,Trn.refl _ _⟩
 ·obtain⟨g,cap,rfl,hl,hc⟩:=T.ow_form ho (by rw[List.length_map];exact hz)
  rw[List.length_map] at hl ⊢
  have HO:=hide ho;clear ho
  go_enter Tryz.func85,Tryz.ntmps85
  go_wp2
  go_loopw [1,5] (fun t iv wr=> ∃ k j:Nat,k≤xs.length∧iv= .int .i64 (k:Int)∧t= .int .i64 (j:Int)∧j=m+cntL GNode.cnt (xs.take k)∧T.ow wr (.sl 160 4 ((mkL GNode.mkd GNode.cnt (xs.take k) m++xs.drop k).map GNode.t)) F [.slice (some ⟨g,0,none⟩) xs.length cap]∧Trn F w wr) (fun _ iv _=>xs.length - (intOf iv).toNat)
  case atStart=>exact⟨0,m,Nat.zero_le _,rfl,rfl,by simp[cntL],by have:=HO.out;rw[List.length_map] at this;simpa[mkL] using this,Trn.refl _ _⟩
  case round=>
   obtain⟨k,j,hk,rfl,rfl,hj,ho,ht⟩:=hrel
   have HT:=hide ht;clear ht
   by_cases hlt:k<xs.length
   ·have hgk:=List.getElem?_eq_getElem hlt
    have hcl:=cntL_take (c:=GNode.cnt) hgk
    have hle:=cntL_le (c:=GNode.cnt) xs (k+1)
    have hdr:xs.drop k=xs[k] :: xs.drop (k+1):=List.drop_eq_getElem_cons hlt
    rw[hdr,List.map_append,List.map_cons] at ho
    generalize xs[k]=x at *
    have HGK:=hide hgk;clear hgk hdr
    obtain⟨n',g',cap',G1,Fx,G2,c1,cx,c2,hv,rfl,hmid⟩:=T.mid ho hn
    obtain⟨rfl,rfl,rfl⟩:g=g'∧xs.length=n'∧cap=cap':=by simpa using hv
    have hc1:=hmid.c1
    rw[List.length_map,length_mkL,List.length_take,Nat.min_eq_left hk] at hc1
    have HJ:=hide hj
    have hxb:j+GNode.cnt x≤4611686018427387904:=by omega
    have hj0:0<j:=by omega
    clear ho hv hcl hle hj
    obtain⟨v3,F3,hcx,hFx,ho3⟩:=GNode.ow_open (show T.ows _ _ _ _ by simpa only[GNode.t,T.ow] using hmid.el)
    subst hcx hFx
    obtain⟨va3,vl3,vc3,rfl⟩:=T.yT ho3
    have hfx:=hmid.fx
    have hgx:=hmid.gx
    have hnd3:=nodup_fst hfx
    have hg3:g ∉ F3:=fun h=>hgx (by simp[h])
    have HMID:=hide hmid;have HOW0:=hide hmid.own;have HTX0:=hide (Trn.refl (g :: (F3++ [])) wr)
    have O3_0:=hide ho3
    clear hmid ho3
    have q0_0:wr.cell? ⟨g,k * 4,none⟩=some (.int .i64 x.zC):=own_at 0 HOW0.out hc1 rfl
    have f0_0:=yR HOW0.out (k * 4)
    have q0_1:wr.cell? ⟨g,k * 4+1,none⟩=some (.int .i64 x.fA):=own_at 1 HOW0.out hc1 rfl
    have f0_1:=yR HOW0.out (k * 4+1)
    have q0_2:wr.cell? ⟨g,k * 4+2,none⟩=some (.int .i64 x.fB):=own_at 2 HOW0.out hc1 rfl
    have f0_2:=yR HOW0.out (k * 4+2)
    have q0_3:wr.cell? ⟨g,k * 4+3,none⟩=some ((.slice va3 vl3 vc3)):=own_at 3 HOW0.out hc1 rfl
    have f0_3:=yR HOW0.out (k * 4+3)
    go_wp2_with fail
    refine(c_markI _ x.zG F3 (j+3) _ (by omega) (by unfold GNode.cnt at hxb;omega) (T.ow_far (T.ow_far (T.ow_far O3_0.out hg3 _ _) hg3 _ _) hg3 _ _) hnd3).mono ?_;rintro e w3 ⟨rfl,hno,hT⟩
    have HTX1:=hide ((Trn.trans (Trn.trans (Trn.trans HTX0.out (Trn.set_ (by simp) _ _)) (Trn.set_ (by simp) _ _)) (Trn.set_ (by simp) _ _)).trans (hT.mono (fun b hb=>by simp[hb])))
    have HOW1:=hide (own_trn (own_st 2 (own_st 1 (own_st 0 HOW0.out hc1 (by simp)) hc1 (by simp)) hc1 (by simp)) hT hg3)
    have O3_1:=hide hno
    clear hno
    clear hT
    have q1_0:w3.cell? ⟨g,k * 4,none⟩=some (.int .i64 ((j:Nat):Int)):=own_at 0 HOW1.out hc1 rfl
    have f1_0:=yR HOW1.out (k * 4)
    have q1_1:w3.cell? ⟨g,k * 4+1,none⟩=some (.int .i64 ((j+1:Nat):Int)):=own_at 1 HOW1.out hc1 rfl
    have f1_1:=yR HOW1.out (k * 4+1)
    have q1_2:w3.cell? ⟨g,k * 4+2,none⟩=some (.int .i64 ((j+2:Nat):Int)):=own_at 2 HOW1.out hc1 rfl
    have f1_2:=yR HOW1.out (k * 4+2)
    have q1_3:w3.cell? ⟨g,k * 4+3,none⟩=some ((.slice va3 vl3 vc3)):=own_at 3 HOW1.out hc1 rfl
    have f1_3:=yR HOW1.out (k * 4+3)
    go_wp2
    go_roundw
    case rel=>
     have hrec:(mkL GNode.mkd GNode.cnt (xs.take (k+1)) m++xs.drop (k+1)).map GNode.t=(mkL GNode.mkd GNode.cnt (xs.take k) m).map GNode.t++(GNode.mkd x j).t :: (xs.drop (k+1)).map GNode.t:=by rw[mkL_take HGK.out,←HJ.out];simp
     refine⟨k+1,j+GNode.cnt x,by omega,by go_num,?_,by rw[cntL_take HGK.out,HJ.out];omega,?_,?_⟩
     ·unfold GNode.cnt;go_num
     ·rw[hrec];exact HMID.out.close (cx':= [.int .i64 ((j:Nat):Int),.int .i64 ((j+1:Nat):Int),.int .i64 ((j+2:Nat):Int),(.slice va3 vl3 vc3)]) (HTX1.out) (HOW1.out) (by simp only[GNode.t,T.ow];exact GNode.ow_mk (x:=GNode.mkd x j) (O3_1.out)) (GNode.wide_t _)
     ·exact HT.out.trans (Trn.mono (F:=g :: (F3++ [])) (HTX1.out) (fun b hb=>by simp only[List.mem_cons,List.mem_append,List.not_mem_nil,or_false] at hb ⊢;rcases hb with h|h<;>simp[h]))
    case measure=>simp[intOf];omega
   ·obtain rfl:k=xs.length:=by omega
    go_wp2
    go_ret
    rw[List.take_length] at ho hj
    rw[List.drop_length,List.append_nil] at ho
    exact⟨by rw[hj];rfl,ho,HT.out⟩
theorem c_markPatchS (v:Value) (xs:List GPatch) (F:List Nat) (m:Nat) (w:World) (h0:0<m) (hm:m+cntL GPatch.cnt xs≤4611686018427387904) (ho:T.ow w (T.sl 102 4 (xs.map GPatch.t)) F [v]) (hn:F.Nodup):
  Calls Tryz.prog 41 #[v,.int .i64 (m:Int)] w fun e w'=>e= .returned (.int .i64 ((m+cntL GPatch.cnt xs:Nat):Int))∧T.ow w' (T.sl 102 4 ((mkL GPatch.mkd GPatch.cnt xs m).map GPatch.t)) F [v]∧Trn F w w':=by
 rcases Nat.eq_zero_or_pos xs.length with hz|hz
 ·obtain rfl:xs= []:=List.eq_nil_of_length_eq_zero hz
  obtain⟨A,cap,rfl⟩:=T.mid_empty ho
  have HO:=hide ho;clear ho hz hm
  go_enter Tryz.func41,Tryz.ntmps41
  go_wp2
  refine wp_loop_rounds 1 ?_
  rw[rounds_succ]
  go_wp2
  go_ret
  exact⟨by simp[cntL],HO.out,Trn.refl _ _⟩
 ·obtain⟨g,cap,rfl,hl,hc⟩:=T.ow_form ho (by rw[List.length_map];exact hz)
  rw[List.length_map] at hl ⊢
  have HO:=hide ho;clear ho
  go_enter Tryz.func41,Tryz.ntmps41
  go_wp2
  go_loopw [1,5] (fun t iv wr=> ∃ k j:Nat,k≤xs.length∧iv= .int .i64 (k:Int)∧t= .int .i64 (j:Int)∧j=m+cntL GPatch.cnt (xs.take k)∧T.ow wr (.sl 102 4 ((mkL GPatch.mkd GPatch.cnt (xs.take k) m++xs.drop k).map GPatch.t)) F [.slice (some ⟨g,0,none⟩) xs.length cap]∧Trn F w wr) (fun _ iv _=>xs.length - (intOf iv).toNat)
  case atStart=>exact⟨0,m,Nat.zero_le _,rfl,rfl,by simp[cntL],by have:=HO.out;rw[List.length_map] at this;simpa[mkL] using this,Trn.refl _ _⟩
  case round=>
   obtain⟨k,j,hk,rfl,rfl,hj,ho,ht⟩:=hrel
   have HT:=hide ht;clear ht
   by_cases hlt:k<xs.length
   ·have hgk:=List.getElem?_eq_getElem hlt
    have hcl:=cntL_take (c:=GPatch.cnt) hgk
    have hle:=cntL_le (c:=GPatch.cnt) xs (k+1)
    have hdr:xs.drop k=xs[k] :: xs.drop (k+1):=List.drop_eq_getElem_cons hlt
    rw[hdr,List.map_append,List.map_cons] at ho
    generalize xs[k]=x at *
    have HGK:=hide hgk;clear hgk hdr
    obtain⟨n',g',cap',G1,Fx,G2,c1,cx,c2,hv,rfl,hmid⟩:=T.mid ho hn
    obtain⟨rfl,rfl,rfl⟩:g=g'∧xs.length=n'∧cap=cap':=by simpa using hv
    have hc1:=hmid.c1
    rw[List.length_map,length_mkL,List.length_take,Nat.min_eq_left hk] at hc1
    have HJ:=hide hj
    have hxb:j+GPatch.cnt x≤4611686018427387904:=by omega
    have hj0:0<j:=by omega
    clear ho hv hcl hle hj
    obtain⟨v1,v2,v3,F1,F2,F3,hcx,hFx,ho1,ho2,ho3⟩:=GPatch.ow_open (show T.ows _ _ _ _ by simpa only[GPatch.t,T.ow] using hmid.el)
    subst hcx hFx
    obtain⟨va1,vl1,vc1,rfl⟩:=T.yT ho1
    obtain⟨va2,vl2,vc2,rfl⟩:=T.yT ho2
    obtain⟨va3,vl3,vc3,rfl⟩:=T.yT ho3
    have hfx:=hmid.fx
    have hgx:=hmid.gx
    have hnd1:=nodup_fst hfx
    have hdj1_2: ∀ b ∈ F1,b ∉ F2:=fun b h1 h2=>nodup_dj hfx b h1 (by simp[h2])
    have hdj2_1: ∀ b ∈ F2,b ∉ F1:=fun b h1 h2=>hdj1_2 b h2 h1
    have hdj1_3: ∀ b ∈ F1,b ∉ F3:=fun b h1 h2=>nodup_dj hfx b h1 (by simp[h2])
    have hdj3_1: ∀ b ∈ F3,b ∉ F1:=fun b h1 h2=>hdj1_3 b h2 h1
    have hnd2:=nodup_fst (yN hfx)
    have hdj2_3: ∀ b ∈ F2,b ∉ F3:=fun b h1 h2=>nodup_dj (yN hfx) b h1 (by simp[h2])
    have hdj3_2: ∀ b ∈ F3,b ∉ F2:=fun b h1 h2=>hdj2_3 b h2 h1
    have hnd3:=nodup_fst (yN (yN hfx))
    have hg1:g ∉ F1:=fun h=>hgx (by simp[h])
    have hg2:g ∉ F2:=fun h=>hgx (by simp[h])
    have hg3:g ∉ F3:=fun h=>hgx (by simp[h])
    have HMID:=hide hmid;have HOW0:=hide hmid.own;have HTX0:=hide (Trn.refl (g :: (F1++(F2++(F3++ [])))) wr)
    have O1_0:=hide ho1
    have O2_0:=hide ho2
    have O3_0:=hide ho3
    clear hmid ho1 ho2 ho3
    have q0_0:wr.cell? ⟨g,k * 4,none⟩=some (.int .i64 x.zJ):=own_at 0 HOW0.out hc1 rfl
    have f0_0:=yR HOW0.out (k * 4)
    have q0_1:wr.cell? ⟨g,k * 4+1,none⟩=some ((.slice va1 vl1 vc1)):=own_at 1 HOW0.out hc1 rfl
    have f0_1:=yR HOW0.out (k * 4+1)
    have q0_2:wr.cell? ⟨g,k * 4+2,none⟩=some ((.slice va2 vl2 vc2)):=own_at 2 HOW0.out hc1 rfl
    have f0_2:=yR HOW0.out (k * 4+2)
    have q0_3:wr.cell? ⟨g,k * 4+3,none⟩=some ((.slice va3 vl3 vc3)):=own_at 3 HOW0.out hc1 rfl
    have f0_3:=yR HOW0.out (k * 4+3)
    go_wp2_with fail
    refine(c_markInt64SS _ x.zN F1 (j+1) _ (by omega) (by unfold GPatch.cnt at hxb;omega) (T.ow_far O1_0.out hg1 _ _) hnd1).mono ?_;rintro e w3 ⟨rfl,hno,hT⟩
    have HTX1:=hide ((Trn.trans HTX0.out (Trn.set_ (by simp) _ _)).trans (hT.mono (fun b hb=>by simp[hb])))
    have HOW1:=hide (own_trn (own_st 0 HOW0.out hc1 (by simp)) hT hg1)
    have O1_1:=hide hno
    have O2_1:=hide (T.ow_trn (T.ow_far O2_0.out hg2 _ _) hT hdj2_1)
    have O3_1:=hide (T.ow_trn (T.ow_far O3_0.out hg3 _ _) hT hdj3_1)
    clear hno
    clear hT
    have q1_0:w3.cell? ⟨g,k * 4,none⟩=some (.int .i64 ((j:Nat):Int)):=own_at 0 HOW1.out hc1 rfl
    have f1_0:=yR HOW1.out (k * 4)
    have q1_1:w3.cell? ⟨g,k * 4+1,none⟩=some ((.slice va1 vl1 vc1)):=own_at 1 HOW1.out hc1 rfl
    have f1_1:=yR HOW1.out (k * 4+1)
    have q1_2:w3.cell? ⟨g,k * 4+2,none⟩=some ((.slice va2 vl2 vc2)):=own_at 2 HOW1.out hc1 rfl
    have f1_2:=yR HOW1.out (k * 4+2)
    have q1_3:w3.cell? ⟨g,k * 4+3,none⟩=some ((.slice va3 vl3 vc3)):=own_at 3 HOW1.out hc1 rfl
    have f1_3:=yR HOW1.out (k * 4+3)
    go_wp2_with fail
    refine(c_markNodeS _ x.zD F2 (j+1+cntL List.length x.zN) _ (by omega) (by unfold GPatch.cnt at hxb;omega) O2_1.out hnd2).mono ?_;rintro e w4 ⟨rfl,hno,hT⟩
    have HTX2:=hide (HTX1.out.trans (hT.mono (fun b hb=>by simp[hb])))
    have HOW2:=hide (own_trn HOW1.out hT hg2)
    have O1_2:=hide (T.ow_trn O1_1.out hT hdj1_2)
    have O2_2:=hide hno
    have O3_2:=hide (T.ow_trn O3_1.out hT hdj3_2)
    clear hno
    clear hT
    have q2_0:w4.cell? ⟨g,k * 4,none⟩=some (.int .i64 ((j:Nat):Int)):=own_at 0 HOW2.out hc1 rfl
    have f2_0:=yR HOW2.out (k * 4)
    have q2_1:w4.cell? ⟨g,k * 4+1,none⟩=some ((.slice va1 vl1 vc1)):=own_at 1 HOW2.out hc1 rfl
    have f2_1:=yR HOW2.out (k * 4+1)
    have q2_2:w4.cell? ⟨g,k * 4+2,none⟩=some ((.slice va2 vl2 vc2)):=own_at 2 HOW2.out hc1 rfl
    have f2_2:=yR HOW2.out (k * 4+2)
    have q2_3:w4.cell? ⟨g,k * 4+3,none⟩=some ((.slice va3 vl3 vc3)):=own_at 3 HOW2.out hc1 rfl
    have f2_3:=yR HOW2.out (k * 4+3)
    go_wp2_with fail
    refine(c_markI _ x.zK F3 (j+1+cntL List.length x.zN+cntL GNode.cnt x.zD) _ (by omega) (by unfold GPatch.cnt at hxb;omega) O3_2.out hnd3).mono ?_;rintro e w5 ⟨rfl,hno,hT⟩
    have HTX3:=hide (HTX2.out.trans (hT.mono (fun b hb=>by simp[hb])))
    have HOW3:=hide (own_trn HOW2.out hT hg3)
    have O1_3:=hide (T.ow_trn O1_2.out hT hdj1_3)
    have O2_3:=hide (T.ow_trn O2_2.out hT hdj2_3)
    have O3_3:=hide hno
    clear hno
    clear hT
    have q3_0:w5.cell? ⟨g,k * 4,none⟩=some (.int .i64 ((j:Nat):Int)):=own_at 0 HOW3.out hc1 rfl
    have f3_0:=yR HOW3.out (k * 4)
    have q3_1:w5.cell? ⟨g,k * 4+1,none⟩=some ((.slice va1 vl1 vc1)):=own_at 1 HOW3.out hc1 rfl
    have f3_1:=yR HOW3.out (k * 4+1)
    have q3_2:w5.cell? ⟨g,k * 4+2,none⟩=some ((.slice va2 vl2 vc2)):=own_at 2 HOW3.out hc1 rfl
    have f3_2:=yR HOW3.out (k * 4+2)
    have q3_3:w5.cell? ⟨g,k * 4+3,none⟩=some ((.slice va3 vl3 vc3)):=own_at 3 HOW3.out hc1 rfl
    have f3_3:=yR HOW3.out (k * 4+3)
    go_wp2
    go_roundw
    case rel=>
     have hrec:(mkL GPatch.mkd GPatch.cnt (xs.take (k+1)) m++xs.drop (k+1)).map GPatch.t=(mkL GPatch.mkd GPatch.cnt (xs.take k) m).map GPatch.t++(GPatch.mkd x j).t :: (xs.drop (k+1)).map GPatch.t:=by rw[mkL_take HGK.out,←HJ.out];simp
     refine⟨k+1,j+GPatch.cnt x,by omega,by go_num,?_,by rw[cntL_take HGK.out,HJ.out];omega,?_,?_⟩
     ·unfold GPatch.cnt;go_num
     ·rw[hrec];exact HMID.out.close (cx':= [.int .i64 ((j:Nat):Int),(.slice va1 vl1 vc1),(.slice va2 vl2 vc2),(.slice va3 vl3 vc3)]) (HTX3.out) (HOW3.out) (by simp only[GPatch.t,T.ow];exact GPatch.ow_mk (x:=GPatch.mkd x j) (O1_3.out) (O2_3.out) (O3_3.out)) (GPatch.wide_t _)
     ·exact HT.out.trans (Trn.mono (F:=g :: (F1++(F2++(F3++ [])))) (HTX3.out) (fun b hb=>by simp only[List.mem_cons,List.mem_append,List.not_mem_nil,or_false] at hb ⊢;rcases hb with h|h|h|h<;>simp[h]))
    case measure=>simp[intOf];omega
   ·obtain rfl:k=xs.length:=by omega
    go_wp2
    go_ret
    rw[List.take_length] at ho hj
    rw[List.drop_length,List.append_nil] at ho
    exact⟨by rw[hj];rfl,ho,HT.out⟩
theorem c_markSendS (v:Value) (xs:List GSend) (F:List Nat) (m:Nat) (w:World) (h0:0<m) (hm:m+cntL GSend.cnt xs≤4611686018427387904) (ho:T.ow w (T.sl 156 2 (xs.map GSend.t)) F [v]) (hn:F.Nodup):
  Calls Tryz.prog 123 #[v,.int .i64 (m:Int)] w fun e w'=>e= .returned (.int .i64 ((m+cntL GSend.cnt xs:Nat):Int))∧T.ow w' (T.sl 156 2 ((mkL GSend.mkd GSend.cnt xs m).map GSend.t)) F [v]∧Trn F w w':=by
 rcases Nat.eq_zero_or_pos xs.length with hz|hz
 ·obtain rfl:xs= []:=List.eq_nil_of_length_eq_zero hz
  obtain⟨A,cap,rfl⟩:=T.mid_empty ho
  have HO:=hide ho;clear ho hz hm
  go_enter Tryz.func123,Tryz.ntmps123
  go_wp2
  refine wp_loop_rounds 1 ?_
  rw[rounds_succ]
  go_wp2
  go_ret
  exact⟨by simp[cntL],HO.out,Trn.refl _ _⟩
 ·obtain⟨g,cap,rfl,hl,hc⟩:=T.ow_form ho (by rw[List.length_map];exact hz)
  rw[List.length_map] at hl ⊢
  have HO:=hide ho;clear ho
  go_enter Tryz.func123,Tryz.ntmps123
  go_wp2
  go_loopw [1,5] (fun t iv wr=> ∃ k j:Nat,k≤xs.length∧iv= .int .i64 (k:Int)∧t= .int .i64 (j:Int)∧j=m+cntL GSend.cnt (xs.take k)∧T.ow wr (.sl 156 2 ((mkL GSend.mkd GSend.cnt (xs.take k) m++xs.drop k).map GSend.t)) F [.slice (some ⟨g,0,none⟩) xs.length cap]∧Trn F w wr) (fun _ iv _=>xs.length - (intOf iv).toNat)
  case atStart=>exact⟨0,m,Nat.zero_le _,rfl,rfl,by simp[cntL],by have:=HO.out;rw[List.length_map] at this;simpa[mkL] using this,Trn.refl _ _⟩
  case round=>
   obtain⟨k,j,hk,rfl,rfl,hj,ho,ht⟩:=hrel
   have HT:=hide ht;clear ht
   by_cases hlt:k<xs.length
   ·have hgk:=List.getElem?_eq_getElem hlt
    have hcl:=cntL_take (c:=GSend.cnt) hgk
    have hle:=cntL_le (c:=GSend.cnt) xs (k+1)
    have hdr:xs.drop k=xs[k] :: xs.drop (k+1):=List.drop_eq_getElem_cons hlt
    rw[hdr,List.map_append,List.map_cons] at ho
    generalize xs[k]=x at *
    have HGK:=hide hgk;clear hgk hdr
    obtain⟨n',g',cap',G1,Fx,G2,c1,cx,c2,hv,rfl,hmid⟩:=T.mid ho hn
    obtain⟨rfl,rfl,rfl⟩:g=g'∧xs.length=n'∧cap=cap':=by simpa using hv
    have hc1:=hmid.c1
    rw[List.length_map,length_mkL,List.length_take,Nat.min_eq_left hk] at hc1
    have HJ:=hide hj
    have hxb:j+GSend.cnt x≤4611686018427387904:=by omega
    have hj0:0<j:=by omega
    clear ho hv hcl hle hj
    obtain⟨hFx,hcx⟩:Fx= []∧cx= [.int .i64 x.yC,.int .i64 x.zQ]:=by
     have:=hmid.el
     simp only[GSend.t,T.ow,GSend.fs,T.ows_num,T.ows_str,T.ows_nil] at this
     obtain⟨_,rfl,_,rfl,rfl,rfl⟩:=this
     exact⟨rfl,rfl⟩
    subst hcx hFx
    have hfx:=hmid.fx
    have hgx:=hmid.gx
    have HMID:=hide hmid;have HOW0:=hide hmid.own;have HTX0:=hide (Trn.refl (g :: ([])) wr)
    clear hmid
    have q0_0:wr.cell? ⟨g,k * 2,none⟩=some (.int .i64 x.yC):=own_at 0 HOW0.out hc1 rfl
    have f0_0:=yR HOW0.out (k * 2)
    have q0_1:wr.cell? ⟨g,k * 2+1,none⟩=some (.int .i64 x.zQ):=own_at 1 HOW0.out hc1 rfl
    have f0_1:=yR HOW0.out (k * 2+1)
    go_wp2
    go_roundw
    case rel=>
     have hrec:(mkL GSend.mkd GSend.cnt (xs.take (k+1)) m++xs.drop (k+1)).map GSend.t=(mkL GSend.mkd GSend.cnt (xs.take k) m).map GSend.t++(GSend.mkd x j).t :: (xs.drop (k+1)).map GSend.t:=by rw[mkL_take HGK.out,←HJ.out];simp
     refine⟨k+1,j+GSend.cnt x,by omega,by go_num,?_,by rw[cntL_take HGK.out,HJ.out];omega,?_,?_⟩
     ·unfold GSend.cnt;go_num
     ·rw[hrec];exact HMID.out.close (cx':= [.int .i64 ((j:Nat):Int),.int .i64 ((j+1:Nat):Int)]) ((Trn.trans (Trn.trans HTX0.out (Trn.set_ (by simp) _ _)) (Trn.set_ (by simp) _ _))) ((own_st 1 (own_st 0 HOW0.out hc1 (by simp)) hc1 (by simp))) (by simp only[GSend.t,T.ow];exact GSend.ow_mk (x:=GSend.mkd x j)) (GSend.wide_t _)
     ·exact HT.out.trans (Trn.mono (F:=g :: ([])) ((Trn.trans (Trn.trans HTX0.out (Trn.set_ (by simp) _ _)) (Trn.set_ (by simp) _ _))) (fun b hb=>by simp at hb;simp[hb]))
    case measure=>simp[intOf];omega
   ·obtain rfl:k=xs.length:=by omega
    go_wp2
    go_ret
    rw[List.take_length] at ho hj
    rw[List.drop_length,List.append_nil] at ho
    exact⟨by rw[hj];rfl,ho,HT.out⟩
theorem c_markStripS (v:Value) (xs:List GStrip) (F:List Nat) (m:Nat) (w:World) (h0:0<m) (hm:m+cntL GStrip.cnt xs≤4611686018427387904) (ho:T.ow w (T.sl 117 3 (xs.map GStrip.t)) F [v]) (hn:F.Nodup):
  Calls Tryz.prog 86 #[v,.int .i64 (m:Int)] w fun e w'=>e= .returned (.int .i64 ((m+cntL GStrip.cnt xs:Nat):Int))∧T.ow w' (T.sl 117 3 ((mkL GStrip.mkd GStrip.cnt xs m).map GStrip.t)) F [v]∧Trn F w w':=by
 rcases Nat.eq_zero_or_pos xs.length with hz|hz
 ·obtain rfl:xs= []:=List.eq_nil_of_length_eq_zero hz
  obtain⟨A,cap,rfl⟩:=T.mid_empty ho
  have HO:=hide ho;clear ho hz hm
  go_enter Tryz.func86,Tryz.ntmps86
  go_wp2
  refine wp_loop_rounds 1 ?_
  rw[rounds_succ]
  go_wp2
  go_ret
  exact⟨by simp[cntL],HO.out,Trn.refl _ _⟩
 ·obtain⟨g,cap,rfl,hl,hc⟩:=T.ow_form ho (by rw[List.length_map];exact hz)
  rw[List.length_map] at hl ⊢
  have HO:=hide ho;clear ho
  go_enter Tryz.func86,Tryz.ntmps86
  go_wp2
  go_loopw [1,5] (fun t iv wr=> ∃ k j:Nat,k≤xs.length∧iv= .int .i64 (k:Int)∧t= .int .i64 (j:Int)∧j=m+cntL GStrip.cnt (xs.take k)∧T.ow wr (.sl 117 3 ((mkL GStrip.mkd GStrip.cnt (xs.take k) m++xs.drop k).map GStrip.t)) F [.slice (some ⟨g,0,none⟩) xs.length cap]∧Trn F w wr) (fun _ iv _=>xs.length - (intOf iv).toNat)
  case atStart=>exact⟨0,m,Nat.zero_le _,rfl,rfl,by simp[cntL],by have:=HO.out;rw[List.length_map] at this;simpa[mkL] using this,Trn.refl _ _⟩
  case round=>
   obtain⟨k,j,hk,rfl,rfl,hj,ho,ht⟩:=hrel
   have HT:=hide ht;clear ht
   by_cases hlt:k<xs.length
   ·have hgk:=List.getElem?_eq_getElem hlt
    have hcl:=cntL_take (c:=GStrip.cnt) hgk
    have hle:=cntL_le (c:=GStrip.cnt) xs (k+1)
    have hdr:xs.drop k=xs[k] :: xs.drop (k+1):=List.drop_eq_getElem_cons hlt
    rw[hdr,List.map_append,List.map_cons] at ho
    generalize xs[k]=x at *
    have HGK:=hide hgk;clear hgk hdr
    obtain⟨n',g',cap',G1,Fx,G2,c1,cx,c2,hv,rfl,hmid⟩:=T.mid ho hn
    obtain⟨rfl,rfl,rfl⟩:g=g'∧xs.length=n'∧cap=cap':=by simpa using hv
    have hc1:=hmid.c1
    rw[List.length_map,length_mkL,List.length_take,Nat.min_eq_left hk] at hc1
    have HJ:=hide hj
    have hxb:j+GStrip.cnt x≤4611686018427387904:=by omega
    have hj0:0<j:=by omega
    clear ho hv hcl hle hj
    obtain⟨v2,F2,hcx,hFx,ho2⟩:=GStrip.ow_open (show T.ows _ _ _ _ by simpa only[GStrip.t,T.ow] using hmid.el)
    subst hcx hFx
    obtain⟨va2,vl2,vc2,rfl⟩:=T.yT ho2
    have hfx:=hmid.fx
    have hgx:=hmid.gx
    have hnd2:=nodup_fst hfx
    have hg2:g ∉ F2:=fun h=>hgx (by simp[h])
    have HMID:=hide hmid;have HOW0:=hide hmid.own;have HTX0:=hide (Trn.refl (g :: (F2++ [])) wr)
    have O2_0:=hide ho2
    clear hmid ho2
    have q0_0:wr.cell? ⟨g,k * 3,none⟩=some (.string x.zV):=own_at 0 HOW0.out hc1 rfl
    have f0_0:=yR HOW0.out (k * 3)
    have q0_1:wr.cell? ⟨g,k * 3+1,none⟩=some (.int .i64 x.zT):=own_at 1 HOW0.out hc1 rfl
    have f0_1:=yR HOW0.out (k * 3+1)
    have q0_2:wr.cell? ⟨g,k * 3+2,none⟩=some ((.slice va2 vl2 vc2)):=own_at 2 HOW0.out hc1 rfl
    have f0_2:=yR HOW0.out (k * 3+2)
    go_wp2_with fail
    refine(c_markText (j) _ (by omega) (by unfold GStrip.cnt at hxb;omega)).mono ?_;rintro e w3 ⟨rfl,hb⟩
    have hT:Trn [] _ _:=Trn.of_below hb
    have HTX1:=hide (HTX0.out.trans (hT.mono (by simp)))
    have HOW1:=hide (own_trn HOW0.out hT (by simp))
    have O2_1:=hide (T.ow_trn O2_0.out hT (by simp))
    clear hT hb
    have q1_0:w3.cell? ⟨g,k * 3,none⟩=some (.string x.zV):=own_at 0 HOW1.out hc1 rfl
    have f1_0:=yR HOW1.out (k * 3)
    have q1_1:w3.cell? ⟨g,k * 3+1,none⟩=some (.int .i64 x.zT):=own_at 1 HOW1.out hc1 rfl
    have f1_1:=yR HOW1.out (k * 3+1)
    have q1_2:w3.cell? ⟨g,k * 3+2,none⟩=some ((.slice va2 vl2 vc2)):=own_at 2 HOW1.out hc1 rfl
    have f1_2:=yR HOW1.out (k * 3+2)
    go_wp2_with fail
    refine(c_markSendS _ x.yA F2 (j+2) _ (by omega) (by unfold GStrip.cnt at hxb;omega) (T.ow_far (T.ow_far O2_1.out hg2 _ _) hg2 _ _) hnd2).mono ?_;rintro e w4 ⟨rfl,hno,hT⟩
    have HTX2:=hide ((Trn.trans (Trn.trans HTX1.out (Trn.set_ (by simp) _ _)) (Trn.set_ (by simp) _ _)).trans (hT.mono (fun b hb=>by simp[hb])))
    have HOW2:=hide (own_trn (own_st 1 (own_st 0 HOW1.out hc1 (by simp)) hc1 (by simp)) hT hg2)
    have O2_2:=hide hno
    clear hno
    clear hT
    have q2_0:w4.cell? ⟨g,k * 3,none⟩=some (.string (mrkB (j))):=own_at 0 HOW2.out hc1 rfl
    have f2_0:=yR HOW2.out (k * 3)
    have q2_1:w4.cell? ⟨g,k * 3+1,none⟩=some (.int .i64 ((j+1:Nat):Int)):=own_at 1 HOW2.out hc1 rfl
    have f2_1:=yR HOW2.out (k * 3+1)
    have q2_2:w4.cell? ⟨g,k * 3+2,none⟩=some ((.slice va2 vl2 vc2)):=own_at 2 HOW2.out hc1 rfl
    have f2_2:=yR HOW2.out (k * 3+2)
    go_wp2
    go_roundw
    case rel=>
     have hrec:(mkL GStrip.mkd GStrip.cnt (xs.take (k+1)) m++xs.drop (k+1)).map GStrip.t=(mkL GStrip.mkd GStrip.cnt (xs.take k) m).map GStrip.t++(GStrip.mkd x j).t :: (xs.drop (k+1)).map GStrip.t:=by rw[mkL_take HGK.out,←HJ.out];simp
     refine⟨k+1,j+GStrip.cnt x,by omega,by go_num,?_,by rw[cntL_take HGK.out,HJ.out];omega,?_,?_⟩
     ·unfold GStrip.cnt;go_num
     ·rw[hrec];exact HMID.out.close (cx':= [.string (mrkB (j)),.int .i64 ((j+1:Nat):Int),(.slice va2 vl2 vc2)]) (HTX2.out) (HOW2.out) (by simp only[GStrip.t,T.ow];exact GStrip.ow_mk (x:=GStrip.mkd x j) (O2_2.out)) (GStrip.wide_t _)
     ·exact HT.out.trans (Trn.mono (F:=g :: (F2++ [])) (HTX2.out) (fun b hb=>by simp only[List.mem_cons,List.mem_append,List.not_mem_nil,or_false] at hb ⊢;rcases hb with h|h<;>simp[h]))
    case measure=>simp[intOf];omega
   ·obtain rfl:k=xs.length:=by omega
    go_wp2
    go_ret
    rw[List.take_length] at ho hj
    rw[List.drop_length,List.append_nil] at ho
    exact⟨by rw[hj];rfl,ho,HT.out⟩
end Go.Proofs.YtbgedljbgkcpiaaGreatDoor
