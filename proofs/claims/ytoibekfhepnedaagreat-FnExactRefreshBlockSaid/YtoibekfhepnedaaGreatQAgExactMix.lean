/- Contracts: nested data marked cell by cell. -/
import Derived.Test.YtoibekfhepnedaaGreatQAbExactMix
import Derived.Test.YtoibekfhepnedaaGreatQAeExactMix
import Derived.Test.YtoibekfhepnedaaGreatQAfExactMix
set_option linter.unusedVariables false
set_option linter.unusedSimpArgs false
set_option maxHeartbeats 1000000
set_option maxRecDepth 20000
namespace Go.Proofs.YtoibekfhepnedaaGreat
open Go.RowKit
def xU.cnt (x:xU):Nat:=1+1+1+1+1
def xU.mkd (x:xU) (k:Nat):xU:= { yD:=((k:Nat):Int),zK:=((k+1:Nat):Int),zF:=((k+2:Nat):Int),yH:=((k+3:Nat):Int),yB:=((k+4:Nat):Int) }
def xQ.cnt (x:xQ):Nat:=wR xU.cnt x.zZ
def xQ.mkd (x:xQ) (k:Nat):xQ:= { zZ:=mkL xU.mkd xU.cnt x.zZ (k) }
def xR.cnt (x:xR):Nat:=1+1+1+x.zK.length
def xR.mkd (x:xR) (k:Nat):xR:= { zG:=((k:Nat):Int),fA:=((k+1:Nat):Int),fB:=((k+2:Nat):Int),zK:=marks (k+3) x.zK.length }
def xO.cnt (x:xO):Nat:=1+wR List.length x.zV+wR xR.cnt x.zC+x.zT.length
def xO.mkd (x:xO) (k:Nat):xO:= { zS:=((k:Nat):Int),zV:=mkL (fun l k=>marks k l.length) List.length x.zV (k+1),zC:=mkL xR.mkd xR.cnt x.zC (k+1+wR List.length x.zV),zT:=marks (k+1+wR List.length x.zV+wR xR.cnt x.zC) x.zT.length }
def xV.cnt (x:xV):Nat:=1+1
def xV.mkd (x:xV) (k:Nat):xV:= { yG:=((k:Nat):Int),yB:=((k+1:Nat):Int) }
def xP.cnt (x:xP):Nat:=1+1+wR xV.cnt x.zY
def xP.mkd (x:xP) (k:Nat):xP:= { yE:=mrkB (k),zU:=((k+1:Nat):Int),zY:=mkL xV.mkd xV.cnt x.zY (k+2) }
def wG.cntv (x:wG):Nat:=wR xP.cnt x.zD
def wG.mkv (x:wG) (k:Nat):wG:= { zD:=mkL xP.mkd xP.cnt x.zD (k) }
def xS.cntv (x:xS):Nat:=wR List.length x.zI+wR xQ.cnt x.zL+x.zX.length+wR xO.cnt x.zO+x.zH.cntv
def xS.mkv (x:xS) (k:Nat):xS:= { zF:=x.zF,zI:=mkL (fun l k=>marks k l.length) List.length x.zI (k),zL:=mkL xQ.mkd xQ.cnt x.zL (k+wR List.length x.zI),zX:=marks (k+wR List.length x.zI+wR xQ.cnt x.zL) x.zX.length,zO:=mkL xO.mkd xO.cnt x.zO (k+wR List.length x.zI+wR xQ.cnt x.zL+x.zX.length),zH:=x.zH.mkv (k+wR List.length x.zI+wR xQ.cnt x.zL+x.zX.length+wR xO.cnt x.zO) }
def xX.cntv (x:xX):Nat:=x.zB.cntv+x.yF.length+x.yC.length
def xX.mkv (x:xX) (k:Nat):xX:= { zB:=x.zB.mkv (k),yF:=marks (k+x.zB.cntv) x.yF.length,yC:=marks (k+x.zB.cntv+x.yF.length) x.yC.length }
theorem zGy (v:Value) (xs:List Int) (F:List Nat) (m:Nat) (w:World) (h0:0<m) (hm:m+xs.length≤4611686018427387904) (ho:T.ow w (T.ints 2 xs) F [v]) (hn:F.Nodup):
  Calls Tryz.prog 79 #[v,.int .i64 (m:Int)] w fun e w'=>e= .returned (.int .i64 ((m+xs.length:Nat):Int))∧T.ow w' (T.ints 2 (marks m xs.length)) F [v]∧Trn F w w':=by
 obtain⟨h1,rfl⟩:=T.ow_ints.1 ho;exact(c_markInt64S _ 0 v xs m w h1 hm).mono fun e w' ⟨a,b,c⟩=>⟨a,T.ow_ints.2 ⟨b,rfl⟩,Trn.of_grown c⟩
theorem zVy (v:Value) (xs:List (List Int)) (F:List Nat) (m:Nat) (w:World) (h0:0<m) (hm:m+wR List.length xs≤4611686018427387904) (ho:T.ow w (T.sl 26 1 (xs.map (T.ints 2))) F [v]) (hn:F.Nodup):
  Calls Tryz.prog 77 #[v,.int .i64 (m:Int)] w fun e w'=>e= .returned (.int .i64 ((m+wR List.length xs:Nat):Int))∧T.ow w' (T.sl 26 1 ((mkL (fun l k=>marks k l.length) List.length xs m).map (T.ints 2))) F [v]∧Trn F w w':=by
 rcases Nat.eq_zero_or_pos xs.length with hz|hz
 ·obtain rfl:xs= []:=List.eq_nil_of_length_eq_zero hz
  obtain⟨A,cap,rfl⟩:=T.mid_empty ho;have HO:=xN ho;clear ho hz hm
  go_enter Tryz.func77,Tryz.ntmps77
  go_wp2;refine wp_loop_rounds 1 ?_;rw[rounds_succ];go_wp2;go_ret
  exact⟨by simp[wR],HO.out,Trn.refl _ _⟩
 ·obtain⟨g,cap,rfl,hl,hc⟩:=T.ow_form ho (by rw[List.length_map];exact hz)
  rw[List.length_map] at hl ⊢;have HO:=xN ho;clear ho
  go_enter Tryz.func77,Tryz.ntmps77
  go_wp2
  go_loopw [1,5] (fun t iv wr=> ∃ k j:Nat,k≤xs.length∧iv= .int .i64 (k:Int)∧t= .int .i64 (j:Int)∧j=m+wR List.length (xs.take k)∧T.ow wr (.sl 26 1 ((mkL (fun l k=>marks k l.length) List.length (xs.take k) m++xs.drop k).map (T.ints 2))) F [.slice (some ⟨g,0,none⟩) xs.length cap]∧Trn F w wr) (fun _ iv _=>xs.length - (intOf iv).toNat)
  case atStart=>exact⟨0,m,Nat.zero_le _,rfl,rfl,by simp[wR],by have:=HO.out;rw[List.length_map] at this;simpa[mkL] using this,Trn.refl _ _⟩
  case round=>
   obtain⟨k,j,hk,rfl,rfl,hj,ho,ht⟩:=hrel;have HT:=xN ht;clear ht;by_cases hlt:k<xs.length
   ·have hgk:=gE hlt
    have hcl:=vE (c:=List.length) hgk;have hle:=zPz (c:=List.length) xs (k+1);have hdr:xs.drop k=xs[k] :: xs.drop (k+1):=List.drop_eq_getElem_cons hlt;rw[hdr,List.map_append,List.map_cons] at ho;generalize xs[k]=x at *;have HGK:=xN hgk;clear hgk hdr;obtain⟨n',g',cap',G1,Fx,G2,c1,cx,c2,hv,rfl,hmid⟩:=T.mid ho hn;obtain⟨rfl,rfl,rfl⟩:g=g'∧xs.length=n'∧cap=cap':=by simpa using hv
    have hc1:=hmid.c1;rw[List.length_map,uH,List.length_take,Nat.min_eq_left hk,Nat.mul_one] at hc1;have HJ:=xN hj;have hxb:j+List.length x≤4611686018427387904:=by omega
    have hj0:0<j:=by omega
    clear ho hv hcl hle hj;obtain⟨v0,hcx⟩:=T.rd_one (T.ow_rd _ _ _ hmid.el);subst hcx;have ho0:=hmid.el;have hfx:=hmid.fx;have hgx:=hmid.gx;obtain⟨va0,vl0,vc0,rfl⟩:=T.xE ho0;have hnd0:=hfx;have hg0:g ∉ Fx:=fun h=>hgx (by simp[h])
    have HMID:=xN hmid;have HOW0:=xN hmid.own;have HTX0:=xN (Trn.refl (g :: (Fx)) wr);have O0_0:=xN ho0;clear hmid ho0;have q0_0:wr.cell? ⟨g,k,none⟩=some ((.slice va0 vl0 vc0)):=vG 0 HOW0.out hc1 rfl;have f0_0:=xC HOW0.out (k);go_wp2_with fail
    refine(zGy _ x Fx (j) _ zM zM O0_0.out hnd0).mono ?_;rintro e w3 ⟨rfl,hno,hT⟩;have HTX1:=xN (HTX0.out.trans (hT.mono (fun b hb=>by simp[hb])));have HOW1:=xN (wSz HOW0.out hT hg0);have O0_1:=xN hno;clear hno;clear hT;have q1_0:w3.cell? ⟨g,k,none⟩=some ((.slice va0 vl0 vc0)):=vG 0 HOW1.out hc1 rfl;have f1_0:=xC HOW1.out (k);go_wp2
    go_roundw
    case rel=>
     have hrec:(mkL (fun l k=>marks k l.length) List.length (xs.take (k+1)) m++xs.drop (k+1)).map (T.ints 2)=(mkL (fun l k=>marks k l.length) List.length (xs.take k) m).map (T.ints 2)++T.ints 2 (marks j x.length) :: (xs.drop (k+1)).map (T.ints 2):=by rw[wNz HGK.out,←HJ.out];simp
     refine⟨k+1,j+x.length,by omega,by go_num,?_,by rw[vE HGK.out,HJ.out];omega,?_,?_⟩
     ·rfl
     ·rw[hrec];exact HMID.out.close HTX1.out HOW1.out O0_1.out rfl
     ·exact HT.out.trans (Trn.mono (F:=g :: (Fx)) (HTX1.out) (fun b hb=>by simp only[List.mem_cons,List.mem_append,List.not_mem_nil,or_false] at hb ⊢;rcases hb with h|h<;>simp[h]))
    case measure=>simp[intOf];omega
   ·obtain rfl:k=xs.length:=by omega
    go_wp2;go_ret
    rw[List.take_length] at ho hj;rw[List.drop_length,List.append_nil] at ho;exact⟨by rw[hj];rfl,ho,HT.out⟩
theorem c_markClipS (v:Value) (xs:List xU) (F:List Nat) (m:Nat) (w:World) (h0:0<m) (hm:m+wR xU.cnt xs≤4611686018427387904) (ho:T.ow w (T.sl 39 5 (xs.map xU.t)) F [v]) (hn:F.Nodup):
  Calls Tryz.prog 143 #[v,.int .i64 (m:Int)] w fun e w'=>e= .returned (.int .i64 ((m+wR xU.cnt xs:Nat):Int))∧T.ow w' (T.sl 39 5 ((mkL xU.mkd xU.cnt xs m).map xU.t)) F [v]∧Trn F w w':=by
 rcases Nat.eq_zero_or_pos xs.length with hz|hz
 ·obtain rfl:xs= []:=List.eq_nil_of_length_eq_zero hz
  obtain⟨A,cap,rfl⟩:=T.mid_empty ho;have HO:=xN ho;clear ho hz hm
  go_enter Tryz.func143,Tryz.ntmps143
  go_wp2;refine wp_loop_rounds 1 ?_;rw[rounds_succ];go_wp2;go_ret
  exact⟨by simp[wR],HO.out,Trn.refl _ _⟩
 ·obtain⟨g,cap,rfl,hl,hc⟩:=T.ow_form ho (by rw[List.length_map];exact hz)
  rw[List.length_map] at hl ⊢;have HO:=xN ho;clear ho
  go_enter Tryz.func143,Tryz.ntmps143
  go_wp2
  go_loopw [1,5] (fun t iv wr=> ∃ k j:Nat,k≤xs.length∧iv= .int .i64 (k:Int)∧t= .int .i64 (j:Int)∧j=m+wR xU.cnt (xs.take k)∧T.ow wr (.sl 39 5 ((mkL xU.mkd xU.cnt (xs.take k) m++xs.drop k).map xU.t)) F [.slice (some ⟨g,0,none⟩) xs.length cap]∧Trn F w wr) (fun _ iv _=>xs.length - (intOf iv).toNat)
  case atStart=>exact⟨0,m,Nat.zero_le _,rfl,rfl,by simp[wR],by have:=HO.out;rw[List.length_map] at this;simpa[mkL] using this,Trn.refl _ _⟩
  case round=>
   obtain⟨k,j,hk,rfl,rfl,hj,ho,ht⟩:=hrel;have HT:=xN ht;clear ht;by_cases hlt:k<xs.length
   ·have hgk:=gE hlt
    have hcl:=vE (c:=xU.cnt) hgk;have hle:=zPz (c:=xU.cnt) xs (k+1);have hdr:xs.drop k=xs[k] :: xs.drop (k+1):=List.drop_eq_getElem_cons hlt;rw[hdr,List.map_append,List.map_cons] at ho;generalize xs[k]=x at *;have HGK:=xN hgk;clear hgk hdr;obtain⟨n',g',cap',G1,Fx,G2,c1,cx,c2,hv,rfl,hmid⟩:=T.mid ho hn;obtain⟨rfl,rfl,rfl⟩:g=g'∧xs.length=n'∧cap=cap':=by simpa using hv
    have hc1:=hmid.c1;rw[List.length_map,uH,List.length_take,Nat.min_eq_left hk] at hc1;have HJ:=xN hj;have hxb:j+xU.cnt x≤4611686018427387904:=by omega
    have hj0:0<j:=by omega
    clear ho hv hcl hle hj
    obtain⟨hFx,hcx⟩:Fx= []∧cx= [.int .i64 x.yD,.int .i64 x.zK,.int .i64 x.zF,.int .i64 x.yH,.int .i64 x.yB]:=by
     have:=hmid.el;simp only[xU.t,T.ow,xU.fs,T.ows_num,T.ows_str,T.ows_nil] at this;obtain⟨_,rfl,_,rfl,_,rfl,_,rfl,_,rfl,rfl,rfl⟩:=this;exact⟨rfl,rfl⟩
    subst hcx hFx;have hfx:=hmid.fx;have hgx:=hmid.gx;have HMID:=xN hmid;have HOW0:=xN hmid.own;have HTX0:=xN (Trn.refl (g :: ([])) wr);clear hmid;have q0_0:wr.cell? ⟨g,k * 5,none⟩=some (.int .i64 x.yD):=vG 0 HOW0.out hc1 rfl;have f0_0:=xC HOW0.out (k * 5);have q0_1:wr.cell? ⟨g,k * 5+1,none⟩=some (.int .i64 x.zK):=vG 1 HOW0.out hc1 rfl;have f0_1:=xC HOW0.out (k * 5+1);have q0_2:wr.cell? ⟨g,k * 5+2,none⟩=some (.int .i64 x.zF):=vG 2 HOW0.out hc1 rfl;have f0_2:=xC HOW0.out (k * 5+2);have q0_3:wr.cell? ⟨g,k * 5+3,none⟩=some (.int .i64 x.yH):=vG 3 HOW0.out hc1 rfl;have f0_3:=xC HOW0.out (k * 5+3);have q0_4:wr.cell? ⟨g,k * 5+4,none⟩=some (.int .i64 x.yB):=vG 4 HOW0.out hc1 rfl;have f0_4:=xC HOW0.out (k * 5+4);go_wp2
    go_roundw
    case rel=>
     have hrec:(mkL xU.mkd xU.cnt (xs.take (k+1)) m++xs.drop (k+1)).map xU.t=(mkL xU.mkd xU.cnt (xs.take k) m).map xU.t++(xU.mkd x j).t :: (xs.drop (k+1)).map xU.t:=by rw[wNz HGK.out,←HJ.out];simp
     refine⟨k+1,j+xU.cnt x,by omega,by go_num,?_,by rw[vE HGK.out,HJ.out];omega,?_,?_⟩
     ·unfold xU.cnt;go_num
     ·rw[hrec];exact HMID.out.close (cx':= [.int .i64 ((j:Nat):Int),.int .i64 ((j+1:Nat):Int),.int .i64 ((j+2:Nat):Int),.int .i64 ((j+3:Nat):Int),.int .i64 ((j+4:Nat):Int)]) ((Trn.trans (Trn.trans (Trn.trans (Trn.trans (Trn.trans HTX0.out (Trn.set_ (by simp) _ _)) (Trn.set_ (by simp) _ _)) (Trn.set_ (by simp) _ _)) (Trn.set_ (by simp) _ _)) (Trn.set_ (by simp) _ _))) ((xKz 4 (xKz 3 (xKz 2 (xKz 1 (xKz 0 HOW0.out hc1 (by simp)) hc1 (by simp)) hc1 (by simp)) hc1 (by simp)) hc1 (by simp))) (by simp only[xU.t,T.ow];exact xU.ow_mk (x:=xU.mkd x j)) (xU.wide_t _)
     ·exact HT.out.trans (Trn.mono (F:=g :: ([])) ((Trn.trans (Trn.trans (Trn.trans (Trn.trans (Trn.trans HTX0.out (Trn.set_ (by simp) _ _)) (Trn.set_ (by simp) _ _)) (Trn.set_ (by simp) _ _)) (Trn.set_ (by simp) _ _)) (Trn.set_ (by simp) _ _))) (fun b hb=>by simp at hb;simp[hb]))
    case measure=>simp[intOf];omega
   ·obtain rfl:k=xs.length:=by omega
    go_wp2;go_ret
    rw[List.take_length] at ho hj;rw[List.drop_length,List.append_nil] at ho;exact⟨by rw[hj];rfl,ho,HT.out⟩
theorem c_markTrackS (v:Value) (xs:List xQ) (F:List Nat) (m:Nat) (w:World) (h0:0<m) (hm:m+wR xQ.cnt xs≤4611686018427387904) (ho:T.ow w (T.sl 96 1 (xs.map xQ.t)) F [v]) (hn:F.Nodup):
  Calls Tryz.prog 78 #[v,.int .i64 (m:Int)] w fun e w'=>e= .returned (.int .i64 ((m+wR xQ.cnt xs:Nat):Int))∧T.ow w' (T.sl 96 1 ((mkL xQ.mkd xQ.cnt xs m).map xQ.t)) F [v]∧Trn F w w':=by
 rcases Nat.eq_zero_or_pos xs.length with hz|hz
 ·obtain rfl:xs= []:=List.eq_nil_of_length_eq_zero hz
  obtain⟨A,cap,rfl⟩:=T.mid_empty ho;have HO:=xN ho;clear ho hz hm
  go_enter Tryz.func78,Tryz.ntmps78
  go_wp2;refine wp_loop_rounds 1 ?_;rw[rounds_succ];go_wp2;go_ret
  exact⟨by simp[wR],HO.out,Trn.refl _ _⟩
 ·obtain⟨g,cap,rfl,hl,hc⟩:=T.ow_form ho (by rw[List.length_map];exact hz)
  rw[List.length_map] at hl ⊢;have HO:=xN ho;clear ho
  go_enter Tryz.func78,Tryz.ntmps78
  go_wp2
  go_loopw [1,5] (fun t iv wr=> ∃ k j:Nat,k≤xs.length∧iv= .int .i64 (k:Int)∧t= .int .i64 (j:Int)∧j=m+wR xQ.cnt (xs.take k)∧T.ow wr (.sl 96 1 ((mkL xQ.mkd xQ.cnt (xs.take k) m++xs.drop k).map xQ.t)) F [.slice (some ⟨g,0,none⟩) xs.length cap]∧Trn F w wr) (fun _ iv _=>xs.length - (intOf iv).toNat)
  case atStart=>exact⟨0,m,Nat.zero_le _,rfl,rfl,by simp[wR],by have:=HO.out;rw[List.length_map] at this;simpa[mkL] using this,Trn.refl _ _⟩
  case round=>
   obtain⟨k,j,hk,rfl,rfl,hj,ho,ht⟩:=hrel;have HT:=xN ht;clear ht;by_cases hlt:k<xs.length
   ·have hgk:=gE hlt
    have hcl:=vE (c:=xQ.cnt) hgk;have hle:=zPz (c:=xQ.cnt) xs (k+1);have hdr:xs.drop k=xs[k] :: xs.drop (k+1):=List.drop_eq_getElem_cons hlt;rw[hdr,List.map_append,List.map_cons] at ho;generalize xs[k]=x at *;have HGK:=xN hgk;clear hgk hdr;obtain⟨n',g',cap',G1,Fx,G2,c1,cx,c2,hv,rfl,hmid⟩:=T.mid ho hn;obtain⟨rfl,rfl,rfl⟩:g=g'∧xs.length=n'∧cap=cap':=by simpa using hv
    have hc1:=hmid.c1;rw[List.length_map,uH,List.length_take,Nat.min_eq_left hk,Nat.mul_one] at hc1;have HJ:=xN hj;have hxb:j+xQ.cnt x≤4611686018427387904:=by omega
    have hj0:0<j:=by omega
    clear ho hv hcl hle hj;obtain⟨v0,F0,hcx,hFx,ho0⟩:=xQ.ow_open (show T.ows _ _ _ _ by simpa only[xQ.t,T.ow] using hmid.el);subst hcx hFx;obtain⟨va0,vl0,vc0,rfl⟩:=T.xE ho0;have hfx:=hmid.fx;have hgx:=hmid.gx;have hnd0:=vM hfx;have hg0:g ∉ F0:=fun h=>hgx (by simp[h])
    have HMID:=xN hmid;have HOW0:=xN hmid.own;have HTX0:=xN (Trn.refl (g :: (F0++ [])) wr);have O0_0:=xN ho0;clear hmid ho0;have q0_0:wr.cell? ⟨g,k,none⟩=some ((.slice va0 vl0 vc0)):=vG 0 HOW0.out hc1 rfl;have f0_0:=xC HOW0.out (k);go_wp2_with fail
    refine(c_markClipS _ x.zZ F0 (j) _ zM (by unfold xQ.cnt at hxb;omega) O0_0.out hnd0).mono ?_;rintro e w3 ⟨rfl,hno,hT⟩;have HTX1:=xN (HTX0.out.trans (hT.mono (fun b hb=>by simp[hb])));have HOW1:=xN (wSz HOW0.out hT hg0);have O0_1:=xN hno;clear hno;clear hT;have q1_0:w3.cell? ⟨g,k,none⟩=some ((.slice va0 vl0 vc0)):=vG 0 HOW1.out hc1 rfl;have f1_0:=xC HOW1.out (k);go_wp2
    go_roundw
    case rel=>
     have hrec:(mkL xQ.mkd xQ.cnt (xs.take (k+1)) m++xs.drop (k+1)).map xQ.t=(mkL xQ.mkd xQ.cnt (xs.take k) m).map xQ.t++(xQ.mkd x j).t :: (xs.drop (k+1)).map xQ.t:=by rw[wNz HGK.out,←HJ.out];simp
     refine⟨k+1,j+xQ.cnt x,by omega,by go_num,?_,by rw[vE HGK.out,HJ.out];omega,?_,?_⟩
     ·unfold xQ.cnt;go_num
     ·rw[hrec];exact HMID.out.close (cx':= [(.slice va0 vl0 vc0)]) (HTX1.out) (HOW1.out) (by simp only[xQ.t,T.ow];exact xQ.ow_mk (x:=xQ.mkd x j) (O0_1.out)) (xQ.wide_t _)
     ·exact HT.out.trans (Trn.mono (F:=g :: (F0++ [])) (HTX1.out) (fun b hb=>by simp only[List.mem_cons,List.mem_append,List.not_mem_nil,or_false] at hb ⊢;rcases hb with h|h<;>simp[h]))
    case measure=>simp[intOf];omega
   ·obtain rfl:k=xs.length:=by omega
    go_wp2;go_ret
    rw[List.take_length] at ho hj;rw[List.drop_length,List.append_nil] at ho;exact⟨by rw[hj];rfl,ho,HT.out⟩
theorem c_markNodeS (v:Value) (xs:List xR) (F:List Nat) (m:Nat) (w:World) (h0:0<m) (hm:m+wR xR.cnt xs≤4611686018427387904) (ho:T.ow w (T.sl 167 4 (xs.map xR.t)) F [v]) (hn:F.Nodup):
  Calls Tryz.prog 144 #[v,.int .i64 (m:Int)] w fun e w'=>e= .returned (.int .i64 ((m+wR xR.cnt xs:Nat):Int))∧T.ow w' (T.sl 167 4 ((mkL xR.mkd xR.cnt xs m).map xR.t)) F [v]∧Trn F w w':=by
 rcases Nat.eq_zero_or_pos xs.length with hz|hz
 ·obtain rfl:xs= []:=List.eq_nil_of_length_eq_zero hz
  obtain⟨A,cap,rfl⟩:=T.mid_empty ho;have HO:=xN ho;clear ho hz hm
  go_enter Tryz.func144,Tryz.ntmps144
  go_wp2;refine wp_loop_rounds 1 ?_;rw[rounds_succ];go_wp2;go_ret
  exact⟨by simp[wR],HO.out,Trn.refl _ _⟩
 ·obtain⟨g,cap,rfl,hl,hc⟩:=T.ow_form ho (by rw[List.length_map];exact hz)
  rw[List.length_map] at hl ⊢;have HO:=xN ho;clear ho
  go_enter Tryz.func144,Tryz.ntmps144
  go_wp2
  go_loopw [1,5] (fun t iv wr=> ∃ k j:Nat,k≤xs.length∧iv= .int .i64 (k:Int)∧t= .int .i64 (j:Int)∧j=m+wR xR.cnt (xs.take k)∧T.ow wr (.sl 167 4 ((mkL xR.mkd xR.cnt (xs.take k) m++xs.drop k).map xR.t)) F [.slice (some ⟨g,0,none⟩) xs.length cap]∧Trn F w wr) (fun _ iv _=>xs.length - (intOf iv).toNat)
  case atStart=>exact⟨0,m,Nat.zero_le _,rfl,rfl,by simp[wR],by have:=HO.out;rw[List.length_map] at this;simpa[mkL] using this,Trn.refl _ _⟩
  case round=>
   obtain⟨k,j,hk,rfl,rfl,hj,ho,ht⟩:=hrel;have HT:=xN ht;clear ht;by_cases hlt:k<xs.length
   ·have hgk:=gE hlt
    have hcl:=vE (c:=xR.cnt) hgk;have hle:=zPz (c:=xR.cnt) xs (k+1);have hdr:xs.drop k=xs[k] :: xs.drop (k+1):=List.drop_eq_getElem_cons hlt;rw[hdr,List.map_append,List.map_cons] at ho;generalize xs[k]=x at *;have HGK:=xN hgk;clear hgk hdr;obtain⟨n',g',cap',G1,Fx,G2,c1,cx,c2,hv,rfl,hmid⟩:=T.mid ho hn;obtain⟨rfl,rfl,rfl⟩:g=g'∧xs.length=n'∧cap=cap':=by simpa using hv
    have hc1:=hmid.c1;rw[List.length_map,uH,List.length_take,Nat.min_eq_left hk] at hc1;have HJ:=xN hj;have hxb:j+xR.cnt x≤4611686018427387904:=by omega
    have hj0:0<j:=by omega
    clear ho hv hcl hle hj;obtain⟨v3,F3,hcx,hFx,ho3⟩:=xR.ow_open (show T.ows _ _ _ _ by simpa only[xR.t,T.ow] using hmid.el);subst hcx hFx;obtain⟨va3,vl3,vc3,rfl⟩:=T.xE ho3;have hfx:=hmid.fx;have hgx:=hmid.gx;have hnd3:=vM hfx;have hg3:g ∉ F3:=fun h=>hgx (by simp[h])
    have HMID:=xN hmid;have HOW0:=xN hmid.own;have HTX0:=xN (Trn.refl (g :: (F3++ [])) wr);have O3_0:=xN ho3;clear hmid ho3;have q0_0:wr.cell? ⟨g,k * 4,none⟩=some (.int .i64 x.zG):=vG 0 HOW0.out hc1 rfl;have f0_0:=xC HOW0.out (k * 4);have q0_1:wr.cell? ⟨g,k * 4+1,none⟩=some (.int .i64 x.fA):=vG 1 HOW0.out hc1 rfl;have f0_1:=xC HOW0.out (k * 4+1);have q0_2:wr.cell? ⟨g,k * 4+2,none⟩=some (.int .i64 x.fB):=vG 2 HOW0.out hc1 rfl;have f0_2:=xC HOW0.out (k * 4+2);have q0_3:wr.cell? ⟨g,k * 4+3,none⟩=some ((.slice va3 vl3 vc3)):=vG 3 HOW0.out hc1 rfl;have f0_3:=xC HOW0.out (k * 4+3);go_wp2_with fail
    refine(zGy _ x.zK F3 (j+3) _ zM (by unfold xR.cnt at hxb;omega) (T.ow_far (T.ow_far (T.ow_far O3_0.out hg3 _ _) hg3 _ _) hg3 _ _) hnd3).mono ?_;rintro e w3 ⟨rfl,hno,hT⟩;have HTX1:=xN ((Trn.trans (Trn.trans (Trn.trans HTX0.out (Trn.set_ (by simp) _ _)) (Trn.set_ (by simp) _ _)) (Trn.set_ (by simp) _ _)).trans (hT.mono (fun b hb=>by simp[hb])));have HOW1:=xN (wSz (xKz 2 (xKz 1 (xKz 0 HOW0.out hc1 (by simp)) hc1 (by simp)) hc1 (by simp)) hT hg3);have O3_1:=xN hno;clear hno;clear hT;have q1_0:w3.cell? ⟨g,k * 4,none⟩=some (.int .i64 ((j:Nat):Int)):=vG 0 HOW1.out hc1 rfl;have f1_0:=xC HOW1.out (k * 4);have q1_1:w3.cell? ⟨g,k * 4+1,none⟩=some (.int .i64 ((j+1:Nat):Int)):=vG 1 HOW1.out hc1 rfl;have f1_1:=xC HOW1.out (k * 4+1);have q1_2:w3.cell? ⟨g,k * 4+2,none⟩=some (.int .i64 ((j+2:Nat):Int)):=vG 2 HOW1.out hc1 rfl;have f1_2:=xC HOW1.out (k * 4+2);have q1_3:w3.cell? ⟨g,k * 4+3,none⟩=some ((.slice va3 vl3 vc3)):=vG 3 HOW1.out hc1 rfl;have f1_3:=xC HOW1.out (k * 4+3);go_wp2
    go_roundw
    case rel=>
     have hrec:(mkL xR.mkd xR.cnt (xs.take (k+1)) m++xs.drop (k+1)).map xR.t=(mkL xR.mkd xR.cnt (xs.take k) m).map xR.t++(xR.mkd x j).t :: (xs.drop (k+1)).map xR.t:=by rw[wNz HGK.out,←HJ.out];simp
     refine⟨k+1,j+xR.cnt x,by omega,by go_num,?_,by rw[vE HGK.out,HJ.out];omega,?_,?_⟩
     ·unfold xR.cnt;go_num
     ·rw[hrec];exact HMID.out.close (cx':= [.int .i64 ((j:Nat):Int),.int .i64 ((j+1:Nat):Int),.int .i64 ((j+2:Nat):Int),(.slice va3 vl3 vc3)]) (HTX1.out) (HOW1.out) (by simp only[xR.t,T.ow];exact xR.ow_mk (x:=xR.mkd x j) (O3_1.out)) (xR.wide_t _)
     ·exact HT.out.trans (Trn.mono (F:=g :: (F3++ [])) (HTX1.out) (fun b hb=>by simp only[List.mem_cons,List.mem_append,List.not_mem_nil,or_false] at hb ⊢;rcases hb with h|h<;>simp[h]))
    case measure=>simp[intOf];omega
   ·obtain rfl:k=xs.length:=by omega
    go_wp2;go_ret
    rw[List.take_length] at ho hj;rw[List.drop_length,List.append_nil] at ho;exact⟨by rw[hj];rfl,ho,HT.out⟩
theorem c_markPatchS (v:Value) (xs:List xO) (F:List Nat) (m:Nat) (w:World) (h0:0<m) (hm:m+wR xO.cnt xs≤4611686018427387904) (ho:T.ow w (T.sl 108 4 (xs.map xO.t)) F [v]) (hn:F.Nodup):
  Calls Tryz.prog 80 #[v,.int .i64 (m:Int)] w fun e w'=>e= .returned (.int .i64 ((m+wR xO.cnt xs:Nat):Int))∧T.ow w' (T.sl 108 4 ((mkL xO.mkd xO.cnt xs m).map xO.t)) F [v]∧Trn F w w':=by
 rcases Nat.eq_zero_or_pos xs.length with hz|hz
 ·obtain rfl:xs= []:=List.eq_nil_of_length_eq_zero hz
  obtain⟨A,cap,rfl⟩:=T.mid_empty ho;have HO:=xN ho;clear ho hz hm
  go_enter Tryz.func80,Tryz.ntmps80
  go_wp2;refine wp_loop_rounds 1 ?_;rw[rounds_succ];go_wp2;go_ret
  exact⟨by simp[wR],HO.out,Trn.refl _ _⟩
 ·obtain⟨g,cap,rfl,hl,hc⟩:=T.ow_form ho (by rw[List.length_map];exact hz)
  rw[List.length_map] at hl ⊢;have HO:=xN ho;clear ho
  go_enter Tryz.func80,Tryz.ntmps80
  go_wp2
  go_loopw [1,5] (fun t iv wr=> ∃ k j:Nat,k≤xs.length∧iv= .int .i64 (k:Int)∧t= .int .i64 (j:Int)∧j=m+wR xO.cnt (xs.take k)∧T.ow wr (.sl 108 4 ((mkL xO.mkd xO.cnt (xs.take k) m++xs.drop k).map xO.t)) F [.slice (some ⟨g,0,none⟩) xs.length cap]∧Trn F w wr) (fun _ iv _=>xs.length - (intOf iv).toNat)
  case atStart=>exact⟨0,m,Nat.zero_le _,rfl,rfl,by simp[wR],by have:=HO.out;rw[List.length_map] at this;simpa[mkL] using this,Trn.refl _ _⟩
  case round=>
   obtain⟨k,j,hk,rfl,rfl,hj,ho,ht⟩:=hrel;have HT:=xN ht;clear ht;by_cases hlt:k<xs.length
   ·have hgk:=gE hlt
    have hcl:=vE (c:=xO.cnt) hgk;have hle:=zPz (c:=xO.cnt) xs (k+1);have hdr:xs.drop k=xs[k] :: xs.drop (k+1):=List.drop_eq_getElem_cons hlt;rw[hdr,List.map_append,List.map_cons] at ho;generalize xs[k]=x at *;have HGK:=xN hgk;clear hgk hdr;obtain⟨n',g',cap',G1,Fx,G2,c1,cx,c2,hv,rfl,hmid⟩:=T.mid ho hn;obtain⟨rfl,rfl,rfl⟩:g=g'∧xs.length=n'∧cap=cap':=by simpa using hv
    have hc1:=hmid.c1;rw[List.length_map,uH,List.length_take,Nat.min_eq_left hk] at hc1;have HJ:=xN hj;have hxb:j+xO.cnt x≤4611686018427387904:=by omega
    have hj0:0<j:=by omega
    clear ho hv hcl hle hj;obtain⟨v1,v2,v3,F1,F2,F3,hcx,hFx,ho1,ho2,ho3⟩:=xO.ow_open (show T.ows _ _ _ _ by simpa only[xO.t,T.ow] using hmid.el);subst hcx hFx;obtain⟨va1,vl1,vc1,rfl⟩:=T.xE ho1;obtain⟨va2,vl2,vc2,rfl⟩:=T.xE ho2;obtain⟨va3,vl3,vc3,rfl⟩:=T.xE ho3;have hfx:=hmid.fx;have hgx:=hmid.gx;have hnd1:=vM hfx;have hdj1_2: ∀ b ∈ F1,b ∉ F2:=fun b h1 h2=>wV hfx b h1 (by simp[h2])
    have hdj2_1: ∀ b ∈ F2,b ∉ F1:=fun b h1 h2=>hdj1_2 b h2 h1
    have hdj1_3: ∀ b ∈ F1,b ∉ F3:=fun b h1 h2=>wV hfx b h1 (by simp[h2])
    have hdj3_1: ∀ b ∈ F3,b ∉ F1:=fun b h1 h2=>hdj1_3 b h2 h1
    have hnd2:=vM (yY hfx);have hdj2_3: ∀ b ∈ F2,b ∉ F3:=fun b h1 h2=>wV (yY hfx) b h1 (by simp[h2])
    have hdj3_2: ∀ b ∈ F3,b ∉ F2:=fun b h1 h2=>hdj2_3 b h2 h1
    have hnd3:=vM (yY (yY hfx));have hg1:g ∉ F1:=fun h=>hgx (by simp[h])
    have hg2:g ∉ F2:=fun h=>hgx (by simp[h])
    have hg3:g ∉ F3:=fun h=>hgx (by simp[h])
    have HMID:=xN hmid;have HOW0:=xN hmid.own;have HTX0:=xN (Trn.refl (g :: (F1++(F2++(F3++ [])))) wr);have O1_0:=xN ho1;have O2_0:=xN ho2;have O3_0:=xN ho3;clear hmid ho1 ho2 ho3;have q0_0:wr.cell? ⟨g,k * 4,none⟩=some (.int .i64 x.zS):=vG 0 HOW0.out hc1 rfl;have f0_0:=xC HOW0.out (k * 4);have q0_1:wr.cell? ⟨g,k * 4+1,none⟩=some ((.slice va1 vl1 vc1)):=vG 1 HOW0.out hc1 rfl;have f0_1:=xC HOW0.out (k * 4+1);have q0_2:wr.cell? ⟨g,k * 4+2,none⟩=some ((.slice va2 vl2 vc2)):=vG 2 HOW0.out hc1 rfl;have f0_2:=xC HOW0.out (k * 4+2);have q0_3:wr.cell? ⟨g,k * 4+3,none⟩=some ((.slice va3 vl3 vc3)):=vG 3 HOW0.out hc1 rfl;have f0_3:=xC HOW0.out (k * 4+3);go_wp2_with fail
    refine(zVy _ x.zV F1 (j+1) _ zM (by unfold xO.cnt at hxb;omega) (T.ow_far O1_0.out hg1 _ _) hnd1).mono ?_;rintro e w3 ⟨rfl,hno,hT⟩;have HTX1:=xN ((Trn.trans HTX0.out (Trn.set_ (by simp) _ _)).trans (hT.mono (fun b hb=>by simp[hb])));have HOW1:=xN (wSz (xKz 0 HOW0.out hc1 (by simp)) hT hg1);have O1_1:=xN hno;have O2_1:=xN (T.ow_trn (T.ow_far O2_0.out hg2 _ _) hT hdj2_1);have O3_1:=xN (T.ow_trn (T.ow_far O3_0.out hg3 _ _) hT hdj3_1);clear hno;clear hT;have q1_0:w3.cell? ⟨g,k * 4,none⟩=some (.int .i64 ((j:Nat):Int)):=vG 0 HOW1.out hc1 rfl;have f1_0:=xC HOW1.out (k * 4);have q1_1:w3.cell? ⟨g,k * 4+1,none⟩=some ((.slice va1 vl1 vc1)):=vG 1 HOW1.out hc1 rfl;have f1_1:=xC HOW1.out (k * 4+1);have q1_2:w3.cell? ⟨g,k * 4+2,none⟩=some ((.slice va2 vl2 vc2)):=vG 2 HOW1.out hc1 rfl;have f1_2:=xC HOW1.out (k * 4+2);have q1_3:w3.cell? ⟨g,k * 4+3,none⟩=some ((.slice va3 vl3 vc3)):=vG 3 HOW1.out hc1 rfl;have f1_3:=xC HOW1.out (k * 4+3);go_wp2_with fail
    refine(c_markNodeS _ x.zC F2 (j+1+wR List.length x.zV) _ zM (by unfold xO.cnt at hxb;omega) O2_1.out hnd2).mono ?_;rintro e w4 ⟨rfl,hno,hT⟩;have HTX2:=xN (HTX1.out.trans (hT.mono (fun b hb=>by simp[hb])));have HOW2:=xN (wSz HOW1.out hT hg2);have O1_2:=xN (T.ow_trn O1_1.out hT hdj1_2);have O2_2:=xN hno;have O3_2:=xN (T.ow_trn O3_1.out hT hdj3_2);clear hno;clear hT;have q2_0:w4.cell? ⟨g,k * 4,none⟩=some (.int .i64 ((j:Nat):Int)):=vG 0 HOW2.out hc1 rfl;have f2_0:=xC HOW2.out (k * 4);have q2_1:w4.cell? ⟨g,k * 4+1,none⟩=some ((.slice va1 vl1 vc1)):=vG 1 HOW2.out hc1 rfl;have f2_1:=xC HOW2.out (k * 4+1);have q2_2:w4.cell? ⟨g,k * 4+2,none⟩=some ((.slice va2 vl2 vc2)):=vG 2 HOW2.out hc1 rfl;have f2_2:=xC HOW2.out (k * 4+2);have q2_3:w4.cell? ⟨g,k * 4+3,none⟩=some ((.slice va3 vl3 vc3)):=vG 3 HOW2.out hc1 rfl;have f2_3:=xC HOW2.out (k * 4+3);go_wp2_with fail
    refine(zGy _ x.zT F3 (j+1+wR List.length x.zV+wR xR.cnt x.zC) _ zM (by unfold xO.cnt at hxb;omega) O3_2.out hnd3).mono ?_;rintro e w5 ⟨rfl,hno,hT⟩;have HTX3:=xN (HTX2.out.trans (hT.mono (fun b hb=>by simp[hb])));have HOW3:=xN (wSz HOW2.out hT hg3);have O1_3:=xN (T.ow_trn O1_2.out hT hdj1_3);have O2_3:=xN (T.ow_trn O2_2.out hT hdj2_3);have O3_3:=xN hno;clear hno;clear hT;have q3_0:w5.cell? ⟨g,k * 4,none⟩=some (.int .i64 ((j:Nat):Int)):=vG 0 HOW3.out hc1 rfl;have f3_0:=xC HOW3.out (k * 4);have q3_1:w5.cell? ⟨g,k * 4+1,none⟩=some ((.slice va1 vl1 vc1)):=vG 1 HOW3.out hc1 rfl;have f3_1:=xC HOW3.out (k * 4+1);have q3_2:w5.cell? ⟨g,k * 4+2,none⟩=some ((.slice va2 vl2 vc2)):=vG 2 HOW3.out hc1 rfl;have f3_2:=xC HOW3.out (k * 4+2);have q3_3:w5.cell? ⟨g,k * 4+3,none⟩=some ((.slice va3 vl3 vc3)):=vG 3 HOW3.out hc1 rfl;have f3_3:=xC HOW3.out (k * 4+3);go_wp2
    go_roundw
    case rel=>
     have hrec:(mkL xO.mkd xO.cnt (xs.take (k+1)) m++xs.drop (k+1)).map xO.t=(mkL xO.mkd xO.cnt (xs.take k) m).map xO.t++(xO.mkd x j).t :: (xs.drop (k+1)).map xO.t:=by rw[wNz HGK.out,←HJ.out];simp
     refine⟨k+1,j+xO.cnt x,by omega,by go_num,?_,by rw[vE HGK.out,HJ.out];omega,?_,?_⟩
     ·unfold xO.cnt;go_num
     ·rw[hrec];exact HMID.out.close (cx':= [.int .i64 ((j:Nat):Int),(.slice va1 vl1 vc1),(.slice va2 vl2 vc2),(.slice va3 vl3 vc3)]) (HTX3.out) (HOW3.out) (by simp only[xO.t,T.ow];exact xO.ow_mk (x:=xO.mkd x j) (O1_3.out) (O2_3.out) (O3_3.out)) (xO.wide_t _)
     ·exact HT.out.trans (Trn.mono (F:=g :: (F1++(F2++(F3++ [])))) (HTX3.out) (fun b hb=>by simp only[List.mem_cons,List.mem_append,List.not_mem_nil,or_false] at hb ⊢;rcases hb with h|h|h|h<;>simp[h]))
    case measure=>simp[intOf];omega
   ·obtain rfl:k=xs.length:=by omega
    go_wp2;go_ret
    rw[List.take_length] at ho hj;rw[List.drop_length,List.append_nil] at ho;exact⟨by rw[hj];rfl,ho,HT.out⟩
theorem c_markSendS (v:Value) (xs:List xV) (F:List Nat) (m:Nat) (w:World) (h0:0<m) (hm:m+wR xV.cnt xs≤4611686018427387904) (ho:T.ow w (T.sl 98 2 (xs.map xV.t)) F [v]) (hn:F.Nodup):
  Calls Tryz.prog 209 #[v,.int .i64 (m:Int)] w fun e w'=>e= .returned (.int .i64 ((m+wR xV.cnt xs:Nat):Int))∧T.ow w' (T.sl 98 2 ((mkL xV.mkd xV.cnt xs m).map xV.t)) F [v]∧Trn F w w':=by
 rcases Nat.eq_zero_or_pos xs.length with hz|hz
 ·obtain rfl:xs= []:=List.eq_nil_of_length_eq_zero hz
  obtain⟨A,cap,rfl⟩:=T.mid_empty ho;have HO:=xN ho;clear ho hz hm
  go_enter Tryz.func209,Tryz.ntmps209
  go_wp2;refine wp_loop_rounds 1 ?_;rw[rounds_succ];go_wp2;go_ret
  exact⟨by simp[wR],HO.out,Trn.refl _ _⟩
 ·obtain⟨g,cap,rfl,hl,hc⟩:=T.ow_form ho (by rw[List.length_map];exact hz)
  rw[List.length_map] at hl ⊢;have HO:=xN ho;clear ho
  go_enter Tryz.func209,Tryz.ntmps209
  go_wp2
  go_loopw [1,5] (fun t iv wr=> ∃ k j:Nat,k≤xs.length∧iv= .int .i64 (k:Int)∧t= .int .i64 (j:Int)∧j=m+wR xV.cnt (xs.take k)∧T.ow wr (.sl 98 2 ((mkL xV.mkd xV.cnt (xs.take k) m++xs.drop k).map xV.t)) F [.slice (some ⟨g,0,none⟩) xs.length cap]∧Trn F w wr) (fun _ iv _=>xs.length - (intOf iv).toNat)
  case atStart=>exact⟨0,m,Nat.zero_le _,rfl,rfl,by simp[wR],by have:=HO.out;rw[List.length_map] at this;simpa[mkL] using this,Trn.refl _ _⟩
  case round=>
   obtain⟨k,j,hk,rfl,rfl,hj,ho,ht⟩:=hrel;have HT:=xN ht;clear ht;by_cases hlt:k<xs.length
   ·have hgk:=gE hlt
    have hcl:=vE (c:=xV.cnt) hgk;have hle:=zPz (c:=xV.cnt) xs (k+1);have hdr:xs.drop k=xs[k] :: xs.drop (k+1):=List.drop_eq_getElem_cons hlt;rw[hdr,List.map_append,List.map_cons] at ho;generalize xs[k]=x at *;have HGK:=xN hgk;clear hgk hdr;obtain⟨n',g',cap',G1,Fx,G2,c1,cx,c2,hv,rfl,hmid⟩:=T.mid ho hn;obtain⟨rfl,rfl,rfl⟩:g=g'∧xs.length=n'∧cap=cap':=by simpa using hv
    have hc1:=hmid.c1;rw[List.length_map,uH,List.length_take,Nat.min_eq_left hk] at hc1;have HJ:=xN hj;have hxb:j+xV.cnt x≤4611686018427387904:=by omega
    have hj0:0<j:=by omega
    clear ho hv hcl hle hj
    obtain⟨hFx,hcx⟩:Fx= []∧cx= [.int .i64 x.yG,.int .i64 x.yB]:=by
     have:=hmid.el;simp only[xV.t,T.ow,xV.fs,T.ows_num,T.ows_str,T.ows_nil] at this;obtain⟨_,rfl,_,rfl,rfl,rfl⟩:=this;exact⟨rfl,rfl⟩
    subst hcx hFx;have hfx:=hmid.fx;have hgx:=hmid.gx;have HMID:=xN hmid;have HOW0:=xN hmid.own;have HTX0:=xN (Trn.refl (g :: ([])) wr);clear hmid;have q0_0:wr.cell? ⟨g,k * 2,none⟩=some (.int .i64 x.yG):=vG 0 HOW0.out hc1 rfl;have f0_0:=xC HOW0.out (k * 2);have q0_1:wr.cell? ⟨g,k * 2+1,none⟩=some (.int .i64 x.yB):=vG 1 HOW0.out hc1 rfl;have f0_1:=xC HOW0.out (k * 2+1);go_wp2
    go_roundw
    case rel=>
     have hrec:(mkL xV.mkd xV.cnt (xs.take (k+1)) m++xs.drop (k+1)).map xV.t=(mkL xV.mkd xV.cnt (xs.take k) m).map xV.t++(xV.mkd x j).t :: (xs.drop (k+1)).map xV.t:=by rw[wNz HGK.out,←HJ.out];simp
     refine⟨k+1,j+xV.cnt x,by omega,by go_num,?_,by rw[vE HGK.out,HJ.out];omega,?_,?_⟩
     ·unfold xV.cnt;go_num
     ·rw[hrec];exact HMID.out.close (cx':= [.int .i64 ((j:Nat):Int),.int .i64 ((j+1:Nat):Int)]) ((Trn.trans (Trn.trans HTX0.out (Trn.set_ (by simp) _ _)) (Trn.set_ (by simp) _ _))) ((xKz 1 (xKz 0 HOW0.out hc1 (by simp)) hc1 (by simp))) (by simp only[xV.t,T.ow];exact xV.ow_mk (x:=xV.mkd x j)) (xV.wide_t _)
     ·exact HT.out.trans (Trn.mono (F:=g :: ([])) ((Trn.trans (Trn.trans HTX0.out (Trn.set_ (by simp) _ _)) (Trn.set_ (by simp) _ _))) (fun b hb=>by simp at hb;simp[hb]))
    case measure=>simp[intOf];omega
   ·obtain rfl:k=xs.length:=by omega
    go_wp2;go_ret
    rw[List.take_length] at ho hj;rw[List.drop_length,List.append_nil] at ho;exact⟨by rw[hj];rfl,ho,HT.out⟩
theorem c_markStripS (v:Value) (xs:List xP) (F:List Nat) (m:Nat) (w:World) (h0:0<m) (hm:m+wR xP.cnt xs≤4611686018427387904) (ho:T.ow w (T.sl 101 3 (xs.map xP.t)) F [v]) (hn:F.Nodup):
  Calls Tryz.prog 145 #[v,.int .i64 (m:Int)] w fun e w'=>e= .returned (.int .i64 ((m+wR xP.cnt xs:Nat):Int))∧T.ow w' (T.sl 101 3 ((mkL xP.mkd xP.cnt xs m).map xP.t)) F [v]∧Trn F w w':=by
 rcases Nat.eq_zero_or_pos xs.length with hz|hz
 ·obtain rfl:xs= []:=List.eq_nil_of_length_eq_zero hz
  obtain⟨A,cap,rfl⟩:=T.mid_empty ho;have HO:=xN ho;clear ho hz hm
  go_enter Tryz.func145,Tryz.ntmps145
  go_wp2;refine wp_loop_rounds 1 ?_;rw[rounds_succ];go_wp2;go_ret
  exact⟨by simp[wR],HO.out,Trn.refl _ _⟩
 ·obtain⟨g,cap,rfl,hl,hc⟩:=T.ow_form ho (by rw[List.length_map];exact hz)
  rw[List.length_map] at hl ⊢;have HO:=xN ho;clear ho
  go_enter Tryz.func145,Tryz.ntmps145
  go_wp2
  go_loopw [1,5] (fun t iv wr=> ∃ k j:Nat,k≤xs.length∧iv= .int .i64 (k:Int)∧t= .int .i64 (j:Int)∧j=m+wR xP.cnt (xs.take k)∧T.ow wr (.sl 101 3 ((mkL xP.mkd xP.cnt (xs.take k) m++xs.drop k).map xP.t)) F [.slice (some ⟨g,0,none⟩) xs.length cap]∧Trn F w wr) (fun _ iv _=>xs.length - (intOf iv).toNat)
  case atStart=>exact⟨0,m,Nat.zero_le _,rfl,rfl,by simp[wR],by have:=HO.out;rw[List.length_map] at this;simpa[mkL] using this,Trn.refl _ _⟩
  case round=>
   obtain⟨k,j,hk,rfl,rfl,hj,ho,ht⟩:=hrel;have HT:=xN ht;clear ht;by_cases hlt:k<xs.length
   ·have hgk:=gE hlt
    have hcl:=vE (c:=xP.cnt) hgk;have hle:=zPz (c:=xP.cnt) xs (k+1);have hdr:xs.drop k=xs[k] :: xs.drop (k+1):=List.drop_eq_getElem_cons hlt;rw[hdr,List.map_append,List.map_cons] at ho;generalize xs[k]=x at *;have HGK:=xN hgk;clear hgk hdr;obtain⟨n',g',cap',G1,Fx,G2,c1,cx,c2,hv,rfl,hmid⟩:=T.mid ho hn;obtain⟨rfl,rfl,rfl⟩:g=g'∧xs.length=n'∧cap=cap':=by simpa using hv
    have hc1:=hmid.c1;rw[List.length_map,uH,List.length_take,Nat.min_eq_left hk] at hc1;have HJ:=xN hj;have hxb:j+xP.cnt x≤4611686018427387904:=by omega
    have hj0:0<j:=by omega
    clear ho hv hcl hle hj;obtain⟨v2,F2,hcx,hFx,ho2⟩:=xP.ow_open (show T.ows _ _ _ _ by simpa only[xP.t,T.ow] using hmid.el);subst hcx hFx;obtain⟨va2,vl2,vc2,rfl⟩:=T.xE ho2;have hfx:=hmid.fx;have hgx:=hmid.gx;have hnd2:=vM hfx;have hg2:g ∉ F2:=fun h=>hgx (by simp[h])
    have HMID:=xN hmid;have HOW0:=xN hmid.own;have HTX0:=xN (Trn.refl (g :: (F2++ [])) wr);have O2_0:=xN ho2;clear hmid ho2;have q0_0:wr.cell? ⟨g,k * 3,none⟩=some (.string x.yE):=vG 0 HOW0.out hc1 rfl;have f0_0:=xC HOW0.out (k * 3);have q0_1:wr.cell? ⟨g,k * 3+1,none⟩=some (.int .i64 x.zU):=vG 1 HOW0.out hc1 rfl;have f0_1:=xC HOW0.out (k * 3+1);have q0_2:wr.cell? ⟨g,k * 3+2,none⟩=some ((.slice va2 vl2 vc2)):=vG 2 HOW0.out hc1 rfl;have f0_2:=xC HOW0.out (k * 3+2);go_wp2_with fail
    refine(c_markText (j) _ zM (by unfold xP.cnt at hxb;omega)).mono ?_;rintro e w3 ⟨rfl,hb⟩;have hT:Trn [] _ _:=Trn.of_below hb;have HTX1:=xN (HTX0.out.trans (hT.mono (by simp)));have HOW1:=xN (wSz HOW0.out hT (by simp));have O2_1:=xN (T.ow_trn O2_0.out hT (by simp));clear hT hb;have q1_0:w3.cell? ⟨g,k * 3,none⟩=some (.string x.yE):=vG 0 HOW1.out hc1 rfl;have f1_0:=xC HOW1.out (k * 3);have q1_1:w3.cell? ⟨g,k * 3+1,none⟩=some (.int .i64 x.zU):=vG 1 HOW1.out hc1 rfl;have f1_1:=xC HOW1.out (k * 3+1);have q1_2:w3.cell? ⟨g,k * 3+2,none⟩=some ((.slice va2 vl2 vc2)):=vG 2 HOW1.out hc1 rfl;have f1_2:=xC HOW1.out (k * 3+2);go_wp2_with fail
    refine(c_markSendS _ x.zY F2 (j+2) _ zM (by unfold xP.cnt at hxb;omega) (T.ow_far (T.ow_far O2_1.out hg2 _ _) hg2 _ _) hnd2).mono ?_;rintro e w4 ⟨rfl,hno,hT⟩;have HTX2:=xN ((Trn.trans (Trn.trans HTX1.out (Trn.set_ (by simp) _ _)) (Trn.set_ (by simp) _ _)).trans (hT.mono (fun b hb=>by simp[hb])));have HOW2:=xN (wSz (xKz 1 (xKz 0 HOW1.out hc1 (by simp)) hc1 (by simp)) hT hg2);have O2_2:=xN hno;clear hno;clear hT;have q2_0:w4.cell? ⟨g,k * 3,none⟩=some (.string (mrkB (j))):=vG 0 HOW2.out hc1 rfl;have f2_0:=xC HOW2.out (k * 3);have q2_1:w4.cell? ⟨g,k * 3+1,none⟩=some (.int .i64 ((j+1:Nat):Int)):=vG 1 HOW2.out hc1 rfl;have f2_1:=xC HOW2.out (k * 3+1);have q2_2:w4.cell? ⟨g,k * 3+2,none⟩=some ((.slice va2 vl2 vc2)):=vG 2 HOW2.out hc1 rfl;have f2_2:=xC HOW2.out (k * 3+2);go_wp2
    go_roundw
    case rel=>
     have hrec:(mkL xP.mkd xP.cnt (xs.take (k+1)) m++xs.drop (k+1)).map xP.t=(mkL xP.mkd xP.cnt (xs.take k) m).map xP.t++(xP.mkd x j).t :: (xs.drop (k+1)).map xP.t:=by rw[wNz HGK.out,←HJ.out];simp
     refine⟨k+1,j+xP.cnt x,by omega,by go_num,?_,by rw[vE HGK.out,HJ.out];omega,?_,?_⟩
     ·unfold xP.cnt;go_num
     ·rw[hrec];exact HMID.out.close (cx':= [.string (mrkB (j)),.int .i64 ((j+1:Nat):Int),(.slice va2 vl2 vc2)]) (HTX2.out) (HOW2.out) (by simp only[xP.t,T.ow];exact xP.ow_mk (x:=xP.mkd x j) (O2_2.out)) (xP.wide_t _)
     ·exact HT.out.trans (Trn.mono (F:=g :: (F2++ [])) (HTX2.out) (fun b hb=>by simp only[List.mem_cons,List.mem_append,List.not_mem_nil,or_false] at hb ⊢;rcases hb with h|h<;>simp[h]))
    case measure=>simp[intOf];omega
   ·obtain rfl:k=xs.length:=by omega
    go_wp2;go_ret
    rw[List.take_length] at ho hj;rw[List.drop_length,List.append_nil] at ho;exact⟨by rw[hj];rfl,ho,HT.out⟩
end Go.Proofs.YtoibekfhepnedaaGreat
