/- Contract: the text of a mark. Contracts: nested data marked cell by cell. -/
import Derived.Test.YtoibekfhepnedaaGreatQAbExactMakeCache
import Derived.Test.YtoibekfhepnedaaGreatQAaExactMakeCache
import Derived.Test.YtoibekfhepnedaaGreatQAfExactMakeCache
set_option linter.unusedVariables false
set_option linter.unusedSimpArgs false
set_option maxHeartbeats 1000000
set_option maxRecDepth 20000
namespace Go.Proofs.YtoibekfhepnedaaGreat
section
open Go.RowKit
/-- The text of a mark. -/
def mrkB (k:Nat):ByteArray:=mkS (109 :: preD k)
theorem str_of0 {w:World} {v:Value} {bs:List UInt8} (h:RdY w v bs):(convert 22 9 v).run Tryz.prog w= .ok (.string (mkS bs)) w:=
 run_str Tryz.underlying22 Tryz.underlying5 Tryz.underlying9 h
theorem byte_cell (n:Nat) (h:n<256) (w:World):RdY (w.alloc (.cells #[.int .u8 (n:Int)] 5)) (.slice (some ⟨w.heap.size,0,none⟩) 1 1) [UInt8.ofNat n]:=by
 have e1:((UInt8.ofNat n).toNat:Int)=(n:Int):=by rw[UInt8.toNat_ofNat_of_lt' (by exact h)]
 have:=World.ownsRow_lit (base:=w.heap.size) (e:=5) (size:=1) w #[.int .u8 (n:Int)] 1 (Nat.le_refl _) (by decide) rfl
 refine OwY.rd (E:=5) (B:=w.heap.size) ?_
 unfold OwY
 simp only[List.length_cons,List.length_nil,List.map_cons,List.map_nil,e1]
 exact this
theorem c_markText (k:Nat) (w:World) (h0:0<k) (hk:k≤4611686018427387904):Calls Tryz.prog 208 #[.int .i64 (k:Int)] w fun e w'=>e= .returned (.string (mrkB k))∧Below w.heap.size w w':=by
 have hkk: ¬ (k:Int)≤0:=by omega
 go_enter Tryz.func208,Tryz.ntmps208
 go_wp2
 go_loopw [0,3] (fun kv o wr=> ∃ (m:Nat) (l:List UInt8),m≤k∧kv= .int .i64 (m:Int)∧o= .string (mkS l)∧preD k=preD m++l∧Below w.heap.size w wr) (fun kv _ _=>(intOf kv).toNat)
 case atStart=>exact⟨k,[],Nat.le_refl _,rfl,rfl,by simp,Below.refl _ _⟩
 case round=>
  obtain⟨m,l,hm,rfl,rfl,hp,hb⟩:=hrel
  have hll:(mkS l).size≤19:=by have h1:=congrArg List.length hp;have h2:=preD_len 19 k (by omega);rw[List.length_append] at h1;rw[size_mkS];omega
  have HP:=hide hp;have HB:=hide hb;clear hp hb
  by_cases hz:0<m
  ·have hmod:(m:Int) % 10=((m % 10:Nat):Int):=by omega
   have hdiv:(m:Int) / 10=((m / 10:Nat):Int):=by omega
   have hd:m % 10<10:=Nat.mod_lt _ (by omega)
   have HS:=hide (preD_step (u:=m) (by omega))
   generalize hdd:m % 10=d at *
   have hq:m / 10<m:=by omega
   generalize hqq:m / 10=q at *
   have hcv: ∀ W:World,(convert 22 9 (.slice (some ⟨W.heap.size,0,none⟩) 1 1)).run Tryz.prog (W.alloc (.cells #[.int .u8 (48+(d:Int))] 5))= .ok (.string (mkS [UInt8.ofNat (48+d)])) (W.alloc (.cells #[.int .u8 (48+(d:Int))] 5)):=fun W=>str_of0 (byte_cell (48+d) (by omega) W)
   have happ:mkS [UInt8.ofNat (48+d)]++mkS l=mkS ([UInt8.ofNat (48+d)]++l):=mkS_append _ _
   generalize hcc:UInt8.ofNat (48+d)=c at *
   have h1s:(mkS [c]).size=1:=size_mkS _
   have HA:=hide happ;clear happ hcc
   clear hdd hqq
   go_wp2
   go_roundw
   case rel=>exact⟨q,[c]++l,by omega,by go_num,by rw[HA.out],by rw[HP.out,HS.out];simp,HB.out.alloc HB.out.size _⟩
   case measure=>simp[intOf];omega
  ·have hl:preD k=l:=by have:=HP.out;rw[this,show m=0 by omega];simp[preD]
   have hz2: ¬ (0:Int)<(m:Int):=by omega
   have happ:mkS [109]++mkS l=mrkB k:=by rw[mkS_append,mrkB,hl];rfl
   have HA:=hide happ;clear happ
   have h1s:(⟨#[109]⟩:ByteArray).size=1:=rfl
   go_wp2
   go_ret
   exact⟨ret_str (by rw[←HA.out];rfl),HB.out⟩
end
section
open Go.RowKit
def xL.cnt (x:xL):Nat:=1+1+1+1+1
def xL.mkd (x:xL) (k:Nat):xL:= { zU:=((k:Nat):Int),zH:=((k+1:Nat):Int),zF:=((k+2:Nat):Int),zX:=((k+3:Nat):Int),zS:=((k+4:Nat):Int) }
def xI.cnt (x:xI):Nat:=wF xL.cnt x.zR
def xI.mkd (x:xI) (k:Nat):xI:= { zR:=mkL xL.mkd xL.cnt x.zR (k) }
def xJ.cnt (x:xJ):Nat:=1+1+1+x.zH.length
def xJ.mkd (x:xJ) (k:Nat):xJ:= { zD:=((k:Nat):Int),fA:=((k+1:Nat):Int),fB:=((k+2:Nat):Int),zH:=marks (k+3) x.zH.length }
def xG.cnt (x:xG):Nat:=1+wF List.length x.zN+wF xJ.cnt x.zB+x.zK.length
def xG.mkd (x:xG) (k:Nat):xG:= { zJ:=((k:Nat):Int),zN:=mkL (fun l k=>marks k l.length) List.length x.zN (k+1),zB:=mkL xJ.mkd xJ.cnt x.zB (k+1+wF List.length x.zN),zK:=marks (k+1+wF List.length x.zN+wF xJ.cnt x.zB) x.zK.length }
def xM.cnt (x:xM):Nat:=1+1
def xM.mkd (x:xM) (k:Nat):xM:= { zW:=((k:Nat):Int),zS:=((k+1:Nat):Int) }
def xH.cnt (x:xH):Nat:=1+1+wF xM.cnt x.zM
def xH.mkd (x:xH) (k:Nat):xH:= { zV:=mrkB (k),zI:=((k+1:Nat):Int),zM:=mkL xM.mkd xM.cnt x.zM (k+2) }
def xU.cntv (x:xU):Nat:=wF xH.cnt x.zC
def xU.mkv (x:xU) (k:Nat):xU:= { zC:=mkL xH.mkd xH.cnt x.zC (k) }
def xK.cntv (x:xK):Nat:=wF List.length x.zL+wF xI.cnt x.zO+x.zQ.length+wF xG.cnt x.zP+x.zG.cntv
def xK.mkv (x:xK) (k:Nat):xK:= { zF:=x.zF,zL:=mkL (fun l k=>marks k l.length) List.length x.zL (k),zO:=mkL xI.mkd xI.cnt x.zO (k+wF List.length x.zL),zQ:=marks (k+wF List.length x.zL+wF xI.cnt x.zO) x.zQ.length,zP:=mkL xG.mkd xG.cnt x.zP (k+wF List.length x.zL+wF xI.cnt x.zO+x.zQ.length),zG:=x.zG.mkv (k+wF List.length x.zL+wF xI.cnt x.zO+x.zQ.length+wF xG.cnt x.zP) }
def wS.cntv (x:wS):Nat:=x.zT.cntv+x.zZ.length+x.zY.length
def wS.mkv (x:wS) (k:Nat):wS:= { zT:=x.zT.mkv (k),zZ:=marks (k+x.zT.cntv) x.zZ.length,zY:=marks (k+x.zT.cntv+x.zZ.length) x.zY.length }
theorem c_markI (v:Value) (xs:List Int) (F:List Nat) (m:Nat) (w:World) (h0:0<m) (hm:m+xs.length≤4611686018427387904) (ho:T.ow w (T.ints 2 xs) F [v]) (hn:F.Nodup):
  Calls Tryz.prog 79 #[v,.int .i64 (m:Int)] w fun e w'=>e= .returned (.int .i64 ((m+xs.length:Nat):Int))∧T.ow w' (T.ints 2 (marks m xs.length)) F [v]∧Trn F w w':=by
 obtain⟨h1,rfl⟩:=T.ow_ints.1 ho
 exact(c_markInt64S _ 0 v xs m w h1 hm).mono fun e w' ⟨a,b,c⟩=>⟨a,T.ow_ints.2 ⟨b,rfl⟩,Trn.of_grown c⟩
theorem c_markInt64SS (v:Value) (xs:List (List Int)) (F:List Nat) (m:Nat) (w:World) (h0:0<m) (hm:m+wF List.length xs≤4611686018427387904) (ho:T.ow w (T.sl 26 1 (xs.map (T.ints 2))) F [v]) (hn:F.Nodup):
  Calls Tryz.prog 77 #[v,.int .i64 (m:Int)] w fun e w'=>e= .returned (.int .i64 ((m+wF List.length xs:Nat):Int))∧T.ow w' (T.sl 26 1 ((mkL (fun l k=>marks k l.length) List.length xs m).map (T.ints 2))) F [v]∧Trn F w w':=by
 rcases Nat.eq_zero_or_pos xs.length with hz|hz
 ·obtain rfl:xs= []:=List.eq_nil_of_length_eq_zero hz
  obtain⟨A,cap,rfl⟩:=T.mid_empty ho
  have HO:=hide ho;clear ho hz hm
  go_enter Tryz.func77,Tryz.ntmps77
  go_wp2
  refine wp_loop_rounds 1 ?_
  rw[rounds_succ]
  go_wp2
  go_ret
  exact⟨by simp[wF],HO.out,Trn.refl _ _⟩
 ·obtain⟨g,cap,rfl,hl,hc⟩:=T.ow_form ho (by rw[List.length_map];exact hz)
  rw[List.length_map] at hl ⊢
  have HO:=hide ho;clear ho
  go_enter Tryz.func77,Tryz.ntmps77
  go_wp2
  go_loopw [1,5] (fun t iv wr=> ∃ k j:Nat,k≤xs.length∧iv= .int .i64 (k:Int)∧t= .int .i64 (j:Int)∧j=m+wF List.length (xs.take k)∧T.ow wr (.sl 26 1 ((mkL (fun l k=>marks k l.length) List.length (xs.take k) m++xs.drop k).map (T.ints 2))) F [.slice (some ⟨g,0,none⟩) xs.length cap]∧Trn F w wr) (fun _ iv _=>xs.length - (intOf iv).toNat)
  case atStart=>exact⟨0,m,Nat.zero_le _,rfl,rfl,by simp[wF],by have:=HO.out;rw[List.length_map] at this;simpa[mkL] using this,Trn.refl _ _⟩
  case round=>
   obtain⟨k,j,hk,rfl,rfl,hj,ho,ht⟩:=hrel
   have HT:=hide ht;clear ht
   by_cases hlt:k<xs.length
   ·have hgk:=gE hlt
    have hcl:=wP (c:=List.length) hgk
    have hle:=uX (c:=List.length) xs (k+1)
    have hdr:xs.drop k=xs[k] :: xs.drop (k+1):=List.drop_eq_getElem_cons hlt
    rw[hdr,List.map_append,List.map_cons] at ho
    generalize xs[k]=x at *
    have HGK:=hide hgk;clear hgk hdr
    obtain⟨n',g',cap',G1,Fx,G2,c1,cx,c2,hv,rfl,hmid⟩:=T.mid ho hn
    obtain⟨rfl,rfl,rfl⟩:g=g'∧xs.length=n'∧cap=cap':=by simpa using hv
    have hc1:=hmid.c1
    rw[List.length_map,vK,List.length_take,Nat.min_eq_left hk,Nat.mul_one] at hc1
    have HJ:=hide hj
    have hxb:j+List.length x≤4611686018427387904:=by omega
    have hj0:0<j:=by omega
    clear ho hv hcl hle hj
    obtain⟨v0,hcx⟩:=T.rd_one (T.ow_rd _ _ _ hmid.el)
    subst hcx
    have ho0:=hmid.el
    have hfx:=hmid.fx
    have hgx:=hmid.gx
    obtain⟨va0,vl0,vc0,rfl⟩:=T.yX ho0
    have hnd0:=hfx
    have hg0:g ∉ Fx:=fun h=>hgx (by simp[h])
    have HMID:=hide hmid;have HOW0:=hide hmid.own;have HTX0:=hide (Trn.refl (g :: (Fx)) wr)
    have O0_0:=hide ho0
    clear hmid ho0
    have q0_0:wr.cell? ⟨g,k,none⟩=some ((.slice va0 vl0 vc0)):=wT 0 HOW0.out hc1 rfl
    have f0_0:=yU HOW0.out (k)
    go_wp2_with fail
    refine(c_markI _ x Fx (j) _ (by omega) (by omega) O0_0.out hnd0).mono ?_;rintro e w3 ⟨rfl,hno,hT⟩
    have HTX1:=hide (HTX0.out.trans (hT.mono (fun b hb=>by simp[hb])))
    have HOW1:=hide (own_trn HOW0.out hT hg0)
    have O0_1:=hide hno
    clear hno
    clear hT
    have q1_0:w3.cell? ⟨g,k,none⟩=some ((.slice va0 vl0 vc0)):=wT 0 HOW1.out hc1 rfl
    have f1_0:=yU HOW1.out (k)
    go_wp2
    go_roundw
    case rel=>
     have hrec:(mkL (fun l k=>marks k l.length) List.length (xs.take (k+1)) m++xs.drop (k+1)).map (T.ints 2)=(mkL (fun l k=>marks k l.length) List.length (xs.take k) m).map (T.ints 2)++T.ints 2 (marks j x.length) :: (xs.drop (k+1)).map (T.ints 2):=by rw[mkL_take HGK.out,←HJ.out];simp
     refine⟨k+1,j+x.length,by omega,by go_num,?_,by rw[wP HGK.out,HJ.out];omega,?_,?_⟩
     ·rfl
     ·rw[hrec];exact HMID.out.close HTX1.out HOW1.out O0_1.out rfl
     ·exact HT.out.trans (Trn.mono (F:=g :: (Fx)) (HTX1.out) (fun b hb=>by simp only[List.mem_cons,List.mem_append,List.not_mem_nil,or_false] at hb ⊢;rcases hb with h|h<;>simp[h]))
    case measure=>simp[intOf];omega
   ·obtain rfl:k=xs.length:=by omega
    go_wp2
    go_ret
    rw[List.take_length] at ho hj
    rw[List.drop_length,List.append_nil] at ho
    exact⟨by rw[hj];rfl,ho,HT.out⟩
theorem c_markClipS (v:Value) (xs:List xL) (F:List Nat) (m:Nat) (w:World) (h0:0<m) (hm:m+wF xL.cnt xs≤4611686018427387904) (ho:T.ow w (T.sl 39 5 (xs.map xL.t)) F [v]) (hn:F.Nodup):
  Calls Tryz.prog 143 #[v,.int .i64 (m:Int)] w fun e w'=>e= .returned (.int .i64 ((m+wF xL.cnt xs:Nat):Int))∧T.ow w' (T.sl 39 5 ((mkL xL.mkd xL.cnt xs m).map xL.t)) F [v]∧Trn F w w':=by
 rcases Nat.eq_zero_or_pos xs.length with hz|hz
 ·obtain rfl:xs= []:=List.eq_nil_of_length_eq_zero hz
  obtain⟨A,cap,rfl⟩:=T.mid_empty ho
  have HO:=hide ho;clear ho hz hm
  go_enter Tryz.func143,Tryz.ntmps143
  go_wp2
  refine wp_loop_rounds 1 ?_
  rw[rounds_succ]
  go_wp2
  go_ret
  exact⟨by simp[wF],HO.out,Trn.refl _ _⟩
 ·obtain⟨g,cap,rfl,hl,hc⟩:=T.ow_form ho (by rw[List.length_map];exact hz)
  rw[List.length_map] at hl ⊢
  have HO:=hide ho;clear ho
  go_enter Tryz.func143,Tryz.ntmps143
  go_wp2
  go_loopw [1,5] (fun t iv wr=> ∃ k j:Nat,k≤xs.length∧iv= .int .i64 (k:Int)∧t= .int .i64 (j:Int)∧j=m+wF xL.cnt (xs.take k)∧T.ow wr (.sl 39 5 ((mkL xL.mkd xL.cnt (xs.take k) m++xs.drop k).map xL.t)) F [.slice (some ⟨g,0,none⟩) xs.length cap]∧Trn F w wr) (fun _ iv _=>xs.length - (intOf iv).toNat)
  case atStart=>exact⟨0,m,Nat.zero_le _,rfl,rfl,by simp[wF],by have:=HO.out;rw[List.length_map] at this;simpa[mkL] using this,Trn.refl _ _⟩
  case round=>
   obtain⟨k,j,hk,rfl,rfl,hj,ho,ht⟩:=hrel
   have HT:=hide ht;clear ht
   by_cases hlt:k<xs.length
   ·have hgk:=gE hlt
    have hcl:=wP (c:=xL.cnt) hgk
    have hle:=uX (c:=xL.cnt) xs (k+1)
    have hdr:xs.drop k=xs[k] :: xs.drop (k+1):=List.drop_eq_getElem_cons hlt
    rw[hdr,List.map_append,List.map_cons] at ho
    generalize xs[k]=x at *
    have HGK:=hide hgk;clear hgk hdr
    obtain⟨n',g',cap',G1,Fx,G2,c1,cx,c2,hv,rfl,hmid⟩:=T.mid ho hn
    obtain⟨rfl,rfl,rfl⟩:g=g'∧xs.length=n'∧cap=cap':=by simpa using hv
    have hc1:=hmid.c1
    rw[List.length_map,vK,List.length_take,Nat.min_eq_left hk] at hc1
    have HJ:=hide hj
    have hxb:j+xL.cnt x≤4611686018427387904:=by omega
    have hj0:0<j:=by omega
    clear ho hv hcl hle hj
    obtain⟨hFx,hcx⟩:Fx= []∧cx= [.int .i64 x.zU,.int .i64 x.zH,.int .i64 x.zF,.int .i64 x.zX,.int .i64 x.zS]:=by
     have:=hmid.el
     simp only[xL.t,T.ow,xL.fs,T.ows_num,T.ows_str,T.ows_nil] at this
     obtain⟨_,rfl,_,rfl,_,rfl,_,rfl,_,rfl,rfl,rfl⟩:=this
     exact⟨rfl,rfl⟩
    subst hcx hFx
    have hfx:=hmid.fx
    have hgx:=hmid.gx
    have HMID:=hide hmid;have HOW0:=hide hmid.own;have HTX0:=hide (Trn.refl (g :: ([])) wr)
    clear hmid
    have q0_0:wr.cell? ⟨g,k * 5,none⟩=some (.int .i64 x.zU):=wT 0 HOW0.out hc1 rfl
    have f0_0:=yU HOW0.out (k * 5)
    have q0_1:wr.cell? ⟨g,k * 5+1,none⟩=some (.int .i64 x.zH):=wT 1 HOW0.out hc1 rfl
    have f0_1:=yU HOW0.out (k * 5+1)
    have q0_2:wr.cell? ⟨g,k * 5+2,none⟩=some (.int .i64 x.zF):=wT 2 HOW0.out hc1 rfl
    have f0_2:=yU HOW0.out (k * 5+2)
    have q0_3:wr.cell? ⟨g,k * 5+3,none⟩=some (.int .i64 x.zX):=wT 3 HOW0.out hc1 rfl
    have f0_3:=yU HOW0.out (k * 5+3)
    have q0_4:wr.cell? ⟨g,k * 5+4,none⟩=some (.int .i64 x.zS):=wT 4 HOW0.out hc1 rfl
    have f0_4:=yU HOW0.out (k * 5+4)
    go_wp2
    go_roundw
    case rel=>
     have hrec:(mkL xL.mkd xL.cnt (xs.take (k+1)) m++xs.drop (k+1)).map xL.t=(mkL xL.mkd xL.cnt (xs.take k) m).map xL.t++(xL.mkd x j).t :: (xs.drop (k+1)).map xL.t:=by rw[mkL_take HGK.out,←HJ.out];simp
     refine⟨k+1,j+xL.cnt x,by omega,by go_num,?_,by rw[wP HGK.out,HJ.out];omega,?_,?_⟩
     ·unfold xL.cnt;go_num
     ·rw[hrec];exact HMID.out.close (cx':= [.int .i64 ((j:Nat):Int),.int .i64 ((j+1:Nat):Int),.int .i64 ((j+2:Nat):Int),.int .i64 ((j+3:Nat):Int),.int .i64 ((j+4:Nat):Int)]) ((Trn.trans (Trn.trans (Trn.trans (Trn.trans (Trn.trans HTX0.out (Trn.set_ (by simp) _ _)) (Trn.set_ (by simp) _ _)) (Trn.set_ (by simp) _ _)) (Trn.set_ (by simp) _ _)) (Trn.set_ (by simp) _ _))) ((own_st 4 (own_st 3 (own_st 2 (own_st 1 (own_st 0 HOW0.out hc1 (by simp)) hc1 (by simp)) hc1 (by simp)) hc1 (by simp)) hc1 (by simp))) (by simp only[xL.t,T.ow];exact xL.ow_mk (x:=xL.mkd x j)) (xL.wide_t _)
     ·exact HT.out.trans (Trn.mono (F:=g :: ([])) ((Trn.trans (Trn.trans (Trn.trans (Trn.trans (Trn.trans HTX0.out (Trn.set_ (by simp) _ _)) (Trn.set_ (by simp) _ _)) (Trn.set_ (by simp) _ _)) (Trn.set_ (by simp) _ _)) (Trn.set_ (by simp) _ _))) (fun b hb=>by simp at hb;simp[hb]))
    case measure=>simp[intOf];omega
   ·obtain rfl:k=xs.length:=by omega
    go_wp2
    go_ret
    rw[List.take_length] at ho hj
    rw[List.drop_length,List.append_nil] at ho
    exact⟨by rw[hj];rfl,ho,HT.out⟩
theorem c_markTrackS (v:Value) (xs:List xI) (F:List Nat) (m:Nat) (w:World) (h0:0<m) (hm:m+wF xI.cnt xs≤4611686018427387904) (ho:T.ow w (T.sl 96 1 (xs.map xI.t)) F [v]) (hn:F.Nodup):
  Calls Tryz.prog 78 #[v,.int .i64 (m:Int)] w fun e w'=>e= .returned (.int .i64 ((m+wF xI.cnt xs:Nat):Int))∧T.ow w' (T.sl 96 1 ((mkL xI.mkd xI.cnt xs m).map xI.t)) F [v]∧Trn F w w':=by
 rcases Nat.eq_zero_or_pos xs.length with hz|hz
 ·obtain rfl:xs= []:=List.eq_nil_of_length_eq_zero hz
  obtain⟨A,cap,rfl⟩:=T.mid_empty ho
  have HO:=hide ho;clear ho hz hm
  go_enter Tryz.func78,Tryz.ntmps78
  go_wp2
  refine wp_loop_rounds 1 ?_
  rw[rounds_succ]
  go_wp2
  go_ret
  exact⟨by simp[wF],HO.out,Trn.refl _ _⟩
 ·obtain⟨g,cap,rfl,hl,hc⟩:=T.ow_form ho (by rw[List.length_map];exact hz)
  rw[List.length_map] at hl ⊢
  have HO:=hide ho;clear ho
  go_enter Tryz.func78,Tryz.ntmps78
  go_wp2
  go_loopw [1,5] (fun t iv wr=> ∃ k j:Nat,k≤xs.length∧iv= .int .i64 (k:Int)∧t= .int .i64 (j:Int)∧j=m+wF xI.cnt (xs.take k)∧T.ow wr (.sl 96 1 ((mkL xI.mkd xI.cnt (xs.take k) m++xs.drop k).map xI.t)) F [.slice (some ⟨g,0,none⟩) xs.length cap]∧Trn F w wr) (fun _ iv _=>xs.length - (intOf iv).toNat)
  case atStart=>exact⟨0,m,Nat.zero_le _,rfl,rfl,by simp[wF],by have:=HO.out;rw[List.length_map] at this;simpa[mkL] using this,Trn.refl _ _⟩
  case round=>
   obtain⟨k,j,hk,rfl,rfl,hj,ho,ht⟩:=hrel
   have HT:=hide ht;clear ht
   by_cases hlt:k<xs.length
   ·have hgk:=gE hlt
    have hcl:=wP (c:=xI.cnt) hgk
    have hle:=uX (c:=xI.cnt) xs (k+1)
    have hdr:xs.drop k=xs[k] :: xs.drop (k+1):=List.drop_eq_getElem_cons hlt
    rw[hdr,List.map_append,List.map_cons] at ho
    generalize xs[k]=x at *
    have HGK:=hide hgk;clear hgk hdr
    obtain⟨n',g',cap',G1,Fx,G2,c1,cx,c2,hv,rfl,hmid⟩:=T.mid ho hn
    obtain⟨rfl,rfl,rfl⟩:g=g'∧xs.length=n'∧cap=cap':=by simpa using hv
    have hc1:=hmid.c1
    rw[List.length_map,vK,List.length_take,Nat.min_eq_left hk,Nat.mul_one] at hc1
    have HJ:=hide hj
    have hxb:j+xI.cnt x≤4611686018427387904:=by omega
    have hj0:0<j:=by omega
    clear ho hv hcl hle hj
    obtain⟨v0,F0,hcx,hFx,ho0⟩:=xI.ow_open (show T.ows _ _ _ _ by simpa only[xI.t,T.ow] using hmid.el)
    subst hcx hFx
    obtain⟨va0,vl0,vc0,rfl⟩:=T.yX ho0
    have hfx:=hmid.fx
    have hgx:=hmid.gx
    have hnd0:=wY hfx
    have hg0:g ∉ F0:=fun h=>hgx (by simp[h])
    have HMID:=hide hmid;have HOW0:=hide hmid.own;have HTX0:=hide (Trn.refl (g :: (F0++ [])) wr)
    have O0_0:=hide ho0
    clear hmid ho0
    have q0_0:wr.cell? ⟨g,k,none⟩=some ((.slice va0 vl0 vc0)):=wT 0 HOW0.out hc1 rfl
    have f0_0:=yU HOW0.out (k)
    go_wp2_with fail
    refine(c_markClipS _ x.zR F0 (j) _ (by omega) (by unfold xI.cnt at hxb;omega) O0_0.out hnd0).mono ?_;rintro e w3 ⟨rfl,hno,hT⟩
    have HTX1:=hide (HTX0.out.trans (hT.mono (fun b hb=>by simp[hb])))
    have HOW1:=hide (own_trn HOW0.out hT hg0)
    have O0_1:=hide hno
    clear hno
    clear hT
    have q1_0:w3.cell? ⟨g,k,none⟩=some ((.slice va0 vl0 vc0)):=wT 0 HOW1.out hc1 rfl
    have f1_0:=yU HOW1.out (k)
    go_wp2
    go_roundw
    case rel=>
     have hrec:(mkL xI.mkd xI.cnt (xs.take (k+1)) m++xs.drop (k+1)).map xI.t=(mkL xI.mkd xI.cnt (xs.take k) m).map xI.t++(xI.mkd x j).t :: (xs.drop (k+1)).map xI.t:=by rw[mkL_take HGK.out,←HJ.out];simp
     refine⟨k+1,j+xI.cnt x,by omega,by go_num,?_,by rw[wP HGK.out,HJ.out];omega,?_,?_⟩
     ·unfold xI.cnt;go_num
     ·rw[hrec];exact HMID.out.close (cx':= [(.slice va0 vl0 vc0)]) (HTX1.out) (HOW1.out) (by simp only[xI.t,T.ow];exact xI.ow_mk (x:=xI.mkd x j) (O0_1.out)) (xI.wide_t _)
     ·exact HT.out.trans (Trn.mono (F:=g :: (F0++ [])) (HTX1.out) (fun b hb=>by simp only[List.mem_cons,List.mem_append,List.not_mem_nil,or_false] at hb ⊢;rcases hb with h|h<;>simp[h]))
    case measure=>simp[intOf];omega
   ·obtain rfl:k=xs.length:=by omega
    go_wp2
    go_ret
    rw[List.take_length] at ho hj
    rw[List.drop_length,List.append_nil] at ho
    exact⟨by rw[hj];rfl,ho,HT.out⟩
theorem c_markNodeS (v:Value) (xs:List xJ) (F:List Nat) (m:Nat) (w:World) (h0:0<m) (hm:m+wF xJ.cnt xs≤4611686018427387904) (ho:T.ow w (T.sl 167 4 (xs.map xJ.t)) F [v]) (hn:F.Nodup):
  Calls Tryz.prog 144 #[v,.int .i64 (m:Int)] w fun e w'=>e= .returned (.int .i64 ((m+wF xJ.cnt xs:Nat):Int))∧T.ow w' (T.sl 167 4 ((mkL xJ.mkd xJ.cnt xs m).map xJ.t)) F [v]∧Trn F w w':=by
 rcases Nat.eq_zero_or_pos xs.length with hz|hz
 ·obtain rfl:xs= []:=List.eq_nil_of_length_eq_zero hz
  obtain⟨A,cap,rfl⟩:=T.mid_empty ho
  have HO:=hide ho;clear ho hz hm
  go_enter Tryz.func144,Tryz.ntmps144
  go_wp2
  refine wp_loop_rounds 1 ?_
  rw[rounds_succ]
  go_wp2
  go_ret
  exact⟨by simp[wF],HO.out,Trn.refl _ _⟩
 ·obtain⟨g,cap,rfl,hl,hc⟩:=T.ow_form ho (by rw[List.length_map];exact hz)
  rw[List.length_map] at hl ⊢
  have HO:=hide ho;clear ho
  go_enter Tryz.func144,Tryz.ntmps144
  go_wp2
  go_loopw [1,5] (fun t iv wr=> ∃ k j:Nat,k≤xs.length∧iv= .int .i64 (k:Int)∧t= .int .i64 (j:Int)∧j=m+wF xJ.cnt (xs.take k)∧T.ow wr (.sl 167 4 ((mkL xJ.mkd xJ.cnt (xs.take k) m++xs.drop k).map xJ.t)) F [.slice (some ⟨g,0,none⟩) xs.length cap]∧Trn F w wr) (fun _ iv _=>xs.length - (intOf iv).toNat)
  case atStart=>exact⟨0,m,Nat.zero_le _,rfl,rfl,by simp[wF],by have:=HO.out;rw[List.length_map] at this;simpa[mkL] using this,Trn.refl _ _⟩
  case round=>
   obtain⟨k,j,hk,rfl,rfl,hj,ho,ht⟩:=hrel
   have HT:=hide ht;clear ht
   by_cases hlt:k<xs.length
   ·have hgk:=gE hlt
    have hcl:=wP (c:=xJ.cnt) hgk
    have hle:=uX (c:=xJ.cnt) xs (k+1)
    have hdr:xs.drop k=xs[k] :: xs.drop (k+1):=List.drop_eq_getElem_cons hlt
    rw[hdr,List.map_append,List.map_cons] at ho
    generalize xs[k]=x at *
    have HGK:=hide hgk;clear hgk hdr
    obtain⟨n',g',cap',G1,Fx,G2,c1,cx,c2,hv,rfl,hmid⟩:=T.mid ho hn
    obtain⟨rfl,rfl,rfl⟩:g=g'∧xs.length=n'∧cap=cap':=by simpa using hv
    have hc1:=hmid.c1
    rw[List.length_map,vK,List.length_take,Nat.min_eq_left hk] at hc1
    have HJ:=hide hj
    have hxb:j+xJ.cnt x≤4611686018427387904:=by omega
    have hj0:0<j:=by omega
    clear ho hv hcl hle hj
    obtain⟨v3,F3,hcx,hFx,ho3⟩:=xJ.ow_open (show T.ows _ _ _ _ by simpa only[xJ.t,T.ow] using hmid.el)
    subst hcx hFx
    obtain⟨va3,vl3,vc3,rfl⟩:=T.yX ho3
    have hfx:=hmid.fx
    have hgx:=hmid.gx
    have hnd3:=wY hfx
    have hg3:g ∉ F3:=fun h=>hgx (by simp[h])
    have HMID:=hide hmid;have HOW0:=hide hmid.own;have HTX0:=hide (Trn.refl (g :: (F3++ [])) wr)
    have O3_0:=hide ho3
    clear hmid ho3
    have q0_0:wr.cell? ⟨g,k * 4,none⟩=some (.int .i64 x.zD):=wT 0 HOW0.out hc1 rfl
    have f0_0:=yU HOW0.out (k * 4)
    have q0_1:wr.cell? ⟨g,k * 4+1,none⟩=some (.int .i64 x.fA):=wT 1 HOW0.out hc1 rfl
    have f0_1:=yU HOW0.out (k * 4+1)
    have q0_2:wr.cell? ⟨g,k * 4+2,none⟩=some (.int .i64 x.fB):=wT 2 HOW0.out hc1 rfl
    have f0_2:=yU HOW0.out (k * 4+2)
    have q0_3:wr.cell? ⟨g,k * 4+3,none⟩=some ((.slice va3 vl3 vc3)):=wT 3 HOW0.out hc1 rfl
    have f0_3:=yU HOW0.out (k * 4+3)
    go_wp2_with fail
    refine(c_markI _ x.zH F3 (j+3) _ (by omega) (by unfold xJ.cnt at hxb;omega) (T.ow_far (T.ow_far (T.ow_far O3_0.out hg3 _ _) hg3 _ _) hg3 _ _) hnd3).mono ?_;rintro e w3 ⟨rfl,hno,hT⟩
    have HTX1:=hide ((Trn.trans (Trn.trans (Trn.trans HTX0.out (Trn.set_ (by simp) _ _)) (Trn.set_ (by simp) _ _)) (Trn.set_ (by simp) _ _)).trans (hT.mono (fun b hb=>by simp[hb])))
    have HOW1:=hide (own_trn (own_st 2 (own_st 1 (own_st 0 HOW0.out hc1 (by simp)) hc1 (by simp)) hc1 (by simp)) hT hg3)
    have O3_1:=hide hno
    clear hno
    clear hT
    have q1_0:w3.cell? ⟨g,k * 4,none⟩=some (.int .i64 ((j:Nat):Int)):=wT 0 HOW1.out hc1 rfl
    have f1_0:=yU HOW1.out (k * 4)
    have q1_1:w3.cell? ⟨g,k * 4+1,none⟩=some (.int .i64 ((j+1:Nat):Int)):=wT 1 HOW1.out hc1 rfl
    have f1_1:=yU HOW1.out (k * 4+1)
    have q1_2:w3.cell? ⟨g,k * 4+2,none⟩=some (.int .i64 ((j+2:Nat):Int)):=wT 2 HOW1.out hc1 rfl
    have f1_2:=yU HOW1.out (k * 4+2)
    have q1_3:w3.cell? ⟨g,k * 4+3,none⟩=some ((.slice va3 vl3 vc3)):=wT 3 HOW1.out hc1 rfl
    have f1_3:=yU HOW1.out (k * 4+3)
    go_wp2
    go_roundw
    case rel=>
     have hrec:(mkL xJ.mkd xJ.cnt (xs.take (k+1)) m++xs.drop (k+1)).map xJ.t=(mkL xJ.mkd xJ.cnt (xs.take k) m).map xJ.t++(xJ.mkd x j).t :: (xs.drop (k+1)).map xJ.t:=by rw[mkL_take HGK.out,←HJ.out];simp
     refine⟨k+1,j+xJ.cnt x,by omega,by go_num,?_,by rw[wP HGK.out,HJ.out];omega,?_,?_⟩
     ·unfold xJ.cnt;go_num
     ·rw[hrec];exact HMID.out.close (cx':= [.int .i64 ((j:Nat):Int),.int .i64 ((j+1:Nat):Int),.int .i64 ((j+2:Nat):Int),(.slice va3 vl3 vc3)]) (HTX1.out) (HOW1.out) (by simp only[xJ.t,T.ow];exact xJ.ow_mk (x:=xJ.mkd x j) (O3_1.out)) (xJ.wide_t _)
     ·exact HT.out.trans (Trn.mono (F:=g :: (F3++ [])) (HTX1.out) (fun b hb=>by simp only[List.mem_cons,List.mem_append,List.not_mem_nil,or_false] at hb ⊢;rcases hb with h|h<;>simp[h]))
    case measure=>simp[intOf];omega
   ·obtain rfl:k=xs.length:=by omega
    go_wp2
    go_ret
    rw[List.take_length] at ho hj
    rw[List.drop_length,List.append_nil] at ho
    exact⟨by rw[hj];rfl,ho,HT.out⟩
theorem c_markPatchS (v:Value) (xs:List xG) (F:List Nat) (m:Nat) (w:World) (h0:0<m) (hm:m+wF xG.cnt xs≤4611686018427387904) (ho:T.ow w (T.sl 108 4 (xs.map xG.t)) F [v]) (hn:F.Nodup):
  Calls Tryz.prog 80 #[v,.int .i64 (m:Int)] w fun e w'=>e= .returned (.int .i64 ((m+wF xG.cnt xs:Nat):Int))∧T.ow w' (T.sl 108 4 ((mkL xG.mkd xG.cnt xs m).map xG.t)) F [v]∧Trn F w w':=by
 rcases Nat.eq_zero_or_pos xs.length with hz|hz
 ·obtain rfl:xs= []:=List.eq_nil_of_length_eq_zero hz
  obtain⟨A,cap,rfl⟩:=T.mid_empty ho
  have HO:=hide ho;clear ho hz hm
  go_enter Tryz.func80,Tryz.ntmps80
  go_wp2
  refine wp_loop_rounds 1 ?_
  rw[rounds_succ]
  go_wp2
  go_ret
  exact⟨by simp[wF],HO.out,Trn.refl _ _⟩
 ·obtain⟨g,cap,rfl,hl,hc⟩:=T.ow_form ho (by rw[List.length_map];exact hz)
  rw[List.length_map] at hl ⊢
  have HO:=hide ho;clear ho
  go_enter Tryz.func80,Tryz.ntmps80
  go_wp2
  go_loopw [1,5] (fun t iv wr=> ∃ k j:Nat,k≤xs.length∧iv= .int .i64 (k:Int)∧t= .int .i64 (j:Int)∧j=m+wF xG.cnt (xs.take k)∧T.ow wr (.sl 108 4 ((mkL xG.mkd xG.cnt (xs.take k) m++xs.drop k).map xG.t)) F [.slice (some ⟨g,0,none⟩) xs.length cap]∧Trn F w wr) (fun _ iv _=>xs.length - (intOf iv).toNat)
  case atStart=>exact⟨0,m,Nat.zero_le _,rfl,rfl,by simp[wF],by have:=HO.out;rw[List.length_map] at this;simpa[mkL] using this,Trn.refl _ _⟩
  case round=>
   obtain⟨k,j,hk,rfl,rfl,hj,ho,ht⟩:=hrel
   have HT:=hide ht;clear ht
   by_cases hlt:k<xs.length
   ·have hgk:=gE hlt
    have hcl:=wP (c:=xG.cnt) hgk
    have hle:=uX (c:=xG.cnt) xs (k+1)
    have hdr:xs.drop k=xs[k] :: xs.drop (k+1):=List.drop_eq_getElem_cons hlt
    rw[hdr,List.map_append,List.map_cons] at ho
    generalize xs[k]=x at *
    have HGK:=hide hgk;clear hgk hdr
    obtain⟨n',g',cap',G1,Fx,G2,c1,cx,c2,hv,rfl,hmid⟩:=T.mid ho hn
    obtain⟨rfl,rfl,rfl⟩:g=g'∧xs.length=n'∧cap=cap':=by simpa using hv
    have hc1:=hmid.c1
    rw[List.length_map,vK,List.length_take,Nat.min_eq_left hk] at hc1
    have HJ:=hide hj
    have hxb:j+xG.cnt x≤4611686018427387904:=by omega
    have hj0:0<j:=by omega
    clear ho hv hcl hle hj
    obtain⟨v1,v2,v3,F1,F2,F3,hcx,hFx,ho1,ho2,ho3⟩:=xG.ow_open (show T.ows _ _ _ _ by simpa only[xG.t,T.ow] using hmid.el)
    subst hcx hFx
    obtain⟨va1,vl1,vc1,rfl⟩:=T.yX ho1
    obtain⟨va2,vl2,vc2,rfl⟩:=T.yX ho2
    obtain⟨va3,vl3,vc3,rfl⟩:=T.yX ho3
    have hfx:=hmid.fx
    have hgx:=hmid.gx
    have hnd1:=wY hfx
    have hdj1_2: ∀ b ∈ F1,b ∉ F2:=fun b h1 h2=>wI hfx b h1 (by simp[h2])
    have hdj2_1: ∀ b ∈ F2,b ∉ F1:=fun b h1 h2=>hdj1_2 b h2 h1
    have hdj1_3: ∀ b ∈ F1,b ∉ F3:=fun b h1 h2=>wI hfx b h1 (by simp[h2])
    have hdj3_1: ∀ b ∈ F3,b ∉ F1:=fun b h1 h2=>hdj1_3 b h2 h1
    have hnd2:=wY (yQ hfx)
    have hdj2_3: ∀ b ∈ F2,b ∉ F3:=fun b h1 h2=>wI (yQ hfx) b h1 (by simp[h2])
    have hdj3_2: ∀ b ∈ F3,b ∉ F2:=fun b h1 h2=>hdj2_3 b h2 h1
    have hnd3:=wY (yQ (yQ hfx))
    have hg1:g ∉ F1:=fun h=>hgx (by simp[h])
    have hg2:g ∉ F2:=fun h=>hgx (by simp[h])
    have hg3:g ∉ F3:=fun h=>hgx (by simp[h])
    have HMID:=hide hmid;have HOW0:=hide hmid.own;have HTX0:=hide (Trn.refl (g :: (F1++(F2++(F3++ [])))) wr)
    have O1_0:=hide ho1
    have O2_0:=hide ho2
    have O3_0:=hide ho3
    clear hmid ho1 ho2 ho3
    have q0_0:wr.cell? ⟨g,k * 4,none⟩=some (.int .i64 x.zJ):=wT 0 HOW0.out hc1 rfl
    have f0_0:=yU HOW0.out (k * 4)
    have q0_1:wr.cell? ⟨g,k * 4+1,none⟩=some ((.slice va1 vl1 vc1)):=wT 1 HOW0.out hc1 rfl
    have f0_1:=yU HOW0.out (k * 4+1)
    have q0_2:wr.cell? ⟨g,k * 4+2,none⟩=some ((.slice va2 vl2 vc2)):=wT 2 HOW0.out hc1 rfl
    have f0_2:=yU HOW0.out (k * 4+2)
    have q0_3:wr.cell? ⟨g,k * 4+3,none⟩=some ((.slice va3 vl3 vc3)):=wT 3 HOW0.out hc1 rfl
    have f0_3:=yU HOW0.out (k * 4+3)
    go_wp2_with fail
    refine(c_markInt64SS _ x.zN F1 (j+1) _ (by omega) (by unfold xG.cnt at hxb;omega) (T.ow_far O1_0.out hg1 _ _) hnd1).mono ?_;rintro e w3 ⟨rfl,hno,hT⟩
    have HTX1:=hide ((Trn.trans HTX0.out (Trn.set_ (by simp) _ _)).trans (hT.mono (fun b hb=>by simp[hb])))
    have HOW1:=hide (own_trn (own_st 0 HOW0.out hc1 (by simp)) hT hg1)
    have O1_1:=hide hno
    have O2_1:=hide (T.ow_trn (T.ow_far O2_0.out hg2 _ _) hT hdj2_1)
    have O3_1:=hide (T.ow_trn (T.ow_far O3_0.out hg3 _ _) hT hdj3_1)
    clear hno
    clear hT
    have q1_0:w3.cell? ⟨g,k * 4,none⟩=some (.int .i64 ((j:Nat):Int)):=wT 0 HOW1.out hc1 rfl
    have f1_0:=yU HOW1.out (k * 4)
    have q1_1:w3.cell? ⟨g,k * 4+1,none⟩=some ((.slice va1 vl1 vc1)):=wT 1 HOW1.out hc1 rfl
    have f1_1:=yU HOW1.out (k * 4+1)
    have q1_2:w3.cell? ⟨g,k * 4+2,none⟩=some ((.slice va2 vl2 vc2)):=wT 2 HOW1.out hc1 rfl
    have f1_2:=yU HOW1.out (k * 4+2)
    have q1_3:w3.cell? ⟨g,k * 4+3,none⟩=some ((.slice va3 vl3 vc3)):=wT 3 HOW1.out hc1 rfl
    have f1_3:=yU HOW1.out (k * 4+3)
    go_wp2_with fail
    refine(c_markNodeS _ x.zB F2 (j+1+wF List.length x.zN) _ (by omega) (by unfold xG.cnt at hxb;omega) O2_1.out hnd2).mono ?_;rintro e w4 ⟨rfl,hno,hT⟩
    have HTX2:=hide (HTX1.out.trans (hT.mono (fun b hb=>by simp[hb])))
    have HOW2:=hide (own_trn HOW1.out hT hg2)
    have O1_2:=hide (T.ow_trn O1_1.out hT hdj1_2)
    have O2_2:=hide hno
    have O3_2:=hide (T.ow_trn O3_1.out hT hdj3_2)
    clear hno
    clear hT
    have q2_0:w4.cell? ⟨g,k * 4,none⟩=some (.int .i64 ((j:Nat):Int)):=wT 0 HOW2.out hc1 rfl
    have f2_0:=yU HOW2.out (k * 4)
    have q2_1:w4.cell? ⟨g,k * 4+1,none⟩=some ((.slice va1 vl1 vc1)):=wT 1 HOW2.out hc1 rfl
    have f2_1:=yU HOW2.out (k * 4+1)
    have q2_2:w4.cell? ⟨g,k * 4+2,none⟩=some ((.slice va2 vl2 vc2)):=wT 2 HOW2.out hc1 rfl
    have f2_2:=yU HOW2.out (k * 4+2)
    have q2_3:w4.cell? ⟨g,k * 4+3,none⟩=some ((.slice va3 vl3 vc3)):=wT 3 HOW2.out hc1 rfl
    have f2_3:=yU HOW2.out (k * 4+3)
    go_wp2_with fail
    refine(c_markI _ x.zK F3 (j+1+wF List.length x.zN+wF xJ.cnt x.zB) _ (by omega) (by unfold xG.cnt at hxb;omega) O3_2.out hnd3).mono ?_;rintro e w5 ⟨rfl,hno,hT⟩
    have HTX3:=hide (HTX2.out.trans (hT.mono (fun b hb=>by simp[hb])))
    have HOW3:=hide (own_trn HOW2.out hT hg3)
    have O1_3:=hide (T.ow_trn O1_2.out hT hdj1_3)
    have O2_3:=hide (T.ow_trn O2_2.out hT hdj2_3)
    have O3_3:=hide hno
    clear hno
    clear hT
    have q3_0:w5.cell? ⟨g,k * 4,none⟩=some (.int .i64 ((j:Nat):Int)):=wT 0 HOW3.out hc1 rfl
    have f3_0:=yU HOW3.out (k * 4)
    have q3_1:w5.cell? ⟨g,k * 4+1,none⟩=some ((.slice va1 vl1 vc1)):=wT 1 HOW3.out hc1 rfl
    have f3_1:=yU HOW3.out (k * 4+1)
    have q3_2:w5.cell? ⟨g,k * 4+2,none⟩=some ((.slice va2 vl2 vc2)):=wT 2 HOW3.out hc1 rfl
    have f3_2:=yU HOW3.out (k * 4+2)
    have q3_3:w5.cell? ⟨g,k * 4+3,none⟩=some ((.slice va3 vl3 vc3)):=wT 3 HOW3.out hc1 rfl
    have f3_3:=yU HOW3.out (k * 4+3)
    go_wp2
    go_roundw
    case rel=>
     have hrec:(mkL xG.mkd xG.cnt (xs.take (k+1)) m++xs.drop (k+1)).map xG.t=(mkL xG.mkd xG.cnt (xs.take k) m).map xG.t++(xG.mkd x j).t :: (xs.drop (k+1)).map xG.t:=by rw[mkL_take HGK.out,←HJ.out];simp
     refine⟨k+1,j+xG.cnt x,by omega,by go_num,?_,by rw[wP HGK.out,HJ.out];omega,?_,?_⟩
     ·unfold xG.cnt;go_num
     ·rw[hrec];exact HMID.out.close (cx':= [.int .i64 ((j:Nat):Int),(.slice va1 vl1 vc1),(.slice va2 vl2 vc2),(.slice va3 vl3 vc3)]) (HTX3.out) (HOW3.out) (by simp only[xG.t,T.ow];exact xG.ow_mk (x:=xG.mkd x j) (O1_3.out) (O2_3.out) (O3_3.out)) (xG.wide_t _)
     ·exact HT.out.trans (Trn.mono (F:=g :: (F1++(F2++(F3++ [])))) (HTX3.out) (fun b hb=>by simp only[List.mem_cons,List.mem_append,List.not_mem_nil,or_false] at hb ⊢;rcases hb with h|h|h|h<;>simp[h]))
    case measure=>simp[intOf];omega
   ·obtain rfl:k=xs.length:=by omega
    go_wp2
    go_ret
    rw[List.take_length] at ho hj
    rw[List.drop_length,List.append_nil] at ho
    exact⟨by rw[hj];rfl,ho,HT.out⟩
theorem c_markSendS (v:Value) (xs:List xM) (F:List Nat) (m:Nat) (w:World) (h0:0<m) (hm:m+wF xM.cnt xs≤4611686018427387904) (ho:T.ow w (T.sl 98 2 (xs.map xM.t)) F [v]) (hn:F.Nodup):
  Calls Tryz.prog 209 #[v,.int .i64 (m:Int)] w fun e w'=>e= .returned (.int .i64 ((m+wF xM.cnt xs:Nat):Int))∧T.ow w' (T.sl 98 2 ((mkL xM.mkd xM.cnt xs m).map xM.t)) F [v]∧Trn F w w':=by
 rcases Nat.eq_zero_or_pos xs.length with hz|hz
 ·obtain rfl:xs= []:=List.eq_nil_of_length_eq_zero hz
  obtain⟨A,cap,rfl⟩:=T.mid_empty ho
  have HO:=hide ho;clear ho hz hm
  go_enter Tryz.func209,Tryz.ntmps209
  go_wp2
  refine wp_loop_rounds 1 ?_
  rw[rounds_succ]
  go_wp2
  go_ret
  exact⟨by simp[wF],HO.out,Trn.refl _ _⟩
 ·obtain⟨g,cap,rfl,hl,hc⟩:=T.ow_form ho (by rw[List.length_map];exact hz)
  rw[List.length_map] at hl ⊢
  have HO:=hide ho;clear ho
  go_enter Tryz.func209,Tryz.ntmps209
  go_wp2
  go_loopw [1,5] (fun t iv wr=> ∃ k j:Nat,k≤xs.length∧iv= .int .i64 (k:Int)∧t= .int .i64 (j:Int)∧j=m+wF xM.cnt (xs.take k)∧T.ow wr (.sl 98 2 ((mkL xM.mkd xM.cnt (xs.take k) m++xs.drop k).map xM.t)) F [.slice (some ⟨g,0,none⟩) xs.length cap]∧Trn F w wr) (fun _ iv _=>xs.length - (intOf iv).toNat)
  case atStart=>exact⟨0,m,Nat.zero_le _,rfl,rfl,by simp[wF],by have:=HO.out;rw[List.length_map] at this;simpa[mkL] using this,Trn.refl _ _⟩
  case round=>
   obtain⟨k,j,hk,rfl,rfl,hj,ho,ht⟩:=hrel
   have HT:=hide ht;clear ht
   by_cases hlt:k<xs.length
   ·have hgk:=gE hlt
    have hcl:=wP (c:=xM.cnt) hgk
    have hle:=uX (c:=xM.cnt) xs (k+1)
    have hdr:xs.drop k=xs[k] :: xs.drop (k+1):=List.drop_eq_getElem_cons hlt
    rw[hdr,List.map_append,List.map_cons] at ho
    generalize xs[k]=x at *
    have HGK:=hide hgk;clear hgk hdr
    obtain⟨n',g',cap',G1,Fx,G2,c1,cx,c2,hv,rfl,hmid⟩:=T.mid ho hn
    obtain⟨rfl,rfl,rfl⟩:g=g'∧xs.length=n'∧cap=cap':=by simpa using hv
    have hc1:=hmid.c1
    rw[List.length_map,vK,List.length_take,Nat.min_eq_left hk] at hc1
    have HJ:=hide hj
    have hxb:j+xM.cnt x≤4611686018427387904:=by omega
    have hj0:0<j:=by omega
    clear ho hv hcl hle hj
    obtain⟨hFx,hcx⟩:Fx= []∧cx= [.int .i64 x.zW,.int .i64 x.zS]:=by
     have:=hmid.el
     simp only[xM.t,T.ow,xM.fs,T.ows_num,T.ows_str,T.ows_nil] at this
     obtain⟨_,rfl,_,rfl,rfl,rfl⟩:=this
     exact⟨rfl,rfl⟩
    subst hcx hFx
    have hfx:=hmid.fx
    have hgx:=hmid.gx
    have HMID:=hide hmid;have HOW0:=hide hmid.own;have HTX0:=hide (Trn.refl (g :: ([])) wr)
    clear hmid
    have q0_0:wr.cell? ⟨g,k * 2,none⟩=some (.int .i64 x.zW):=wT 0 HOW0.out hc1 rfl
    have f0_0:=yU HOW0.out (k * 2)
    have q0_1:wr.cell? ⟨g,k * 2+1,none⟩=some (.int .i64 x.zS):=wT 1 HOW0.out hc1 rfl
    have f0_1:=yU HOW0.out (k * 2+1)
    go_wp2
    go_roundw
    case rel=>
     have hrec:(mkL xM.mkd xM.cnt (xs.take (k+1)) m++xs.drop (k+1)).map xM.t=(mkL xM.mkd xM.cnt (xs.take k) m).map xM.t++(xM.mkd x j).t :: (xs.drop (k+1)).map xM.t:=by rw[mkL_take HGK.out,←HJ.out];simp
     refine⟨k+1,j+xM.cnt x,by omega,by go_num,?_,by rw[wP HGK.out,HJ.out];omega,?_,?_⟩
     ·unfold xM.cnt;go_num
     ·rw[hrec];exact HMID.out.close (cx':= [.int .i64 ((j:Nat):Int),.int .i64 ((j+1:Nat):Int)]) ((Trn.trans (Trn.trans HTX0.out (Trn.set_ (by simp) _ _)) (Trn.set_ (by simp) _ _))) ((own_st 1 (own_st 0 HOW0.out hc1 (by simp)) hc1 (by simp))) (by simp only[xM.t,T.ow];exact xM.ow_mk (x:=xM.mkd x j)) (xM.wide_t _)
     ·exact HT.out.trans (Trn.mono (F:=g :: ([])) ((Trn.trans (Trn.trans HTX0.out (Trn.set_ (by simp) _ _)) (Trn.set_ (by simp) _ _))) (fun b hb=>by simp at hb;simp[hb]))
    case measure=>simp[intOf];omega
   ·obtain rfl:k=xs.length:=by omega
    go_wp2
    go_ret
    rw[List.take_length] at ho hj
    rw[List.drop_length,List.append_nil] at ho
    exact⟨by rw[hj];rfl,ho,HT.out⟩
theorem c_markStripS (v:Value) (xs:List xH) (F:List Nat) (m:Nat) (w:World) (h0:0<m) (hm:m+wF xH.cnt xs≤4611686018427387904) (ho:T.ow w (T.sl 101 3 (xs.map xH.t)) F [v]) (hn:F.Nodup):
  Calls Tryz.prog 145 #[v,.int .i64 (m:Int)] w fun e w'=>e= .returned (.int .i64 ((m+wF xH.cnt xs:Nat):Int))∧T.ow w' (T.sl 101 3 ((mkL xH.mkd xH.cnt xs m).map xH.t)) F [v]∧Trn F w w':=by
 rcases Nat.eq_zero_or_pos xs.length with hz|hz
 ·obtain rfl:xs= []:=List.eq_nil_of_length_eq_zero hz
  obtain⟨A,cap,rfl⟩:=T.mid_empty ho
  have HO:=hide ho;clear ho hz hm
  go_enter Tryz.func145,Tryz.ntmps145
  go_wp2
  refine wp_loop_rounds 1 ?_
  rw[rounds_succ]
  go_wp2
  go_ret
  exact⟨by simp[wF],HO.out,Trn.refl _ _⟩
 ·obtain⟨g,cap,rfl,hl,hc⟩:=T.ow_form ho (by rw[List.length_map];exact hz)
  rw[List.length_map] at hl ⊢
  have HO:=hide ho;clear ho
  go_enter Tryz.func145,Tryz.ntmps145
  go_wp2
  go_loopw [1,5] (fun t iv wr=> ∃ k j:Nat,k≤xs.length∧iv= .int .i64 (k:Int)∧t= .int .i64 (j:Int)∧j=m+wF xH.cnt (xs.take k)∧T.ow wr (.sl 101 3 ((mkL xH.mkd xH.cnt (xs.take k) m++xs.drop k).map xH.t)) F [.slice (some ⟨g,0,none⟩) xs.length cap]∧Trn F w wr) (fun _ iv _=>xs.length - (intOf iv).toNat)
  case atStart=>exact⟨0,m,Nat.zero_le _,rfl,rfl,by simp[wF],by have:=HO.out;rw[List.length_map] at this;simpa[mkL] using this,Trn.refl _ _⟩
  case round=>
   obtain⟨k,j,hk,rfl,rfl,hj,ho,ht⟩:=hrel
   have HT:=hide ht;clear ht
   by_cases hlt:k<xs.length
   ·have hgk:=gE hlt
    have hcl:=wP (c:=xH.cnt) hgk
    have hle:=uX (c:=xH.cnt) xs (k+1)
    have hdr:xs.drop k=xs[k] :: xs.drop (k+1):=List.drop_eq_getElem_cons hlt
    rw[hdr,List.map_append,List.map_cons] at ho
    generalize xs[k]=x at *
    have HGK:=hide hgk;clear hgk hdr
    obtain⟨n',g',cap',G1,Fx,G2,c1,cx,c2,hv,rfl,hmid⟩:=T.mid ho hn
    obtain⟨rfl,rfl,rfl⟩:g=g'∧xs.length=n'∧cap=cap':=by simpa using hv
    have hc1:=hmid.c1
    rw[List.length_map,vK,List.length_take,Nat.min_eq_left hk] at hc1
    have HJ:=hide hj
    have hxb:j+xH.cnt x≤4611686018427387904:=by omega
    have hj0:0<j:=by omega
    clear ho hv hcl hle hj
    obtain⟨v2,F2,hcx,hFx,ho2⟩:=xH.ow_open (show T.ows _ _ _ _ by simpa only[xH.t,T.ow] using hmid.el)
    subst hcx hFx
    obtain⟨va2,vl2,vc2,rfl⟩:=T.yX ho2
    have hfx:=hmid.fx
    have hgx:=hmid.gx
    have hnd2:=wY hfx
    have hg2:g ∉ F2:=fun h=>hgx (by simp[h])
    have HMID:=hide hmid;have HOW0:=hide hmid.own;have HTX0:=hide (Trn.refl (g :: (F2++ [])) wr)
    have O2_0:=hide ho2
    clear hmid ho2
    have q0_0:wr.cell? ⟨g,k * 3,none⟩=some (.string x.zV):=wT 0 HOW0.out hc1 rfl
    have f0_0:=yU HOW0.out (k * 3)
    have q0_1:wr.cell? ⟨g,k * 3+1,none⟩=some (.int .i64 x.zI):=wT 1 HOW0.out hc1 rfl
    have f0_1:=yU HOW0.out (k * 3+1)
    have q0_2:wr.cell? ⟨g,k * 3+2,none⟩=some ((.slice va2 vl2 vc2)):=wT 2 HOW0.out hc1 rfl
    have f0_2:=yU HOW0.out (k * 3+2)
    go_wp2_with fail
    refine(c_markText (j) _ (by omega) (by unfold xH.cnt at hxb;omega)).mono ?_;rintro e w3 ⟨rfl,hb⟩
    have hT:Trn [] _ _:=Trn.of_below hb
    have HTX1:=hide (HTX0.out.trans (hT.mono (by simp)))
    have HOW1:=hide (own_trn HOW0.out hT (by simp))
    have O2_1:=hide (T.ow_trn O2_0.out hT (by simp))
    clear hT hb
    have q1_0:w3.cell? ⟨g,k * 3,none⟩=some (.string x.zV):=wT 0 HOW1.out hc1 rfl
    have f1_0:=yU HOW1.out (k * 3)
    have q1_1:w3.cell? ⟨g,k * 3+1,none⟩=some (.int .i64 x.zI):=wT 1 HOW1.out hc1 rfl
    have f1_1:=yU HOW1.out (k * 3+1)
    have q1_2:w3.cell? ⟨g,k * 3+2,none⟩=some ((.slice va2 vl2 vc2)):=wT 2 HOW1.out hc1 rfl
    have f1_2:=yU HOW1.out (k * 3+2)
    go_wp2_with fail
    refine(c_markSendS _ x.zM F2 (j+2) _ (by omega) (by unfold xH.cnt at hxb;omega) (T.ow_far (T.ow_far O2_1.out hg2 _ _) hg2 _ _) hnd2).mono ?_;rintro e w4 ⟨rfl,hno,hT⟩
    have HTX2:=hide ((Trn.trans (Trn.trans HTX1.out (Trn.set_ (by simp) _ _)) (Trn.set_ (by simp) _ _)).trans (hT.mono (fun b hb=>by simp[hb])))
    have HOW2:=hide (own_trn (own_st 1 (own_st 0 HOW1.out hc1 (by simp)) hc1 (by simp)) hT hg2)
    have O2_2:=hide hno
    clear hno
    clear hT
    have q2_0:w4.cell? ⟨g,k * 3,none⟩=some (.string (mrkB (j))):=wT 0 HOW2.out hc1 rfl
    have f2_0:=yU HOW2.out (k * 3)
    have q2_1:w4.cell? ⟨g,k * 3+1,none⟩=some (.int .i64 ((j+1:Nat):Int)):=wT 1 HOW2.out hc1 rfl
    have f2_1:=yU HOW2.out (k * 3+1)
    have q2_2:w4.cell? ⟨g,k * 3+2,none⟩=some ((.slice va2 vl2 vc2)):=wT 2 HOW2.out hc1 rfl
    have f2_2:=yU HOW2.out (k * 3+2)
    go_wp2
    go_roundw
    case rel=>
     have hrec:(mkL xH.mkd xH.cnt (xs.take (k+1)) m++xs.drop (k+1)).map xH.t=(mkL xH.mkd xH.cnt (xs.take k) m).map xH.t++(xH.mkd x j).t :: (xs.drop (k+1)).map xH.t:=by rw[mkL_take HGK.out,←HJ.out];simp
     refine⟨k+1,j+xH.cnt x,by omega,by go_num,?_,by rw[wP HGK.out,HJ.out];omega,?_,?_⟩
     ·unfold xH.cnt;go_num
     ·rw[hrec];exact HMID.out.close (cx':= [.string (mrkB (j)),.int .i64 ((j+1:Nat):Int),(.slice va2 vl2 vc2)]) (HTX2.out) (HOW2.out) (by simp only[xH.t,T.ow];exact xH.ow_mk (x:=xH.mkd x j) (O2_2.out)) (xH.wide_t _)
     ·exact HT.out.trans (Trn.mono (F:=g :: (F2++ [])) (HTX2.out) (fun b hb=>by simp only[List.mem_cons,List.mem_append,List.not_mem_nil,or_false] at hb ⊢;rcases hb with h|h<;>simp[h]))
    case measure=>simp[intOf];omega
   ·obtain rfl:k=xs.length:=by omega
    go_wp2
    go_ret
    rw[List.take_length] at ho hj
    rw[List.drop_length,List.append_nil] at ho
    exact⟨by rw[hj];rfl,ho,HT.out⟩
end
end Go.Proofs.YtoibekfhepnedaaGreat
