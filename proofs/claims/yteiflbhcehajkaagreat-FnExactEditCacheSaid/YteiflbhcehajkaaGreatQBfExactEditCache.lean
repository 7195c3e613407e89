/- Contract: l31Fields. Arguments: a slice of structs that came in reads as a list. No program is named here. Arguments that are structs of slices of structs read as nested data. No program is named here. -/
import Derived.Test.YteiflbhcehajkaaGreatQAxExactEditCache
import Derived.Test.YteiflbhcehajkaaGreatQAjExactEditCache
import Derived.Test.YteiflbhcehajkaaGreatQAaExactEditCache
import Derived.Deep.Slices
import Derived.ChangeSame
import Derived.ChangeArms
import Derived.Test.YteiflbhcehajkaaGreatQAbExactEditCache
set_option linter.unusedVariables false
set_option linter.unusedSimpArgs false
set_option maxHeartbeats 4000000
set_option maxRecDepth 20000
section
namespace Go.Proofs.YteiflbhcehajkaaGreat
open Go.RowKit
theorem c_l31Fields (x:GEdit) (b o:Nat) (w:World) (h:T.at w x.fs b o):Calls Tryz.prog 161 #[.pointer (some ⟨b,o,none⟩)] w fun e w'=>e= .returned (.bool (tf (FieldsOk x)))∧Below w.heap.size w w':=by
 have HAT:=hide h
 obtain⟨hlt0,cs,hr,hc⟩:=h
 obtain rfl:=GEdit.yL hr
 clear hr
 have HL:=hide hlt0;have HCC:=hide hc;have HB0:=hide (Below.refl w.heap.size w);clear hlt0 hc
 have HATN:=hide (show T.at w x.zP.fs b (o+4) from T.at_sub [.int .i64 x.zC,.int .i64 x.zV,.int .i64 x.zZ,.int .i64 x.zY] [.int .i64 x.zP.zO,.int .i64 x.zP.zI,.int .i64 x.zP.zA,.int .i64 x.zP.zW,.int .i64 x.zP.zQ] [] HL.out HCC.out GClip.rd_mk)
 have p0:w.cell? ⟨b,o,none⟩=some (.int .i64 x.zC):=(HB0.out.cell HL.out).trans (HCC.out 0 _ rfl)
 have p1:w.cell? ⟨b,o+1,none⟩=some (.int .i64 x.zV):=(HB0.out.cell HL.out).trans (HCC.out 1 _ rfl)
 have p2:w.cell? ⟨b,o+2,none⟩=some (.int .i64 x.zZ):=(HB0.out.cell HL.out).trans (HCC.out 2 _ rfl)
 have p3:w.cell? ⟨b,o+3,none⟩=some (.int .i64 x.zY):=(HB0.out.cell HL.out).trans (HCC.out 3 _ rfl)
 have p4:w.cell? ⟨b,o+4,none⟩=some (.int .i64 x.zP.zO):=(HB0.out.cell HL.out).trans (HCC.out 4 _ rfl)
 have p5:w.cell? ⟨b,o+5,none⟩=some (.int .i64 x.zP.zI):=(HB0.out.cell HL.out).trans (HCC.out 5 _ rfl)
 have p6:w.cell? ⟨b,o+6,none⟩=some (.int .i64 x.zP.zA):=(HB0.out.cell HL.out).trans (HCC.out 6 _ rfl)
 have p7:w.cell? ⟨b,o+7,none⟩=some (.int .i64 x.zP.zW):=(HB0.out.cell HL.out).trans (HCC.out 7 _ rfl)
 have p8:w.cell? ⟨b,o+8,none⟩=some (.int .i64 x.zP.zQ):=(HB0.out.cell HL.out).trans (HCC.out 8 _ rfl)
 have lb:b<w.heap.size:=Nat.lt_of_lt_of_le HL.out HB0.out.size
 have heq: ∀ w,(Op.equalIn 10000 60 (.agg #[.int .i64 x.zP.zO,.int .i64 x.zP.zI,.int .i64 x.zP.zA,.int .i64 x.zP.zW,.int .i64 x.zP.zQ]) (.agg #[.int .i64 0,.int .i64 0,.int .i64 0,.int .i64 0,.int .i64 0])).run Tryz.prog w= .ok (decide (x.zP=noClip)) w:=eq_Clip 9998 x.zP noClip
 have hgd:=eqg_Clip
 have BN:=hide (@fieldsB_new x);have BR:=hide (@fieldsB_rem x);have BF:=hide (@fieldsB_feed x);have BS:=hide (@fieldsB_send x);have B0:=hide (@fieldsB_none x)
 generalize hne:decide (x.zP=noClip)=ne at *;clear hne
 generalize hco:tf (ClipOk x.zP)=co at *;have HCO:=hide hco;clear hco
 have HB1:=hide (show Below w.heap.size w (w.alloc (.cells #[.int .i64 0,.int .i64 0,.int .i64 0,.int .i64 0,.int .i64 0] 60)) from(Below.refl _ _).alloc (Nat.le_refl _) _);have HN:=hide (Bk.born w 60 #[.int .i64 0,.int .i64 0,.int .i64 0,.int .i64 0,.int .i64 0])
 go_enter Tryz.func161,Tryz.ntmps161
 by_cases k1:x.zC=1
 ·
  have q1:(x.zC == 1)=true:=yP k1
  have HE:=hide (BN.out (.inl k1));clear k1
  by_cases z:x.zY=0
  ·
   have hz:(x.zY == 0)=true:=yP z
   have HZ:=hide (decide_eq_true z);clear z
   go_wp2_with (go_at_call 206;refine(c_l23Clip x.zP b (o+4) _ (T.at_below HATN.out HB1.out)).mono ?_;rintro e w2 ⟨rfl,hb2⟩;rw[HCO.out];have HB2:=hide (yG HB1.out HB1.out.size hb2);clear hb2)
   go_ret
   exact⟨yF (by rw[HE.out,HZ.out];rfl),HB2.out⟩
  have hz:(x.zY == 0)=false:=yO z
  have HZ:=hide (decide_eq_false z);clear z
  go_wp2
  go_ret
  exact⟨yF (by rw[HE.out,HZ.out];rfl),HB1.out⟩
 have q1:(x.zC == 1)=false:=yO k1
 by_cases k3:x.zC=3
 ·
  have q3:(x.zC == 3)=true:=yP k3
  have HE:=hide (BN.out (.inr k3));clear k3
  by_cases z:x.zY=0
  ·
   have hz:(x.zY == 0)=true:=yP z
   have HZ:=hide (decide_eq_true z);clear z
   go_wp2_with (go_at_call 206;refine(c_l23Clip x.zP b (o+4) _ (T.at_below HATN.out HB1.out)).mono ?_;rintro e w2 ⟨rfl,hb2⟩;rw[HCO.out];have HB2:=hide (yG HB1.out HB1.out.size hb2);clear hb2)
   go_ret
   exact⟨yF (by rw[HE.out,HZ.out];rfl),HB2.out⟩
  have hz:(x.zY == 0)=false:=yO z
  have HZ:=hide (decide_eq_false z);clear z
  go_wp2
  go_ret
  exact⟨yF (by rw[HE.out,HZ.out];rfl),HB1.out⟩
 have q3:(x.zC == 3)=false:=yO k3
 by_cases k2:x.zC=2
 ·
  have q2:(x.zC == 2)=true:=yP k2
  have HE:=hide (BR.out k2);clear k2
  by_cases z:x.zY=0
  ·
   have hz:(x.zY == 0)=true:=yP z
   have HZ:=hide (decide_eq_true z);clear z
   go_wp2
   generalize (w.alloc (.cells #[.int .i64 0,.int .i64 0,.int .i64 0,.int .i64 0,.int .i64 0] 60))=W at *
   have g0:=yD ((HB1.out.cell HL.out).trans p0)
   have g1:=yD ((HB1.out.cell HL.out).trans p1)
   have g2:=yD ((HB1.out.cell HL.out).trans p2)
   have g3:=yD ((HB1.out.cell HL.out).trans p3)
   have g4:=yD ((HB1.out.cell HL.out).trans p4)
   have g5:=yD ((HB1.out.cell HL.out).trans p5)
   have g6:=yD ((HB1.out.cell HL.out).trans p6)
   have g7:=yD ((HB1.out.cell HL.out).trans p7)
   have g8:=yD ((HB1.out.cell HL.out).trans p8)
   have g9:=xA HN.out
   refine yZ (by kernel_rfl) (by kernel_rfl) ?_
   repeat(first|go_big_quiet_skip|(go_big_quiet_want;go_big_quiet_op;first|go_big_quiet_on|(apply Exists.intro;refine⟨fun _=>?_,?_⟩;(· (fail));go_big_quiet_on)))
   refine wpQuiet_nil ?_
   rintro w9 ⟨uu,rfl⟩
   have hb9:=yE W uu
   generalize bel W uu=w9 at *
   have HB9:=hide (yG HB1.out HB1.out.size hb9);clear hb9 g0 g1 g2 g3 g4 g5 g6 g7 g8 g9
   go_wp2
   go_ret
   exact⟨yF (by rw[HE.out,HZ.out];rfl),HB9.out⟩
  have hz:(x.zY == 0)=false:=yO z
  have HZ:=hide (decide_eq_false z);clear z
  go_wp2
  generalize (w.alloc (.cells #[.int .i64 0,.int .i64 0,.int .i64 0,.int .i64 0,.int .i64 0] 60))=W at *
  have g0:=yD ((HB1.out.cell HL.out).trans p0)
  have g1:=yD ((HB1.out.cell HL.out).trans p1)
  have g2:=yD ((HB1.out.cell HL.out).trans p2)
  have g3:=yD ((HB1.out.cell HL.out).trans p3)
  have g4:=yD ((HB1.out.cell HL.out).trans p4)
  have g5:=yD ((HB1.out.cell HL.out).trans p5)
  have g6:=yD ((HB1.out.cell HL.out).trans p6)
  have g7:=yD ((HB1.out.cell HL.out).trans p7)
  have g8:=yD ((HB1.out.cell HL.out).trans p8)
  have g9:=xA HN.out
  refine yZ (by kernel_rfl) (by kernel_rfl) ?_
  repeat(first|go_big_quiet_skip|(go_big_quiet_want;go_big_quiet_op;first|go_big_quiet_on|(apply Exists.intro;refine⟨fun _=>?_,?_⟩;(· (fail));go_big_quiet_on)))
  refine wpQuiet_nil ?_
  rintro w9 ⟨uu,rfl⟩
  have hb9:=yE W uu
  generalize bel W uu=w9 at *
  have HB9:=hide (yG HB1.out HB1.out.size hb9);clear hb9 g0 g1 g2 g3 g4 g5 g6 g7 g8 g9
  go_wp2
  go_ret
  exact⟨yF (by rw[HE.out,HZ.out];rfl),HB9.out⟩
 have q2:(x.zC == 2)=false:=yO k2
 by_cases k4:x.zC=4
 ·
  have q4:(x.zC == 4)=true:=yP k4
  have HE:=hide (BF.out k4);clear k4
  by_cases z:x.zZ=0
  ·
   have hz:(x.zZ == 0)=true:=yP z
   have HZ:=hide (decide_eq_true z);clear z
   go_wp2
   generalize (w.alloc (.cells #[.int .i64 0,.int .i64 0,.int .i64 0,.int .i64 0,.int .i64 0] 60))=W at *
   have g0:=yD ((HB1.out.cell HL.out).trans p0)
   have g1:=yD ((HB1.out.cell HL.out).trans p1)
   have g2:=yD ((HB1.out.cell HL.out).trans p2)
   have g3:=yD ((HB1.out.cell HL.out).trans p3)
   have g4:=yD ((HB1.out.cell HL.out).trans p4)
   have g5:=yD ((HB1.out.cell HL.out).trans p5)
   have g6:=yD ((HB1.out.cell HL.out).trans p6)
   have g7:=yD ((HB1.out.cell HL.out).trans p7)
   have g8:=yD ((HB1.out.cell HL.out).trans p8)
   have g9:=xA HN.out
   refine yZ (by kernel_rfl) (by kernel_rfl) ?_
   repeat(first|go_big_quiet_skip|(go_big_quiet_want;go_big_quiet_op;first|go_big_quiet_on|(apply Exists.intro;refine⟨fun _=>?_,?_⟩;(· (fail));go_big_quiet_on)))
   refine wpQuiet_nil ?_
   rintro w9 ⟨uu,rfl⟩
   have hb9:=yE W uu
   generalize bel W uu=w9 at *
   have HB9:=hide (yG HB1.out HB1.out.size hb9);clear hb9 g0 g1 g2 g3 g4 g5 g6 g7 g8 g9
   go_wp2
   go_ret
   exact⟨yF (by rw[HE.out,HZ.out];rfl),HB9.out⟩
  have hz:(x.zZ == 0)=false:=yO z
  have HZ:=hide (decide_eq_false z);clear z
  go_wp2
  generalize (w.alloc (.cells #[.int .i64 0,.int .i64 0,.int .i64 0,.int .i64 0,.int .i64 0] 60))=W at *
  have g0:=yD ((HB1.out.cell HL.out).trans p0)
  have g1:=yD ((HB1.out.cell HL.out).trans p1)
  have g2:=yD ((HB1.out.cell HL.out).trans p2)
  have g3:=yD ((HB1.out.cell HL.out).trans p3)
  have g4:=yD ((HB1.out.cell HL.out).trans p4)
  have g5:=yD ((HB1.out.cell HL.out).trans p5)
  have g6:=yD ((HB1.out.cell HL.out).trans p6)
  have g7:=yD ((HB1.out.cell HL.out).trans p7)
  have g8:=yD ((HB1.out.cell HL.out).trans p8)
  have g9:=xA HN.out
  refine yZ (by kernel_rfl) (by kernel_rfl) ?_
  repeat(first|go_big_quiet_skip|(go_big_quiet_want;go_big_quiet_op;first|go_big_quiet_on|(apply Exists.intro;refine⟨fun _=>?_,?_⟩;(· (fail));go_big_quiet_on)))
  refine wpQuiet_nil ?_
  rintro w9 ⟨uu,rfl⟩
  have hb9:=yE W uu
  generalize bel W uu=w9 at *
  have HB9:=hide (yG HB1.out HB1.out.size hb9);clear hb9 g0 g1 g2 g3 g4 g5 g6 g7 g8 g9
  go_wp2
  go_ret
  exact⟨yF (by rw[HE.out,HZ.out];rfl),HB9.out⟩
 have q4:(x.zC == 4)=false:=yO k4
 by_cases k5:x.zC=5
 ·
  have q5:(x.zC == 5)=true:=yP k5
  have HE:=hide (BS.out k5);clear k5
  go_wp2
  generalize (w.alloc (.cells #[.int .i64 0,.int .i64 0,.int .i64 0,.int .i64 0,.int .i64 0] 60))=W at *
  have g0:=yD ((HB1.out.cell HL.out).trans p0)
  have g1:=yD ((HB1.out.cell HL.out).trans p1)
  have g2:=yD ((HB1.out.cell HL.out).trans p2)
  have g3:=yD ((HB1.out.cell HL.out).trans p3)
  have g4:=yD ((HB1.out.cell HL.out).trans p4)
  have g5:=yD ((HB1.out.cell HL.out).trans p5)
  have g6:=yD ((HB1.out.cell HL.out).trans p6)
  have g7:=yD ((HB1.out.cell HL.out).trans p7)
  have g8:=yD ((HB1.out.cell HL.out).trans p8)
  have g9:=xA HN.out
  refine yZ (by kernel_rfl) (by kernel_rfl) ?_
  repeat(first|go_big_quiet_skip|(go_big_quiet_want;go_big_quiet_op;first|go_big_quiet_on|(apply Exists.intro;refine⟨fun _=>?_,?_⟩;(· (fail));go_big_quiet_on)))
  refine wpQuiet_nil ?_
  rintro w9 ⟨uu,rfl⟩
  have hb9:=yE W uu
  generalize bel W uu=w9 at *
  have HB9:=hide (yG HB1.out HB1.out.size hb9);clear hb9 g0 g1 g2 g3 g4 g5 g6 g7 g8 g9
  go_wp2
  go_ret
  exact⟨yF HE.out.symm,HB9.out⟩
 have q5:(x.zC == 5)=false:=yO k5
 have HE:=hide (B0.out (fun h=>h.elim k1 k3) k2 k4 k5)
 clear k1 k2 k3 k4 k5
 go_wp2
 go_ret
 exact⟨yF HE.out.symm,HB1.out⟩
end Go.Proofs.YteiflbhcehajkaaGreat
end
section
namespace Go.Proofs.YteiflbhcehajkaaGreat
open Go.RowKit Go.ChangeShapes Go.WideShapes Go.Deep
end Go.Proofs.YteiflbhcehajkaaGreat
end
section
namespace Go.Proofs.YteiflbhcehajkaaGreat
open Go.RowKit Go.ChangeShapes Go.WideShapes Go.Deep
theorem rds_range {w:World} (tr:Nat→T) (g:Nat→List Value): ∀ (l:List Nat),(∀ i ∈ l,T.rd w (tr i) (g i))→T.rds w (l.map tr) (l.flatMap g)
 | [],_=>T.c_re
 |i :: l,h=>by
  simp only[List.map_cons,List.flatMap_cons,T.rds]
  exact⟨_,_,rfl,h i (by simp),rds_range tr g l (fun j hj=>h j (by simp[hj]))⟩
theorem rdT_open {α H:Type} {enc:TypeId × Value→H} {P:Program} {w:World} {base:Nat} {spare:Nat→Bool} {held:Bool} {t e:TypeId} {fuel:Nat} {cs:List Value} {x:DataW H × List MemPlace} (E:TypeId)
  (tr:α→T) {sz:Nat} (good:α→Prop) (hw: ∀ x,T.wide (tr x)=sz) (hs:0<sz) (dflt:α) (ht:P.underlying t=some (.slice e)) (ce:P.cellsOf e=sz)
  (hel: ∀ n cs' y,DataW.trod enc P w base spare held n e cs'=some y→ ∃ z,T.rd w (tr z) cs'∧good z)
  (h:DataW.trod enc P w base spare held fuel t cs=some x): ∃ (v:Value) (xs:List α),cs= [v]∧T.rd w (.sl E sz (xs.map tr)) [v]∧ ∀ z ∈ xs,good z:=by
 rcases open_slice ht h with ⟨rfl,_⟩|⟨a,len,cap,m,n,D,Pl,rfl,hb,hl,hm,hmm,_,hx⟩
 ·refine⟨_,[],rfl,?_,by simp⟩
  simp only[T.rd,List.map_nil]
  exact⟨_,[],rfl,by simp,Rd.nil_ w sz,by simp[T.rds]⟩
 ·have hlm:len≤m:=by rw[hmm];split<;>omega
  have each: ∀ i,i<len→ ∃ z:α × List Value,z.2.length=sz∧T.rd w (tr z.1) z.2∧good z.1∧ ∀ j,j<sz→w.cell? (a.add (i * sz+j))=z.2[j]?:=by
   intro i hi
   obtain⟨cs',h1,h2⟩:=hx i (by omega)
   rw[ce] at h1
   obtain⟨_,hlen,hcell⟩:=World.cells?_some h1
   obtain⟨z,hz,hg⟩:=hel _ _ _ h2
   refine⟨(z,cs'),hlen,hz,hg,fun j hj=>?_⟩
   rw[←hcell j hj,add_add]
  obtain⟨f,hf⟩:= @choose_lt (α × List Value) ⟨(dflt,[])⟩ len _ each
  let g:Nat→List Value:=fun i=>if i<len then (f i).2 else List.replicate sz (.bool true)
  have hgl: ∀ i,(g i).length=sz:=fun i=>by
   show (if i<len then (f i).2 else _).length=sz
   split
   ·next hi=>exact(hf i hi).1
   ·simp
  have hgi: ∀ i,i<len→g i=(f i).2:=fun i hi=>if_pos hi
  refine⟨_,(List.range len).map fun i=>(f i).1,rfl,?_,?_⟩
  ·simp only[T.rd]
   refine⟨_,(List.range len).flatMap g,rfl,?_,?_,?_⟩
   ·intro y hy
    obtain⟨z,_,rfl⟩:=List.mem_map.1 hy
    exact hw z
   ·have hlen:(((List.range len).map fun i=>(f i).1).map tr).length=len:=by simp
    rw[hlen]
    refine⟨by rw[flat_len hgl];simp,some a,cap,rfl,hl,by unfold maxLen at hm;omega,fun hn=>?_⟩
    have hc0:=(hf 0 hn).2.2.2 0 hs
    rw[List.getElem?_eq_getElem (by rw[(hf 0 hn).1];exact hs)] at hc0
    have hz:a.add (0 * sz+0)=a:=by simp[Addr.add]
    rw[hz] at hc0
    have hsp:a.spot=none:=by
     unfold World.cell? at hc0
     split at hc0
     ·split at hc0
      ·cases hc0
      ·rename_i h';simpa using h'
     ·cases hc0
    obtain⟨b,off,sp⟩:=a
    simp only at hsp
    subst hsp
    refine⟨b,off,rfl,World.block_lt_of_cell? w _ hc0,fun j u hu=>?_⟩
    have hj:j<len * sz:=by have:=(List.getElem?_eq_some_iff.1 hu).1;rw[flat_len hgl] at this;simpa using this
    have hk:j / sz<len:=(Nat.div_lt_iff_lt_mul hs).2 hj
    have hjm:j % sz<sz:=Nat.mod_lt _ hs
    have ej:j / sz * sz+j % sz=j:=by have:=Nat.div_add_mod j sz;rw[Nat.mul_comm] at this;exact this
    have h1:=(hf (j / sz) hk).2.2.2 (j % sz) hjm
    have hin:(g (j / sz))[j % sz]?=some ((g (j / sz))[j % sz]'(by rw[hgl];exact hjm)):=List.getElem?_eq_getElem _
    have h3:=flat_at hgl (xs:=List.range len) (k:=j / sz) (j:=j % sz) (x:=j / sz) (by simp[hk]) hin
    rw[ej,hu] at h3
    rw[ej,←hgi _ hk,hin,←h3] at h1
    rw[show (⟨b,off+j,none⟩:Addr)=(⟨b,off,none⟩:Addr).add j by unfold Addr.add;split<;>simp_all]
    exact h1
   ·have:=rds_range (w:=w) (fun i=>tr (f i).1) g (List.range len) (fun i hi=>by
     have hi':=List.mem_range.1 hi
     rw[hgi i hi'];exact(hf i hi').2.1)
    rw[List.map_map]
    exact this
  ·intro z hz
   simp only[List.mem_map,List.mem_range] at hz
   obtain⟨i,hi,rfl⟩:=hz
   exact(hf i hi).2.2.1
end Go.Proofs.YteiflbhcehajkaaGreat
end
