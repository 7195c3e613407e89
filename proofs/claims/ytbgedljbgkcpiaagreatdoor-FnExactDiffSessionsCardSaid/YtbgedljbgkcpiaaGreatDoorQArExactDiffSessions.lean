/- Contract: the text of a mixer, by the program. -/
import Derived.Test.YtbgedljbgkcpiaaGreatDoorQAqExactDiffSessions
import Derived.Test.YtbgedljbgkcpiaaGreatDoorQAnExactDiffSessions
set_option linter.unusedVariables false
set_option linter.unusedSimpArgs false
set_option maxHeartbeats 8000000
set_option maxRecDepth 100000
namespace Go.Proofs.YtbgedljbgkcpiaaGreatDoor
open Go.RowKit
def wordsM (l:List GStrip) (y:GStrip):List (List UInt8):= [y.zV.data.toList,decL y.zT]++y.yA.flatMap fun s=> [[116,111],(l.getD s.yC.toNat ⟨⟨#[]⟩,0,[]⟩).zV.data.toList,decL s.zQ]
theorem wordsM_sep (l:List GStrip) (y:GStrip):sepL (wordsM l y)=stripL l y:=by
 unfold wordsM stripL
 rw[sepL_app _ (by simp)]
 congr 1
 ·simp[sepL,blankL]
 ·induction y.yA with
  |nil=>rfl
  |cons s r ih=>
   simp only[List.flatMap_cons,List.flatMap_append,ih,List.flatMap_nil,List.append_nil]
   congr 1
theorem str_own2 (w:World) (s t:ByteArray):OwS 9 (w.alloc (.cells #[.string s,.string t] 9)) w.heap.size (.slice (some ⟨w.heap.size,0,none⟩) 2 2) [s,t]:=⟨strV_len,World.ownsRow_lit (base:=w.heap.size) (e:=9) (size:=1) w #[.string s,.string t] 2 (Nat.le_refl _) (by decide) rfl⟩
theorem str_rd3 (w:World) (s t u:ByteArray):RdS (w.alloc (.cells #[.string s,.string t,.string u] 9)) (.slice (some ⟨w.heap.size,0,none⟩) 3 3) [s,t,u]:=by
 have h:OwS 9 (w.alloc (.cells #[.string s,.string t,.string u] 9)) w.heap.size (.slice (some ⟨w.heap.size,0,none⟩) 3 3) [s,t,u]:=⟨strV_len,World.ownsRow_lit (base:=w.heap.size) (e:=9) (size:=1) w #[.string s,.string t,.string u] 3 (Nat.le_refl _) (by decide) rfl⟩
 exact h.rd
def wordsB (l:List GStrip) (s:GSend):List ByteArray:= [⟨#[116,111]⟩,(l.getD s.yC.toNat ⟨⟨#[]⟩,0,[]⟩).zV,decS s.zQ]
theorem wordsB_len (l:List GStrip): ∀ ss:List GSend,(ss.flatMap (wordsB l)).length=ss.length * 3
 | []=>rfl
 |s :: r=>by
  have:=wordsB_len l r
  rw[List.flatMap_cons,List.length_append,this]
  simp only[wordsB,List.length_cons,List.length_nil]
  omega
theorem rd_elems {w:World} {E:TypeId} {sz n c:Nat} {α:Type} {tr:α→T} {xs:List α} {A:Option Addr} (h:T.rd w (.sl E sz (xs.map tr)) [.slice A n c]):
  ∀ k x,xs[k]?=some x→ ∃ b off cs,A=some ⟨b,off,none⟩∧b<w.heap.size∧T.rd w (tr x) cs∧ ∀ j u,cs[j]?=some u→w.cell? ⟨b,off+(k * sz+j),none⟩=some u:=by
 obtain⟨A',c',e,_,_,h2⟩:=T.yL h
 injection e with e1 e2 e3
 subst e1
 exact h2
theorem step_strs {w:World} {ops:Array Oper} {o:Oper} {a:Act} {K:Act→World→Prop} {Q:Exit→Act→World→Prop} {E:Prop} (hgd:o.guard=none) (s x:Operand)
  (ho:o.op= .call { callee:= .builtin .append,args:= #[s,x],argTypes:= #[55,55] }) {B:Nat} {v:Value} {xs:List ByteArray} (hs:a.eval s=v) (hown:OwS 9 w B v xs)
  {y:Value} {ys:List ByteArray} (hx:a.eval x=y) (hr:RdS w y ys) (hl:xs.length+ys.length≤8796093022208) (hB:B≤w.heap.size)
  (h: ∀ v' w',OwS 9 w' B v' (xs++ys)→w.grownBy w' v.ownBlock→(∀ k,v'.ownBlock=some k→v.ownBlock=some k∨w.heap.size≤k)→K (a.put o.dst v') w'):
  if Region.wanted o (yielded ops a.tmps)=true then Oper.wp Tryz.prog o a w K Q else E:=
 step_manyT hgd s x _ ho B _ _ 1 16 Tryz.underlying55 info_str rfl (by omega) v xs.length _ hs hown.2 y ys.length _ hx hr.2 (str_oneCell _) (by omega) (by unfold maxLen;omega) hB
  fun v' w' h1 h2 h3=>h v' w' ⟨strV_len,by rw[flat_app,List.length_append];exact h1⟩ h2 h3
theorem flat_take_of {α β:Type} {xs:List α} {k:Nat} {x:α} (f:α→List β) (h:xs[k]?=some x):(xs.take (k+1)).flatMap f=(xs.take k).flatMap f++f x:=by
 rw[List.take_add_one,h];simp
theorem c_MixerText (x:GMixer) (cs:List Value) (w:World) (hM:MixerOk x) (hg:x.good) (ht:TB w) (h:T.rds w x.fs cs):Calls Tryz.prog 73 #[.agg cs.toArray] w fun e w'=>e= .returned (.string (mkS (mixL x)))∧Below w.heap.size w w':=by
 obtain⟨v0,rfl,h0⟩:=GMixer.yM h
 clear h
 have R0:=hide h0;obtain⟨va0,vc0,rfl,vl0,vm0,vx0⟩:=T.yL h0
 have HX0:=hide vx0;clear vx0 h0
 have HB0:=hide (show Below w.heap.size w (w.alloc (.cells #[(.slice va0 x.zH.length vc0)] 39)) from(Below.refl _ _).alloc (Nat.le_refl _) _)
 have HK0:=hide (Bk.born w 39 #[(.slice va0 x.zH.length vc0)])
 have HTB:=hide ht;have HM:=hide hM;have HGD:=hide hg;have HML:=hide (mix_len hM hg);clear hg ht
 have hn8:x.zH.length≤8:=hM.few
 have hOK:=yV hM;clear hM
 generalize hT:mixL x=tx at *;have HT:=hide hT;clear hT
 go_enter Tryz.func73,Tryz.ntmps73
 go_wp2_with fail
 refine(c_isMixer x _ _ (by omega) (GMixer.rd_mk (T.yD R0.out HB0.out))).mono ?_;rintro e w1 ⟨rfl,hd⟩;rw[hOK]
 clear hOK
 have hb:Below (w.alloc (.cells #[(.slice va0 x.zH.length vc0)] 39)).heap.size (w.alloc (.cells #[(.slice va0 x.zH.length vc0)] 39)) w1:=by first|exact hd|exact hd.to_below _|exact hd ▸ Below.refl _ _
 have HK1:=hide (HK0.out.below hb HK0.out.lt);have HB1:=hide (yH HB0.out HB0.out.size hb);clear hb hd;have ka:=HK1.out.cell;have la:=HK1.out.lt
 go_wp2
 go_loopw [3,15] (fun o i wr=> ∃ (k:Nat) (X:ByteArray),k≤x.zH.length∧i= .int .i64 (k:Int)∧o= .string X∧X=mkS ((x.zH.take k).flatMap (fun y=>lineL (stripL x.zH y)))∧Below w1.heap.size w1 wr) (fun _ i _=>x.zH.length - (intOf i).toNat)
 case atStart=>exact⟨0,_,Nat.zero_le _,rfl,rfl,rfl,Below.refl _ _⟩
 case round=>
  obtain⟨k,X,hk,rfl,rfl,hX,hbw⟩:=hrel
  have zX:X.size≤1608:=by rw[hX,size_mkS];have h1:=flat_cut (xs:=x.zH) (fun y=>lineL (stripL x.zH y)) k;have h2:=HML.out;rw[←HT.out] at h2;exact Nat.le_trans h1 h2
  have HXX:=hide hX;have HW:=hide hbw;have HB:=hide (yH HB1.out HB1.out.size hbw);have HK:=hide (HK1.out.below hbw HK1.out.lt);clear hX hbw ka la
  have ka:=HK.out.cell;have la:=HK.out.lt
  by_cases hlt:k<x.zH.length
  rotate_left
  ·
   obtain rfl:k=x.zH.length:=by omega
   have HXE:=hide (show X=mkS tx by rw[HXX.out,List.take_length,←HT.out];rfl)
   go_wp2
   go_ret
   exact⟨ret_str (by rw[HXE.out]),HB.out⟩
  have hgk:=List.getElem?_eq_getElem hlt
  obtain⟨b1,off,cs1,hA,hb1,hcs,hcell⟩:=HX0.out k x.zH[k] hgk
  subst hA
  generalize x.zH[k]=y at *
  have HG:=hide hgk;clear hgk
  obtain⟨u2,rfl,hRY2⟩:=GStrip.yM (show T.rds _ _ _ by simpa only[GStrip.t,T.rd] using hcs)
  have d0:=(HB.out.cell hb1).trans (hcell 0 (.string y.zV) rfl)
  have d1:=(HB.out.cell hb1).trans (hcell 1 (.int .i64 y.zT) rfl)
  have d2:=(HB.out.cell hb1).trans (hcell 2 (u2) rfl)
  rw[show off+(k * 3+0)=off+k * 3 by omega] at d0
  rw[show off+(k * 3+1)=off+k * 3+1 by omega] at d1
  rw[show off+(k * 3+2)=off+k * 3+2 by omega] at d2
  have RY2:=hide (T.yD hRY2 HB.out);clear hRY2
  clear hcs hcell
  obtain⟨ua2,uc2,rfl,ul2,um2,ux2⟩:=T.yL RY2.out;clear ux2
  have hq1:b1<wr.heap.size:=Nat.lt_of_lt_of_le hb1 HB.out.size
  have UX2:=hide (rd_elems RY2.out)
  have HNM:=hide (HM.out.each k y HG.out).1;have HMY:=hide (List.mem_of_getElem? HG.out)
  have HGY:=hide (HGD.out y HMY.out)
  have hy1:y.zV.size≤10:=HNM.out.name.few
  have hsl:y.yA.length≤4:=by
   by_cases e:(k:Int)=(x.zH.length:Int) - 1
   ·have:=HNM.out.sends.last e;omega
   ·exact(HNM.out.sends.few e).2
  have zl:(decS y.zT).size≤21:=by unfold decS;rw[size_mkS];exact dec_len HGY.out.2.1
  have HBX:=hide (show Below w.heap.size w (wr.alloc (.cells #[.string y.zV,.int .i64 y.zT,(.slice ua2 y.yA.length uc2)] 117)) from HB.out.alloc HB.out.size _)
  have HWX:=hide (show Below w1.heap.size w1 (wr.alloc (.cells #[.string y.zV,.int .i64 y.zT,(.slice ua2 y.yA.length uc2)] 117)) from HW.out.alloc HW.out.size _)
  have HKX:=hide (HK.out.alloc (.cells #[.string y.zV,.int .i64 y.zT,(.slice ua2 y.yA.length uc2)] 117));have HNX:=hide (Bk.born wr 117 #[.string y.zV,.int .i64 y.zT,(.slice ua2 y.yA.length uc2)])
  clear ka la;have ka:=HKX.out.cell;have la:=HKX.out.lt;have kn:=HNX.out.cell;have ln:=HNX.out.lt
  have HRX:=hide (show Below wr.heap.size wr (wr.alloc (.cells #[.string y.zV,.int .i64 y.zT,(.slice ua2 y.yA.length uc2)] 117)) from(Below.refl _ _).alloc (Nat.le_refl _) _)
  go_wp2
  generalize (wr.alloc (.cells #[.string y.zV,.int .i64 y.zT,(.slice ua2 y.yA.length uc2)] 117))=WX at *
  have hWX:wr.heap.size<WX.heap.size:=HNX.out.lt
  have HRd:=hide HRX.out.drew;have HBd:=hide HBX.out.drew;have HWd:=hide HWX.out.drew;have HKd:=hide (Bk.drew HKX.out);have HNd:=hide (Bk.drew HNX.out)
  refine wp_region_N (fun w'=>(∀ i,w'.cell? ⟨wr.heap.size,i,none⟩= #[.string y.zV,.int .i64 y.zT,(.slice ua2 y.yA.length uc2)][i]?)) [] (by kernel_rfl) ?_ (fun hS0=>?_)
  ·exact HNd.out.cell
  have hdz:WX.drew.heap.size=WX.heap.size:=rfl
  generalize WX.drew=Wd at *
  refine wpAnyN_takeL (i:=0) (oi:=_) (v:=?v1) (by kernel_rfl) (by kernel_rfl) rfl (by kernel_rfl) (by kernel_rfl) (by kernel_rfl) (fun _ _ _ h=>h) hS0 (by rfl) ?hy1 ?rest1
  case hy1=>(intro w hSw;(try dsimp only at hSw);first|(go_simp;done)|(go_simp;with_reducible rfl))
  try simp only[Act.put,List.setIfInBounds_toArray,List.set_cons_zero,List.set_cons_succ]
  refine wpAnyN_takeL (i:=1) (oi:=_) (v:=?v2) (by kernel_rfl) (by kernel_rfl) rfl (by kernel_rfl) (by kernel_rfl) (by kernel_rfl) (fun _ _ _ h=>h) hS0 (by rfl) ?hy2 ?rest2
  case hy2=>(intro w hSw;(try dsimp only at hSw);first|(go_simp;done)|(go_simp;with_reducible rfl))
  try simp only[Act.put,List.setIfInBounds_toArray,List.set_cons_zero,List.set_cons_succ]
  refine wpAnyN_takeL (i:=2) (oi:=_) (v:=?v3) (by kernel_rfl) (by kernel_rfl) rfl (by kernel_rfl) (by kernel_rfl) (by kernel_rfl) (fun _ _ _ h=>h) hS0 (by rfl) ?hy3 ?rest3
  case hy3=>(intro w hSw;(try dsimp only at hSw);first|(go_simp;done)|(go_simp;with_reducible rfl))
  try simp only[Act.put,List.setIfInBounds_toArray,List.set_cons_zero,List.set_cons_succ]
  refine wpAnyN_takeL (i:=3) (oi:=_) (v:=?v4) (by kernel_rfl) (by kernel_rfl) rfl (by kernel_rfl) (by kernel_rfl) (by kernel_rfl) (fun _ _ _ h=>h) hS0 (by rfl) ?hy4 ?rest4
  case hy4=>(intro w hSw;(try dsimp only at hSw);first|(go_simp;done)|(go_simp;with_reducible rfl))
  try simp only[Act.put,List.setIfInBounds_toArray,List.set_cons_zero,List.set_cons_succ]
  refine wpAnyN_one (i:=4) (o:=_) (by kernel_rfl) rfl (fun K hK=>?_)
  go_simp
  go_wp2_with (go_at_call 71;refine(c_iDec y.zT _ (HTB.out.below HBd.out) HGY.out.2.1.1 HGY.out.2.1.2).mono ?_;rintro e w3 ⟨rfl,hb⟩)
  have HR3:=hide (yH HRd.out HRd.out.size hb);have HB3:=hide (yH HBd.out HBd.out.size hb);have HW3:=hide (yH HWd.out HWd.out.size hb);have HK3:=hide (HKd.out.below hb HKd.out.lt);have HN3:=hide (HNd.out.below hb HNd.out.lt);clear hb
  refine hK.out _ _ ?_ (fun hS1=>?_)
  ·exact HN3.out.cell
  clear hK K hS0
  try simp only[Act.put,List.setIfInBounds_toArray,List.set_cons_zero,List.set_cons_succ]
  have HB4:=hide (HB3.out.alloc HB3.out.size (.cells #[.string y.zV,.string (decS y.zT)] 9));have HC4:=hide (show Below w3.heap.size w3 (w3.alloc (.cells #[.string y.zV,.string (decS y.zT)] 9)) from(Below.refl _ _).alloc (Nat.le_refl _) _);have HK4:=hide (HK3.out.alloc (.cells #[.string y.zV,.string (decS y.zT)] 9));have HN4:=hide (HN3.out.alloc (.cells #[.string y.zV,.string (decS y.zT)] 9));have HO4:=hide (str_own2 w3 y.zV (decS y.zT))
  refine wpAnyN_one (i:=5) (o:=_) (by kernel_rfl) rfl (fun K hK=>?_)
  go_simp
  refine hK.out _ _ ?_ (fun hS2=>?_)
  ·exact HN4.out.cell
  clear hK K hS1
  try simp only[Act.put,List.setIfInBounds_toArray,List.set_cons_zero,List.set_cons_succ]
  refine wpAnyN_one (i:=6) (o:=_) (by kernel_rfl) rfl (fun K hK=>?_)
  go_simp
  refine hK.out _ _ ?_ (fun hS3=>?_)
  ·exact HN4.out.cell
  clear hK K hS2
  try simp only[Act.put,List.setIfInBounds_toArray,List.set_cons_zero,List.set_cons_succ]
  refine wpAnyN_end (by kernel_rfl) ?_
  clear hS3
  clear ka la kn ln;have ka:=HK4.out.cell;have la:=HK4.out.lt;have kn:=HN4.out.cell;have ln:=HN4.out.lt
  have hz3:wr.heap.size<w3.heap.size:=HN3.out.lt
  go_wp2
  clear hWX hdz
  generalize hB1:wr.heap.size=B1 at *
  have HB1q:=hide hB1;clear hB1
  go_loopw [6,28] (fun o i wr=> ∃ q:Nat,q≤y.yA.length∧i= .int .i64 (q:Int)∧OwS 9 wr w3.heap.size o ([y.zV,decS y.zT]++(y.yA.take q).flatMap (wordsB x.zH))∧Below w3.heap.size w3 wr) (fun _ i _=>y.yA.length - (intOf i).toNat)
  case atStart=>exact⟨0,Nat.zero_le _,rfl,by rw[List.take_zero,List.flatMap_nil,List.append_nil];exact HO4.out,HC4.out⟩
  case round=>
   obtain⟨q,hq,rfl,ho,hb⟩:=hrel
   have HO:=hide ho;have HC:=hide hb;have HBq:=hide (yH HB3.out HB3.out.size hb);have HKq:=hide (HK3.out.below hb HK3.out.lt);have HNq:=hide (HN3.out.below hb HN3.out.lt);clear ho hb ka la kn ln
   have ka:=HKq.out.cell;have la:=HKq.out.lt;have kn:=HNq.out.cell;have ln:=HNq.out.lt
   by_cases hlq:q<y.yA.length
   rotate_left
   ·
    obtain rfl:q=y.yA.length:=by omega
    have HO5:=hide (show OwS 9 wr w3.heap.size _ ([y.zV,decS y.zT]++y.yA.flatMap (wordsB x.zH)) by have:=HO.out;rwa [List.take_length] at this)
    have HJ:=hide (show Lib.join (([y.zV,decS y.zT]++y.yA.flatMap (wordsB x.zH)).map (fun s:ByteArray=>s.data.toList)) [32]=stripL x.zH y by rw[join_sep,←wordsM_sep];congr 1;unfold wordsM;rw[List.map_append,List.map_flatMap];rfl)
    have HSL:=hide (strip_len HM.out HGD.out HMY.out)
    have hjz:(mkS (stripL x.zH y)).size≤200:=by rw[size_mkS];exact HSL.out
    have h10:(⟨#[10]⟩:ByteArray).size=1:=rfl
    obtain⟨js,hjs⟩: ∃ js,mkS (stripL x.zH y)=js:=⟨_,rfl⟩
    have HJS:=hide hjs;rw[hjs] at hjz
    have HCJ:=hide (fun(W:World) (v:Value) (hr:RdS W v ([y.zV,decS y.zT]++y.yA.flatMap (wordsB x.zH)))=>(by have:=c_join v _ ⟨#[32]⟩ W hr (by rw[List.length_append,wordsB_len];simp only[List.length_cons,List.length_nil];omega) (by rw[show (⟨#[32]⟩:ByteArray).data.toList= [32] from rfl,HJ.out];exact Nat.le_trans HSL.out (by decide));rw[show (⟨#[32]⟩:ByteArray).data.toList= [32] from rfl,HJ.out,hjs] at this;exact this:Calls Tryz.prog 112 #[v,.string ⟨#[32]⟩] W fun e w'=>e= .returned (.string js)∧Below W.heap.size W w'))
    clear hjs
    have z5:(js++(⟨#[10]⟩:ByteArray)).size≤201:=by rw[ByteArray.size_append,h10];omega
    go_wp2_with (go_at_call 112;refine(HCJ.out _ _ HO5.out.rd).mono ?_;rintro e w9 ⟨rfl,hb9⟩;have HW9:=hide (yH (yH HW3.out HW3.out.size HC.out) (yH HW3.out HW3.out.size HC.out).size hb9);clear hb9)
    go_roundw
    case rel=>exact⟨k+1,_,by omega,by go_num,rfl,by rw[HXX.out,flat_take _ HG.out,←HJS.out];apply str_is;simp[dat_app,dat_mk,lineL],HW9.out⟩
    case measure=>simp[intOf];omega
   have hgq:=List.getElem?_eq_getElem hlq
   obtain⟨b2,off2,cs2,hA2,hb2,hcs2,hcell2⟩:=UX2.out q y.yA[q] hgq
   subst hA2
   generalize y.yA[q]=z at *
   have HGZ:=hide hgq;clear hgq
   have HRq:=hide (yH HR3.out (Nat.le_of_lt hz3) HC.out)
   obtain rfl:=GSend.yM (show T.rds _ _ _ by simpa only[GSend.t,T.rd] using hcs2)
   have s0:=(HRq.out.cell hb2).trans (hcell2 0 (.int .i64 z.yC) rfl)
   have s1:=(HRq.out.cell hb2).trans (hcell2 1 (.int .i64 z.zQ) rfl)
   rw[show off2+(q * 2+0)=off2+q * 2 by omega] at s0
   rw[show off2+(q * 2+1)=off2+q * 2+1 by omega] at s1
   clear hcs2 hcell2
   have hb2':b2<wr.heap.size:=by have:=HC.out.size;omega
   obtain⟨t,ht,t0,t1,htn⟩:=mixer_to HM.out HMY.out (List.mem_of_getElem? HGZ.out)
   have HTN:=hide htn;have hGZ:=HGY.out.2.2 z (List.mem_of_getElem? HGZ.out);have HIG:=hide hGZ.2;clear hGZ htn
   obtain⟨b3,off3,cs3,hA3,hb3,hcs3,hcell3⟩:=HX0.out z.yC.toNat t ht
   obtain⟨rfl,rfl⟩:b1=b3∧off=off3:=by injection hA3 with e;injection e with e1 e2;exact⟨e1,e2⟩
   clear hA3
   have HTT:=hide ht;clear ht
   obtain⟨r2,rfl,hRT2⟩:=GStrip.yM (show T.rds _ _ _ by simpa only[GStrip.t,T.rd] using hcs3)
   have e0:=(HBq.out.cell hb3).trans (hcell3 0 (.string t.zV) rfl)
   have e1:=(HBq.out.cell hb3).trans (hcell3 1 (.int .i64 t.zT) rfl)
   have e2:=(HBq.out.cell hb3).trans (hcell3 2 (r2) rfl)
   rw[show off+(z.yC.toNat * 3+0)=off+z.yC.toNat * 3 by omega] at e0
   rw[show off+(z.yC.toNat * 3+1)=off+z.yC.toNat * 3+1 by omega] at e1
   rw[show off+(z.yC.toNat * 3+2)=off+z.yC.toNat * 3+2 by omega] at e2
   have RT2:=hide (T.yD hRT2 HBq.out);clear hRT2
   clear hcs3 hcell3
   clear e1 e2 RT2
   have hb3':b1<wr.heap.size:=Nat.lt_of_lt_of_le hb3 HBq.out.size
   have HBZ:=hide (show Below w.heap.size w (wr.alloc (.cells #[.int .i64 z.yC,.int .i64 z.zQ] 156)) from HBq.out.alloc HBq.out.size _);have HCZ:=hide (show Below w3.heap.size w3 (wr.alloc (.cells #[.int .i64 z.yC,.int .i64 z.zQ] 156)) from HC.out.alloc HC.out.size _);have HOZ:=hide (HO.out.all (show Below wr.heap.size wr (wr.alloc (.cells #[.int .i64 z.yC,.int .i64 z.zQ] 156)) from(Below.refl _ _).alloc (Nat.le_refl _) _))
   have HKZ:=hide (HKq.out.alloc (.cells #[.int .i64 z.yC,.int .i64 z.zQ] 156));have HNZ:=hide (HNq.out.alloc (.cells #[.int .i64 z.yC,.int .i64 z.zQ] 156));have HZZ:=hide (Bk.born wr 156 #[.int .i64 z.yC,.int .i64 z.zQ])
   have HEZ:=hide ((((Below.refl wr.heap.size wr).alloc (Nat.le_refl _) (.cells #[.int .i64 z.yC,.int .i64 z.zQ] 156)).cell hb3').trans e0)
   have hzq:wr.heap.size<(wr.alloc (.cells #[.int .i64 z.yC,.int .i64 z.zQ] 156)).heap.size:=HZZ.out.lt
   go_wp2
   generalize hWZ:(wr.alloc (.cells #[.int .i64 z.yC,.int .i64 z.zQ] 156))=WZ at *;clear hWZ
   have HEQ:=hide e0
   generalize hB2:wr.heap.size=B2 at *;have HB2q:=hide hB2;clear hB2 ka la kn ln s0 s1 e0
   have HBe:=hide HBZ.out.drew
   have HCe:=hide HCZ.out.drew
   have HOe:=hide (show OwS 9 WZ.drew _ _ _ from HOZ.out.all (Below.refl _ _).drew)
   have HKe:=hide (Bk.drew HKZ.out)
   have HNe:=hide (Bk.drew HNZ.out)
   have HZe:=hide (Bk.drew HZZ.out)
   have HEe:=hide (show WZ.drew.cell? _=_ from HEZ.out)
   have hzd:WZ.drew.heap.size=WZ.heap.size:=rfl
   refine wp_region_N (fun w'=>(∀ i,w'.cell? ⟨w.heap.size,i,none⟩= #[(.slice (some ⟨b1,off,none⟩) x.zH.length vc0)][i]?)∧(∀ i,w'.cell? ⟨B2,i,none⟩= #[.int .i64 z.yC,.int .i64 z.zQ][i]?)∧w'.cell? ⟨b1,off+z.yC.toNat * 3,none⟩=some (.string t.zV)) [] (by kernel_rfl) ?_ (fun hS0=>?_)
   ·exact⟨HKe.out.cell,HZe.out.cell,HEe.out⟩
   generalize WZ.drew=We at *
   refine wpAnyN_takeL (i:=0) (oi:=_) (v:=?v5) (by kernel_rfl) (by kernel_rfl) rfl (by kernel_rfl) (by kernel_rfl) (by kernel_rfl) (fun _ _ _ h=>h) hS0 (by rfl) ?hy5 ?rest5
   case hy5=>(intro w hSw;(try dsimp only at hSw);first|(go_simp;done)|(go_simp;with_reducible rfl))
   try simp only[Act.put,List.setIfInBounds_toArray,List.set_cons_zero,List.set_cons_succ]
   refine wpAnyN_takeL (i:=1) (oi:=_) (v:=?v6) (by kernel_rfl) (by kernel_rfl) rfl (by kernel_rfl) (by kernel_rfl) (by kernel_rfl) (fun _ _ _ h=>h) hS0 (by rfl) ?hy6 ?rest6
   case hy6=>(intro w hSw;(try dsimp only at hSw);first|(go_simp;done)|(go_simp;with_reducible rfl))
   try simp only[Act.put,List.setIfInBounds_toArray,List.set_cons_zero,List.set_cons_succ]
   refine wpAnyN_takeL (i:=2) (oi:=_) (v:=?v7) (by kernel_rfl) (by kernel_rfl) rfl (by kernel_rfl) (by kernel_rfl) (by kernel_rfl) (fun _ _ _ h=>h) hS0 (by rfl) ?hy7 ?rest7
   case hy7=>(intro w hSw;(try dsimp only at hSw);first|(go_simp;done)|(go_simp;with_reducible rfl))
   try simp only[Act.put,List.setIfInBounds_toArray,List.set_cons_zero,List.set_cons_succ]
   refine wpAnyN_takeL (i:=3) (oi:=_) (v:=?v8) (by kernel_rfl) (by kernel_rfl) rfl (by kernel_rfl) (by kernel_rfl) (by kernel_rfl) (fun _ _ _ h=>h) hS0 (by rfl) ?hy8 ?rest8
   case hy8=>(intro w hSw;(try dsimp only at hSw);first|(go_simp;done)|(go_simp;with_reducible rfl))
   try simp only[Act.put,List.setIfInBounds_toArray,List.set_cons_zero,List.set_cons_succ]
   refine wpAnyN_takeL (i:=4) (oi:=_) (v:=?v9) (by kernel_rfl) (by kernel_rfl) rfl (by kernel_rfl) (by kernel_rfl) (by kernel_rfl) (fun _ _ _ h=>h) hS0 (by rfl) ?hy9 ?rest9
   case hy9=>(intro w hSw;(try dsimp only at hSw);first|(go_simp;done)|(go_simp;with_reducible rfl))
   try simp only[Act.put,List.setIfInBounds_toArray,List.set_cons_zero,List.set_cons_succ]
   refine wpAnyN_takeL (i:=5) (oi:=_) (v:=?v10) (by kernel_rfl) (by kernel_rfl) rfl (by kernel_rfl) (by kernel_rfl) (by kernel_rfl) (fun _ _ _ h=>h) hS0 (by rfl) ?hy10 ?rest10
   case hy10=>(intro w hSw;(try dsimp only at hSw);first|(go_simp;done)|(go_simp;with_reducible rfl))
   try simp only[Act.put,List.setIfInBounds_toArray,List.set_cons_zero,List.set_cons_succ]
   refine wpAnyN_takeL (i:=6) (oi:=_) (v:=?v11) (by kernel_rfl) (by kernel_rfl) rfl (by kernel_rfl) (by kernel_rfl) (by kernel_rfl) (fun _ _ _ h=>h) hS0 (by rfl) ?hy11 ?rest11
   case hy11=>(intro w hSw;(try dsimp only at hSw);first|(go_simp;done)|(go_simp;with_reducible rfl))
   try simp only[Act.put,List.setIfInBounds_toArray,List.set_cons_zero,List.set_cons_succ]
   refine wpAnyN_takeL (i:=7) (oi:=_) (v:=?v12) (by kernel_rfl) (by kernel_rfl) rfl (by kernel_rfl) (by kernel_rfl) (by kernel_rfl) (fun _ _ _ h=>h) hS0 (by rfl) ?hy12 ?rest12
   case hy12=>(intro w hSw;(try dsimp only at hSw);first|(go_simp;done)|(go_simp;with_reducible rfl))
   try simp only[Act.put,List.setIfInBounds_toArray,List.set_cons_zero,List.set_cons_succ]
   refine wpAnyN_takeL (i:=8) (oi:=_) (v:=?v13) (by kernel_rfl) (by kernel_rfl) rfl (by kernel_rfl) (by kernel_rfl) (by kernel_rfl) (fun _ _ _ h=>h) hS0 (by rfl) ?hy13 ?rest13
   case hy13=>(intro w hSw;(try dsimp only at hSw);first|(go_simp;done)|(go_simp;with_reducible rfl))
   try simp only[Act.put,List.setIfInBounds_toArray,List.set_cons_zero,List.set_cons_succ]
   refine wpAnyN_takeL (i:=9) (oi:=_) (v:=?v14) (by kernel_rfl) (by kernel_rfl) rfl (by kernel_rfl) (by kernel_rfl) (by kernel_rfl) (fun _ _ _ h=>h) hS0 (by rfl) ?hy14 ?rest14
   case hy14=>(intro w hSw;(try dsimp only at hSw);first|(go_simp;done)|(go_simp;with_reducible rfl))
   try simp only[Act.put,List.setIfInBounds_toArray,List.set_cons_zero,List.set_cons_succ]
   refine wpAnyN_one (i:=10) (o:=_) (by kernel_rfl) rfl (fun K hK=>?_)
   go_simp
   go_wp2_with (go_at_call 71;refine(c_iDec z.zQ _ (HTB.out.below HBe.out) HIG.out.1 HIG.out.2).mono ?_;rintro e w5 ⟨rfl,hb⟩)
   have HE5:=hide ((hb.cell (World.block_lt_of_cell? _ _ HEe.out)).trans HEe.out);have HB5:=hide (yH HBe.out HBe.out.size hb);have HC5:=hide (yH HCe.out HCe.out.size hb);have HO5:=hide (HOe.out.all hb);have HK5:=hide (HKe.out.below hb HKe.out.lt);have HZ5:=hide (HZe.out.below hb HZe.out.lt);clear hb
   refine hK.out _ _ ?_ (fun hS1=>?_)
   ·exact⟨HK5.out.cell,HZ5.out.cell,HE5.out⟩
   clear hK K hS0
   try simp only[Act.put,List.setIfInBounds_toArray,List.set_cons_zero,List.set_cons_succ]
   have HA6:=hide (show Below w5.heap.size w5 (w5.alloc (.cells #[.string ⟨#[116,111]⟩,.string t.zV,.string (decS z.zQ)] 9)) from(Below.refl _ _).alloc (Nat.le_refl _) _);have HRL:=hide (str_rd3 w5 ⟨#[116,111]⟩ t.zV (decS z.zQ));have HC6:=hide (HC5.out.alloc HC5.out.size (.cells #[.string ⟨#[116,111]⟩,.string t.zV,.string (decS z.zQ)] 9));have HO6:=hide (HO5.out.all HA6.out)
   have HK6:=hide (HK5.out.alloc (.cells #[.string ⟨#[116,111]⟩,.string t.zV,.string (decS z.zQ)] 9));have HZ6:=hide (HZ5.out.alloc (.cells #[.string ⟨#[116,111]⟩,.string t.zV,.string (decS z.zQ)] 9));have HE6:=hide ((HA6.out.cell (World.block_lt_of_cell? _ _ HE5.out)).trans HE5.out);have hs6:=HC6.out.size
   refine wpAnyN_one (i:=11) (o:=_) (by kernel_rfl) rfl (fun K hK=>?_)
   go_simp
   refine hK.out _ _ ?_ (fun hS2=>?_)
   ·exact⟨HK6.out.cell,HZ6.out.cell,HE6.out⟩
   clear hK K hS1
   try simp only[Act.put,List.setIfInBounds_toArray,List.set_cons_zero,List.set_cons_succ]
   have hlw:([y.zV,decS y.zT]++(y.yA.take q).flatMap (wordsB x.zH)).length+3≤8796093022208:=by rw[List.length_append,wordsB_len,List.length_take];simp only[List.length_cons,List.length_nil];omega
   refine wpAnyN_one (i:=12) (o:=_) (by kernel_rfl) rfl (fun K hK=>?_)
   refine step_strs rfl _ _ rfl rfl HO6.out (ys:= [⟨#[116,111]⟩,t.zV,decS z.zQ]) rfl HRL.out hlw hs6 ?_;intro v8 w8 ho hg hv
   have hb8:=below_own HC6.out HO6.out.2 hg (Nat.le_refl _) hs6;have HC8:=hide hb8;have HO8:=hide ho;have HK8:=hide (HK3.out.below hb8 HK3.out.lt)
   have HZ8:=hide (show Bk w8 B2 _ _ from Bk.grown HZ6.out hg (fun e=>by have h1:=(HO.out.lt _ e.symm).2;have h2:=HB2q.out;omega));have HE8:=hide (show w8.cell? ⟨b1,off+z.yC.toNat * 3,none⟩=some (.string t.zV) from(hb8.cell (Nat.lt_of_lt_of_le hb3 HB3.out.size)).trans ((HC.out.cell (Nat.lt_of_lt_of_le hb3 HB3.out.size)).symm.trans HEQ.out));clear hb8 ho hg hv
   refine hK.out _ _ ?_ (fun hS3=>?_)
   ·exact⟨HK8.out.cell,HZ8.out.cell,HE8.out⟩
   clear hK K hS2
   try simp only[Act.put,List.setIfInBounds_toArray,List.set_cons_zero,List.set_cons_succ]
   refine wpAnyN_one (i:=13) (o:=_) (by kernel_rfl) rfl (fun K hK=>?_)
   go_simp
   refine hK.out _ _ ?_ (fun hS4=>?_)
   ·exact⟨HK8.out.cell,HZ8.out.cell,HE8.out⟩
   clear hK K hS3
   try simp only[Act.put,List.setIfInBounds_toArray,List.set_cons_zero,List.set_cons_succ]
   refine wpAnyN_end (by kernel_rfl) ?_
   clear hS4
   go_wp2
   go_roundw
   case rel=>exact⟨q+1,by omega,by go_num,by rw[flat_take_of _ HGZ.out,←List.append_assoc,show wordsB x.zH z= [⟨#[116,111]⟩,t.zV,decS z.zQ] by unfold wordsB;rw[List.getD_eq_getElem?_getD,HTT.out];rfl];exact HO8.out,HC8.out⟩
   case measure=>simp[intOf];omega
end Go.Proofs.YtbgedljbgkcpiaaGreatDoor
