/- Regions that draw their order and end in one store over a cell that they have loaded. No program is named here. Data without slices in it: copied by append of all. No program is named here. Contracts: the fields of an edit, program. -/
import Derived.Test.YteiflbhcehajkaaGreatQAwExactEditCache
import Derived.Deep.RegionHeldLaw
import Derived.StillTail
import Derived.Test.YteiflbhcehajkaaGreatQAbExactEditCache
import Derived.Test.YteiflbhcehajkaaGreatQAcExactEditCache
import Derived.Test.YteiflbhcehajkaaGreatQAnExactEditCache
import Derived.Test.YteiflbhcehajkaaGreatQAdExactEditCache
set_option linter.unusedVariables false
set_option linter.unusedSimpArgs false
set_option maxHeartbeats 2000000
set_option maxRecDepth 20000
section
namespace Go.Proofs.YteiflbhcehajkaaGreat
open Go.RowKit
section
variable {P:Program} {ops:Array Oper} {Q:Exit→Act→World→Prop} {md:Region.Mode} {S:World→Prop} {n:Nat}
/-- Whatever order is picked from here on; behind every operation but number n, which waits for all others, S holds. -/
def wpAnyE (P:Program) (md:Region.Mode) (ops:Array Oper) (Q:Exit→Act→World→Prop) (S:World→Prop) (n:Nat):Nat→Array Bool→Act→World→Prop
 |0,listed,a,w=>Region.ready md ops listed= []∧Q .normal a w
 |fuel+1,listed,a,w=>
  (Region.ready md ops listed= []→Q .normal a w)∧
  ∀ i ∈ Region.ready md ops listed,wpOp P ops Q i (fun a' w'=>(i=n∨S w')∧wpAnyE P md ops Q S n fuel (listed.setIfInBounds i true) a' w') a w
theorem wpAny_of_E: ∀ (fuel:Nat) (listed:Array Bool) (a:Act) (w:World),wpAnyE P md ops Q S n fuel listed a w→wpAny P md ops Q fuel listed a w
 |0,_,_,_,h=>h
 |fuel+1,_,_,_,h=>⟨h.1,fun i hi=>wpOp_mono (fun a' w' h'=>wpAny_of_E fuel _ a' w' h'.2) (h.2 i hi)⟩
theorem wpAnyE_first {i:Nat} {oi:Oper} {v:Value} (hn:Region.waitsFor md ops n i=true) (hi:ops[i]?=some oi) (hsel: ∀ (j:Nat) (o:Oper) cs b,ops[j]?=some o→o.op≠ .select cs b)
  (hQ: ∀ c a w,Q (.panic c) (a.put oi.dst v) w→Q (.panic c) a w):
  ∀ (fuel:Nat) (listed:Array Bool) (a:Act) (w:World),
   (∀ j oj,ops[j]?=some oj→j≠i→listed.getD j true=false→(∀ e ∈ oj.after,Region.binds md e=true→e.on≠i)→oi.apart ops oj=true)→
   i ∈ Region.ready md ops listed→YieldsIf P ops S oi v a→S w→
   wpAnyE P md ops Q S n fuel (listed.setIfInBounds i true) (a.put oi.dst v) w→wpAnyE P md ops Q S n (fuel+1) listed a w:=by
 have late: ∀ {listed:Array Bool} {j:Nat},i ∈ Region.ready md ops listed→j ∈ Region.ready md ops listed→j≠n:=by
  intro listed j hr hj e
  subst e
  obtain⟨oj,hoj,e,he,hb,heq⟩:=Region.waitsFor_spec hn
  obtain⟨_,oj',hoj',hall⟩:=mem_ready.1 hj
  obtain rfl:oj=oj':=Option.some.inj (hoj.symm.trans hoj')
  have h1:=hall e he hb
  have h0:=(mem_ready.1 hr).1
  rw[heq,getD_both h0] at h1
  cases h1
 intro fuel
 induction fuel with
 |zero=>
  intro listed a w _ hr hy hS H
  refine⟨fun h=>(by rw[h] at hr;cases hr),fun j hj=>?_⟩
  by_cases hji:j=i
  ·subst hji;exact hy.wpOp hi hS ⟨.inr hS,H⟩
  ·have:=ready_mono hj hji
   rw[H.1] at this
   cases this
 |succ fuel ih=>
  intro listed a w hfree hr hy hS H
  refine⟨fun h=>(by rw[h] at hr;cases hr),fun j hj=>?_⟩
  by_cases hji:j=i
  ·subst hji;exact hy.wpOp hi hS ⟨.inr hS,H⟩
  ·have h1:=H.2 j (ready_mono hj hji)
   obtain⟨hjun,oj,hoj,hall⟩:=mem_ready.1 hj
   have hun:=(mem_ready.1 hr).1
   have hnot: ∀ e ∈ oj.after,Region.binds md e=true→e.on≠i:=fun e he hb heq=>by
    have h1:=hall e he hb
    rw[heq,getD_both hun] at h1
    cases h1
   have h2:=wpOp_putIf hoj (hfree j oj hoj hji hjun hnot) (fun cs b=>hsel i oi cs b hi) (fun cs b=>hsel j oj cs b hoj) hQ hy h1
   have hfree': ∀ k ok,ops[k]?=some ok→k≠i→(listed.setIfInBounds j true).getD k true=false→
     (∀ e ∈ ok.after,Region.binds md e=true→e.on≠i)→oi.apart ops ok=true:=fun k ok hk hki hun hno=>by
    refine hfree k ok hk hki ?_ hno
    by_cases hjk:j=k
    ·subst hjk;exact hjun
    ·rw[getD_set_ne true hjk] at hun;exact hun
   have hjn:=late hr hj
   refine wpOp_mono (fun a' w' h3=>?_) h2
   have hS':S w':=h3.2.1.resolve_left hjn
   refine⟨.inr hS',ih (listed.setIfInBounds j true) a' w' hfree' (ready_mono hr (Ne.symm hji)) h3.1 hS' ?_⟩
   rw[Array.setIfInBounds_comm _ _ hji]
   exact h3.2.2
/-- Take number i first. -/
theorem yU {i:Nat} {oi:Oper} {v:Value} {fuel:Nat} {listed:Array Bool} {a:Act} {w:World} (hn:Region.waitsFor md ops n i=true) (hi:ops[i]?=some oi)
  (hs:Region.noSelect ops=true) (hf:Region.free md ops listed i=true) (hr:(Region.ready md ops listed).contains i=true)
  (hQ: ∀ c a w,Q (.panic c) (a.put oi.dst v) w→Q (.panic c) a w) (hS:S w) (hw:Region.wanted oi (yielded ops a.tmps)=true) (hy: ∀ w,S w→(execOp a.eval oi).run P w= .ok (.value v) w)
  (h:wpAnyE P md ops Q S n fuel (listed.setIfInBounds i true) (a.put oi.dst v) w):wpAnyE P md ops Q S n (fuel+1) listed a w:=
 wpAnyE_first hn hi (Region.noSelect_spec hs) hQ fuel listed a w (Region.free_spec hi hf) (by simpa using hr) (.inl ⟨hw,hy⟩) hS h
/-- Number i alone may come up. -/
theorem wpAnyE_one {i:Nat} {o:Oper} {fuel:Nat} {listed:Array Bool} {a:Act} {w:World} (hr:Region.ready md ops listed= [i]) (ho:ops[i]?=some o)
  (h: ∀ K':Act→World→Prop,Shut (∀ a w,S w→(S w→wpAnyE P md ops Q S n fuel (listed.setIfInBounds i true) a w)→K' a w)→if Region.wanted o (yielded ops a.tmps)=true then Oper.wp P o a w K' Q else K' (a.put o.dst undef) w):
  wpAnyE P md ops Q S n (fuel+1) listed a w:=
 ⟨fun h0=>(by rw[hr] at h0;cases h0),fun j hj=>by
  rw[hr,List.mem_singleton] at hj
  subst hj
  exact wpOp_step ho (fun K' hK=>h K' (fun a w hS hW=>hK a w ⟨.inr hS,hW hS⟩))⟩
/-- Number n comes up last. -/
theorem wpAnyE_tail {o:Oper} {fuel:Nat} {listed:Array Bool} {a:Act} {w:World} (hr:Region.ready md ops listed= [n]) (ho:ops[n]?=some o) (hr2:Region.ready md ops (listed.setIfInBounds n true)= [])
  (h:wpList P ops Q [o] a w):wpAnyE P md ops Q S n (fuel+1) listed a w:=
 ⟨fun h0=>(by rw[hr] at h0;cases h0),fun j hj=>by
  rw[hr,List.mem_singleton] at hj
  subst hj
  have hw:wpOp P ops Q j (wpList P ops Q []) a w:=by unfold wpOp;simp only[ho];exact h
  refine wpOp_mono (fun a' w' h'=>⟨.inl rfl,?_⟩) hw
  have h':Q .normal a' w':=h'
  cases fuel with
  |zero=>exact⟨hr2,h'⟩
  |succ f=>exact⟨fun _=>h',by rw[hr2];simp⟩⟩
/-- The beginning: S is shown of the world behind the draw. -/
theorem wp_region_E {id:Nat} {a:Act} {w:World} (S:World→Prop) (n:Nat) (hm:P.follows .mixedOrders=true) (hS:S w.drew)
  (h:S w.drew→wpAnyE P .any ops Q S n ops.size (Array.replicate ops.size false) a w.drew):(Code.region id ops true).wp P Q a w:=
 wp_region_any hm (wpAny_of_E _ _ _ _ (h hS))
end
end Go.Proofs.YteiflbhcehajkaaGreat
end
section
namespace Go.Proofs.YteiflbhcehajkaaGreat
open Go.RowKit
/-- Data that has no slices in it reads the same in every world and owns nothing. -/
def T.flat (w:World) (x:T):Prop:= ∀ w' cs,T.rd w' x cs→T.ow w x [] cs
theorem GClip.flat (w:World) (x:GClip):T.flat w x.t:=fun w' cs h=>by
 simp only[GClip.t,T.rd] at h
 obtain rfl:=GClip.yL h
 exact T.ow_st GClip.ow_mk
theorem GSend.flat (w:World) (x:GSend):T.flat w x.t:=fun w' cs h=>by
 simp only[GSend.t,T.rd] at h
 obtain rfl:=GSend.yL h
 exact T.ow_st GSend.ow_mk
theorem T.ows_flat {w w':World} : ∀ {xs:List T} {cs:List Value},(∀ x ∈ xs,T.flat w x)→T.rds w' xs cs→T.ows w xs [] cs
 | [],cs,_,h=>by simp only[T.rds] at h;subst h;exact T.c_oe
 |x :: r,cs,hf,h=>by
  simp only[T.rds] at h
  obtain⟨c1,c2,rfl,h1,h2⟩:=h
  simp only[T.ows]
  exact⟨[],[],c1,c2,rfl,rfl,hf x (by simp) w' c1 h1,T.ows_flat (fun y hy=>hf y (by simp[hy])) h2⟩
theorem T.ows_flat_map {w w':World} {α:Type} {tr:α→T} {xs:List α} {cs:List Value} (hf: ∀ x,T.flat w (tr x)) (h:T.rds w' (xs.map tr) cs):T.ows w (xs.map tr) [] cs:=
 T.ows_flat (fun x hx=>by obtain⟨y,_,rfl⟩:=List.mem_map.1 hx;exact hf y) h
theorem T.rd_row {w:World} {E:TypeId} {sz:Nat} {xs:List T} {v:Value} (h:T.rd w (.sl E sz xs) [v]): ∃ es,Rd w v sz xs.length es∧T.rds w xs es:=by
 simp only[T.rd] at h
 obtain⟨v',es,hv,_,h1,h2⟩:=h
 obtain rfl:v=v':=by simpa using hv
 exact⟨es,h1,h2⟩
/-- A struct in blocks of its own, from B on. -/
structure Nx (B:Nat) (w:World) (xs:List T) (F:List Nat) (cs:List Value):Prop where
 ows:T.ows w xs F cs
 nodup:F.Nodup
 lo: ∀ b ∈ F,B≤b
theorem Nx.all {B:Nat} {w w':World} {xs:List T} {F:List Nat} {cs:List Value} (h:Nx B w xs F cs) (hb:Below w.heap.size w w'):Nx B w' xs F cs:=⟨T.ows_all h.ows hb,h.nodup,h.lo⟩
theorem Nx.of_nw {B:Nat} {w w':World} {xs:List T} {F:List Nat} {cs:List Value} (h:Nw w w' xs F cs) (hB:B≤w.heap.size):Nx B w' xs F cs:=⟨h.ows,h.nodup,fun b hb=>Nat.le_trans hB (h.lo b hb)⟩
theorem perm_of_count {A B:List Nat} (h: ∀ a,A.count a=B.count a):A.Perm B:=List.perm_iff_count.2 h
theorem Grow.split4 {B:Nat} {w:World} {E:TypeId} {sz:Nat} {xs:List T} {F FR:List Nat} {v:Value} {E1 E2 E3 E4:TypeId} {s1 s2 s3 s4:Nat} {l1 l2 l3 l4:List T} {v1 v2 v3 v4:Value}
  (h:Grow B w E sz xs F v [.sl E1 s1 l1,.sl E3 s3 l3,.sl E2 s2 l2,.sl E4 s4 l4] FR [v1,v3,v2,v4]):
  ∃ F1 F2 F3 F4,T.ow w (.sl E1 s1 l1) F1 [v1]∧T.ow w (.sl E2 s2 l2) F2 [v2]∧T.ow w (.sl E3 s3 l3) F3 [v3]∧T.ow w (.sl E4 s4 l4) F4 [v4]∧(F1++(F2++(F3++(F4++(F++ []))))).Nodup∧
   (∀ b ∈ F1++(F2++(F3++(F4++(F++ [])))),B≤b)∧ ∀ g,g ∉ F→g ∉ FR→g ∉ F1++(F2++(F3++(F4++(F++ [])))):=by
 obtain⟨u1,r1,F1,G1,rfl,e1,o1,h1⟩:=T.ows_sl.1 h.rest
 obtain⟨u3,r3,F3,G3,rfl,e3,o3,h3⟩:=T.ows_sl.1 h1
 obtain⟨u2,r2,F2,G2,rfl,e2,o2,h2⟩:=T.ows_sl.1 h3
 obtain⟨u4,r4,F4,G4,rfl,e4,o4,h4⟩:=T.ows_sl.1 h2
 obtain⟨rfl,rfl⟩:=T.ows_nil.1 h4
 subst e4 e2 e3
 injection e1 with e1 e
 injection e with e3 e
 injection e with e2 e
 injection e with e4 _
 subst e1 e2 e3 e4
 have hp:(F1++(F2++(F3++(F4++(F++ []))))).Perm (F++(F1++(F3++(F2++(F4++ []))))):=perm_of_count fun a=>by
  simp only[List.count_append,List.count_nil];omega
 have hn:(F++(F1++(F3++(F2++(F4++ []))))).Nodup:=nodup_app h.own.nodup h.nd h.dj
 refine⟨F1,F2,F3,F4,o1,o2,o3,o4,hp.nodup_iff.2 hn,fun b hb=>?_,fun g h1 h2 hg=>?_⟩
 ·rcases List.mem_append.1 (hp.mem_iff.1 hb) with hb|hb
  ·exact h.own.lo b hb
  ·exact h.lo b hb
 ·rcases List.mem_append.1 (hp.mem_iff.1 hg) with hg|hg
  ·exact h1 hg
  ·exact h2 hg
theorem GPatch.sl3 {w:World} {x:GPatch} {p1 p2 p3:Value} (h:T.rds w x.fs [.int .i64 x.zM,p1,p2,p3]):(∃ A l c,p1= .slice A l c)∧(∃ A l c,p2= .slice A l c)∧ ∃ A l c,p3= .slice A l c:=by
 obtain⟨v1,v2,v3,e,h1,h2,h3⟩:=GPatch.yL h
 injection e with _ e
 injection e with e1 e
 injection e with e2 e
 injection e with e3 _
 subst e1 e2 e3
 exact⟨T.yS h1,T.yS h2,T.yS h3⟩
/-- A row of flat data, the call's own. -/
theorem Own.of_flat {B:Nat} {w w':World} {E:TypeId} {sz n:Nat} {v:Value} {α:Type} {tr:α→T} {xs:List α} {es:List Value} (hf: ∀ x,T.flat w (tr x)) (hw: ∀ x,T.wide (tr x)=sz)
  (h:w.ownsRow B E sz v n es) (hr:T.rds w' (xs.map tr) es) (hn:n=xs.length):Own B w (.sl E sz (xs.map tr)) v.ownBlock.toList v:=by
 refine⟨?_,by cases v.ownBlock<;>simp,fun b hb=>(h.lt b (by simpa using hb)).1⟩
 simp only[T.ow]
 refine⟨v,es,[],rfl,by simp,?_,by rw[List.length_map,←hn];exact own_more h (Nat.zero_le _),T.ows_flat_map hf hr⟩
 intro x hx
 obtain⟨y,_,rfl⟩:=List.mem_map.1 hx
 exact hw y
end Go.Proofs.YteiflbhcehajkaaGreat
end
section
namespace Go.Proofs.YteiflbhcehajkaaGreat
open Go.RowKit
theorem c_isEdit (x:GEdit) (cs:List Value) (w:World) (h:T.rds w x.fs cs):Calls Tryz.prog 108 #[.agg cs.toArray] w fun e w'=>e= .returned (.bool (tf (FieldsOk x)))∧Below w.heap.size w w':=by
 obtain rfl:=GEdit.yL h
 clear h
 have HB0:=hide (show Below w.heap.size w (w.alloc (.cells #[.int .i64 x.zC,.int .i64 x.zV,.int .i64 x.zZ,.int .i64 x.zY,.int .i64 x.zP.zO,.int .i64 x.zP.zI,.int .i64 x.zP.zA,.int .i64 x.zP.zW,.int .i64 x.zP.zQ] 62)) from(Below.refl _ _).alloc (Nat.le_refl _) _)
 have HK0:=hide (Bk.born w 62 #[.int .i64 x.zC,.int .i64 x.zV,.int .i64 x.zZ,.int .i64 x.zY,.int .i64 x.zP.zO,.int .i64 x.zP.zI,.int .i64 x.zP.zA,.int .i64 x.zP.zW,.int .i64 x.zP.zQ])
 have heq: ∀ w,(Op.equalIn 10000 60 (.agg #[.int .i64 x.zP.zO,.int .i64 x.zP.zI,.int .i64 x.zP.zA,.int .i64 x.zP.zW,.int .i64 x.zP.zQ]) (.agg #[.int .i64 0,.int .i64 0,.int .i64 0,.int .i64 0,.int .i64 0])).run Tryz.prog w= .ok (decide (x.zP=noClip)) w:=eq_Clip 9998 x.zP noClip
 have hgd:=eqg_Clip
 have BN:=hide (@fieldsB_new x);have BR:=hide (@fieldsB_rem x);have BF:=hide (@fieldsB_feed x);have BS:=hide (@fieldsB_send x);have B0:=hide (@fieldsB_none x)
 generalize hne:decide (x.zP=noClip)=ne at *;clear hne
 generalize hco:tf (ClipOk x.zP)=co at *;have HCO:=hide hco;clear hco
 go_enter Tryz.func108,Tryz.ntmps108
 by_cases k1:x.zC=1
 ·have q1:(x.zC == 1)=true:=yP k1
  have HE:=hide (BN.out (.inl k1));clear k1
  by_cases z:x.zY=0
  ·have hz:(x.zY == 0)=true:=yP z
   have HZ:=hide (decide_eq_true z);clear z
   go_wp2_with (go_at_call 148;refine(c_isClip x.zP _ _ GClip.rd_mk).mono ?_;rintro e w2 ⟨rfl,hb2⟩;rw[HCO.out];have HB2:=hide (yG HB0.out HB0.out.size hb2);clear hb2)
   go_ret
   exact⟨yF (by rw[HE.out,HZ.out];rfl),HB2.out⟩
  ·have hz:(x.zY == 0)=false:=yO z
   have HZ:=hide (decide_eq_false z);clear z
   go_wp2
   go_ret
   exact⟨yF (by rw[HE.out,HZ.out];rfl),HB0.out⟩
 have q1:(x.zC == 1)=false:=yO k1
 by_cases k3:x.zC=3
 ·have q3:(x.zC == 3)=true:=yP k3
  have HE:=hide (BN.out (.inr k3));clear k3
  by_cases z:x.zY=0
  ·have hz:(x.zY == 0)=true:=yP z
   have HZ:=hide (decide_eq_true z);clear z
   go_wp2_with (go_at_call 148;refine(c_isClip x.zP _ _ GClip.rd_mk).mono ?_;rintro e w2 ⟨rfl,hb2⟩;rw[HCO.out];have HB2:=hide (yG HB0.out HB0.out.size hb2);clear hb2)
   go_ret
   exact⟨yF (by rw[HE.out,HZ.out];rfl),HB2.out⟩
  ·have hz:(x.zY == 0)=false:=yO z
   have HZ:=hide (decide_eq_false z);clear z
   go_wp2
   go_ret
   exact⟨yF (by rw[HE.out,HZ.out];rfl),HB0.out⟩
 have q3:(x.zC == 3)=false:=yO k3
 by_cases k2:x.zC=2
 ·have q2:(x.zC == 2)=true:=yP k2
  have HE:=hide (BR.out k2);clear k2
  by_cases z:x.zY=0
  ·have hz:(x.zY == 0)=true:=yP z
   have HZ:=hide (decide_eq_true z);clear z
   go_wp2
   go_ret
   exact⟨yF (by rw[HE.out,HZ.out];rfl),HB0.out⟩
  ·have hz:(x.zY == 0)=false:=yO z
   have HZ:=hide (decide_eq_false z);clear z
   go_wp2
   go_ret
   exact⟨yF (by rw[HE.out,HZ.out];rfl),HB0.out⟩
 have q2:(x.zC == 2)=false:=yO k2
 by_cases k4:x.zC=4
 ·have q4:(x.zC == 4)=true:=yP k4
  have HE:=hide (BF.out k4);clear k4
  by_cases z:x.zZ=0
  ·have hz:(x.zZ == 0)=true:=yP z
   have HZ:=hide (decide_eq_true z);clear z
   go_wp2
   go_ret
   exact⟨yF (by rw[HE.out,HZ.out];rfl),HB0.out⟩
  ·have hz:(x.zZ == 0)=false:=yO z
   have HZ:=hide (decide_eq_false z);clear z
   go_wp2
   go_ret
   exact⟨yF (by rw[HE.out,HZ.out];rfl),HB0.out⟩
 have q4:(x.zC == 4)=false:=yO k4
 by_cases k5:x.zC=5
 ·have q5:(x.zC == 5)=true:=yP k5
  have HE:=hide (BS.out k5);clear k5
  go_wp2
  go_ret
  exact⟨yF HE.out.symm,HB0.out⟩
 have q5:(x.zC == 5)=false:=yO k5
 have HE:=hide (B0.out (fun h=>h.elim k1 k3) k2 k4 k5)
 clear k1 k2 k3 k4 k5
 go_wp2
 go_ret
 exact⟨yF HE.out.symm,HB0.out⟩
end Go.Proofs.YteiflbhcehajkaaGreat
end
