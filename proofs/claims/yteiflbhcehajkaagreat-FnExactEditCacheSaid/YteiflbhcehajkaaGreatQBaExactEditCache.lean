/- The program's edited clips. Contracts: copies of the program. Contract: copyPatch. -/
import Derived.Test.YteiflbhcehajkaaGreatQAzExactEditCache
import Derived.Test.YteiflbhcehajkaaGreatQAcExactEditCache
import Derived.Deep.RegionHeld3
import Derived.Test.YteiflbhcehajkaaGreatQAwExactEditCache
import Derived.Test.YteiflbhcehajkaaGreatQAyExactEditCache
import Derived.Test.YteiflbhcehajkaaGreatQAdExactEditCache
import Derived.Test.YteiflbhcehajkaaGreatQAxExactEditCache
import Derived.Deep.RegionHeldLaw
import Derived.Deep.RegionLaw
set_option linter.unusedVariables false
set_option linter.unusedSimpArgs false
set_option maxHeartbeats 4000000
set_option maxRecDepth 100000
section
namespace Go.Proofs.YteiflbhcehajkaaGreat
open Go.RowKit
theorem rds_cut {w:World} {l:List GClip} {es:List Value} {k:Nat} (h:T.rds w (l.map GClip.t) es) (hk:k≤l.length):T.rds w ((l.take k).map GClip.t) (es.take (k * 5))∧T.rds w ((l.drop k).map GClip.t) (es.drop (k * 5)):=by
 have e:l.map GClip.t=(l.take k).map GClip.t++(l.drop k).map GClip.t:=by rw[←List.map_append,List.take_append_drop]
 rw[e] at h
 obtain⟨c1,c2,rfl,h1,h2⟩:=(T.rds_app _ _ _).1 h
 have hl:c1.length=k * 5:=by
  rw[T.rds_len _ _ h1,T.wides_mul (sz:=5) _ (fun x hx=>by obtain⟨y,_,rfl⟩:=List.mem_map.1 hx;exact GClip.wide_t y),List.length_map,List.length_take]
  congr 1;omega
 rw[List.take_left' hl,List.drop_left' hl]
 exact⟨h1,h2⟩
theorem rds_ins {w:World} {l:List GClip} {es vs:List Value} {k j:Nat} {c:GClip} (h:T.rds w (l.map GClip.t) es) (hk:k≤l.length) (hj:j≤l.length) (hc:T.rds w c.fs vs):T.rds w ((l.take k++c :: l.drop j).map GClip.t) (es.take (k * 5)++(vs++es.drop (j * 5))):=by
 rw[List.map_append,List.map_cons]
 refine(T.rds_app _ _ _).2 ⟨_,_,rfl,(rds_cut h hk).1,?_⟩
 simp only[T.rds]
 exact⟨vs,_,rfl,by simpa only[GClip.t,T.rd] using hc,(rds_cut h hj).2⟩
theorem rds_del {w:World} {l:List GClip} {es:List Value} {k j:Nat} (h:T.rds w (l.map GClip.t) es) (hk:k≤l.length) (hj:j≤l.length):T.rds w ((l.take k++l.drop j).map GClip.t) (es.take (k * 5)++es.drop (j * 5)):=by
 rw[List.map_append]
 exact(T.rds_app _ _ _).2 ⟨_,_,rfl,(rds_cut h hk).1,(rds_cut h hj).2⟩
theorem grown_all {w w1 w':World} {r:Option Nat} (hb:Below w.heap.size w w1) (hg:w1.grownBy w' r) (hr: ∀ k,r=some k→w.heap.size≤k):Below w.heap.size w w':=hb.grown hg hb.size hr
theorem c_edited (l:List GClip) (ek et ev ns nf nl na ng:Int) (k:Nat) (v:Value) (w:World) (hr:T.rd w (T.sl 60 5 (l.map GClip.t)) [v]) (hl:l.length≤1048576) (h1:ek=1→k≤l.length) (h2:ek≠1→k<l.length):
  Calls Tryz.prog 110 #[v,.agg #[.int .i64 ek,.int .i64 et,.int .i64 (k:Int),.int .i64 ev,.int .i64 ns,.int .i64 nf,.int .i64 nl,.int .i64 na,.int .i64 ng]] w fun r w'=>
   ∃ v' F,r= .returned v'∧Own w.heap.size w' (T.sl 60 5 ((editL l ⟨ek,et,(k:Int),ev,⟨ns,nf,nl,na,ng⟩⟩).map GClip.t)) F v'∧Below w.heap.size w w':=by
 obtain⟨es,hrd,hrs⟩:=T.rd_row hr
 rw[List.length_map] at hrd
 have hel:=hrd.1
 have h1c:=T.rds_cell _ _ hrs
 have hvs:T.rds w (GClip.fs ⟨ns,nf,nl,na,ng⟩) [.int .i64 ns,.int .i64 nf,.int .i64 nl,.int .i64 na,.int .i64 ng]:=GClip.rd_mk (x:=⟨ns,nf,nl,na,ng⟩)
 have HRD:=hide hrd;have HRS:=hide hrs;have HEL:=hide hel;have H1C:=hide h1c;have HVS:=hide hvs
 have HBa:=hide (show Below w.heap.size w (w.alloc (.cells #[.int .i64 ek,.int .i64 et,.int .i64 (k:Int),.int .i64 ev,.int .i64 ns,.int .i64 nf,.int .i64 nl,.int .i64 na,.int .i64 ng] 62)) from(Below.refl _ _).alloc (Nat.le_refl _) _)
 have HEa:=hide (Bk.born w 62 #[.int .i64 ek,.int .i64 et,.int .i64 (k:Int),.int .i64 ev,.int .i64 ns,.int .i64 nf,.int .i64 nl,.int .i64 na,.int .i64 ng])
 obtain⟨hl0,A,cap,rfl,hc1,hc2,hcell⟩:=hrd
 clear hr hrs hel h1c hvs hl0 hcell
 have hw:IntKind.i64.wrap (k:Int)=(k:Int):=by
  have:k≤l.length:=by by_cases h:ek=1;exact h1 h;exact Nat.le_of_lt (h2 h)
  rw[IntKind.wrap_i64];omega
 go_enter Tryz.func110,Tryz.ntmps110
 go_wp2_with fail
 go_region_held3 (fun w'=> ∀ i,w'.cell? ⟨w.heap.size,i,none⟩= #[.int .i64 ek,.int .i64 et,.int .i64 (k:Int),.int .i64 ev,.int .i64 ns,.int .i64 nf,.int .i64 nl,.int .i64 na,.int .i64 ng][i]?) (first|with_reducible exact HEb.out.cell|exact HEa.out.cell) ((go_at_call 171;refine(c_cloneClip _ l.length es _ (HRD.out.below (by first|exact HBa.out|exact HBa.out.drew)) H1C.out hl).mono ?_;rintro e wC ⟨vC,rfl,hoC,hbC⟩;have HOC:=hide (own_more hoC (show w.heap.size+1≤_ from(by simp)));have hb1:=undrew hbC;have HBc:=hide (yG HBa.out HBa.out.size hb1);have HEb:=hide (HEa.out.below hb1 HEa.out.lt);clear hoC hbC hb1))
 have ke:=HEb.out.cell
 have hel:=HEL.out
 by_cases k1:ek=1
 ·have q1:(ek == 1)=true:=yP k1
  have hk:=h1 k1
  have HK:=hide hk;have HK1:=hide k1
  have hba:Below wC.heap.size wC (wC.alloc (.cells #[.int .i64 ns,.int .i64 nf,.int .i64 nl,.int .i64 na,.int .i64 ng] 60)):=(Below.refl _ _).alloc (Nat.le_refl _) _
  have hob:=own_more (own_all HOC.out hba) (Nat.le_succ w.heap.size)
  have HOA:=hide hob;have HBA:=hide hba
  have HNE:=hide (show ∀ b,vC.ownBlock=some b→wC.heap.size≠b from fun b hb e=>by have:=(HOC.out.lt b hb).2;omega)
  clear h1 h2 hk k1 hba hob hel
  go_wp2_with (go_at_call 172;refine(c_insClip (B:=w.heap.size) vC l.length k wC.heap.size es [.int .i64 ns,.int .i64 nf,.int .i64 nl,.int .i64 na,.int .i64 ng] _ HOA.out (Nat.le_trans HBc.out.size HBA.out.size) HK.out hl (Bk.born _ _ _) rfl HNE.out H1C.out (T.rds_cell _ _ HVS.out)).mono ?_;rintro e wD ⟨vD,rfl,hoD,hgD⟩;have HOD:=hide hoD;have HGD:=hide hgD;clear hoD hgD)
  go_ret
  refine⟨vD,_,rfl,Own.of_flat (w':=w) (GClip.flat _) GClip.wide_t HOD.out ?_ ?_,grown_all (HBc.out.alloc HBc.out.size _) HGD.out (fun b hb=>by have:=(HOC.out.lt b hb).1;omega)⟩
  ·have:=rds_ins (k:=k) (j:=k) HRS.out HK.out HK.out HVS.out
   unfold editL
   rw[if_pos HK1.out]
   exact this
  ·unfold editL
   rw[if_pos HK1.out]
   have:=HK.out
   simp;omega
 ·have q1:(ek == 1)=false:=yO k1
  have hk:=h2 k1
  have HK:=hide hk;have HK1:=hide k1
  clear h1 h2 hk k1
  rcases HOC.out.2 with ⟨_,h0⟩|⟨g,cp,cur,rfl,hbg,hg,hnc,hcm,hcs,htk⟩
  ·have:=HK.out;omega
  have hkl:=HK.out
  have hg2:Bk wC g 60 cur:=hg
  have HGB:=hide hg2
  clear hg hg2
  by_cases k2:ek=2
  ·have q2:(ek == 2)=true:=yP k2
   have HK2:=hide k2;clear k2
   obtain⟨m,hm⟩: ∃ m,l.length=k+1+m:=⟨l.length - (k+1),by omega⟩
   have hcap:cp≤9223372036854775807:=by unfold maxLen at hcm;omega
   have hw1:IntKind.i64.wrap ((k:Int)+1)=(k:Int)+1:=by rw[IntKind.wrap_i64];omega
   have HM:=hide hm;have HCS:=hide hcs;have HTK:=hide htk
   rw[hm] at htk hnc
   have HTK2:=hide htk
   have hnn:k+1+m≤1048576:=by omega
   clear hm hcs htk hel
   go_wp2_with (go_at_call 173;rw[HM.out];refine(c_delClip g cp k m cur es wC hnc hcap hnn HGB.out HCS.out HTK2.out H1C.out).mono ?_;rintro e wD ⟨rfl,⟨cur',hk1,hk2,hk3⟩,hgD⟩;have HD1:=hide hk1;have HD2:=hide hk2;have HD3:=hide hk3;have HGD:=hide hgD;clear hk1 hk2 hk3 hgD)
   go_ret
   have hel:=HEL.out
   rw[HM.out] at hel
   refine⟨_,_,rfl,Own.of_flat (w':=w) (GClip.flat _) GClip.wide_t (ownsRow_of (es:=es.take (k * 5)++es.drop ((k+1) * 5)) (by simp only[List.length_append,List.length_take,List.length_drop,hel];omega) (show w.heap.size≤g by omega) HD1.out (by omega) hcm HD2.out HD3.out) ?_ ?_,grown_all HBc.out HGD.out (fun b hb=>by injection hb with hb;omega)⟩
   ·have:=rds_del (k:=k) (j:=k+1) HRS.out (by have:=HM.out;omega) (by have:=HM.out;omega)
    unfold editL
    rw[if_neg HK1.out,if_pos HK2.out]
    exact this
   ·unfold editL
    rw[if_neg HK1.out,if_pos HK2.out]
    have:=HM.out
    simp;omega
  ·have q2:(ek == 2)=false:=yO k2
   have HK2:=hide k2;clear k2
   have hi0:(0:Int)≤(k:Int):=by omega
   have hi1:(k:Int)<(l.length:Int):=by omega
   have hgc: ∀ j,wC.frozen? ⟨g,j,none⟩=false:=HGB.out.free
   have hgs: ∀ j,j<cp * 5→(wC.cell? ⟨g,j,none⟩).isSome=true:=fun j hj=>by rw[HGB.out.cell j,Array.getElem?_eq_getElem (by omega)];rfl
   have hge: ¬ w.heap.size=g:=by omega
   have hge2: ¬ g=w.heap.size:=by omega
   have hc: ∀ j,j<5→(wC.cell? ⟨g,k * 5+j,none⟩).isSome=true:=fun j hj=>hgs _ (by omega)
   have hlt:g<wC.heap.size:=HGB.out.lt
   have hcut:es=es.take (k * 5)++((es.drop (k * 5)).take 5++(es.drop (k * 5)).drop 5):=by rw[List.take_append_drop,List.take_append_drop]
   have hcx:((es.drop (k * 5)).take 5).length=5:=by rw[List.length_take,List.length_drop,hel];omega
   have hc1:(es.take (k * 5)).length=k * 5:=by rw[List.length_take,hel];omega
   have hdd:(es.drop (k * 5)).drop 5=es.drop ((k+1) * 5):=by rw[List.drop_drop];congr 1;omega
   have ho:=HOC.out
   rw[hcut] at ho
   generalize (es.drop (k * 5)).take 5=cx at *
   obtain⟨x1,x2,x3,x4,x5,rfl⟩:=len5 hcx
   have s1:=own_st 0 (u:= .int .i64 ns) ho hc1 (by simp)
   have s2:=own_st 1 (u:= .int .i64 nf) s1 hc1 (by simp)
   have s3:=own_st 2 (u:= .int .i64 nl) s2 hc1 (by simp)
   have s4:=own_st 3 (u:= .int .i64 na) s3 hc1 (by simp)
   have s5:=own_st 4 (u:= .int .i64 ng) s4 hc1 (by simp)
   rw[hdd] at s5
   have S5:=hide s5
   have a0:wC.cell? ⟨g,k * 5,none⟩=some x1:=own_at 0 ho hc1 rfl
   have a1:=own_at 1 ho hc1 (show [x1,x2,x3,x4,x5][1]?=some x2 from rfl);have a2:=own_at 2 ho hc1 (show [x1,x2,x3,x4,x5][2]?=some x3 from rfl);have a3:=own_at 3 ho hc1 (show [x1,x2,x3,x4,x5][3]?=some x4 from rfl);have a4:=own_at 4 ho hc1 (show [x1,x2,x3,x4,x5][4]?=some x5 from rfl)
   clear s1 s2 s3 s4 s5 ho hcut hcx hc1 hdd hc hgs hel hcs htk
   go_wp2
   go_ret
   refine⟨_,_,rfl,Own.of_flat (w':=w) (GClip.flat _) GClip.wide_t (own_more S5.out (Nat.le_succ _)) ?_ ?_,?_⟩
   ·have:=rds_ins (k:=k) (j:=k+1) HRS.out (by omega) (by omega) HVS.out
    unfold editL
    rw[if_neg HK1.out,if_neg HK2.out]
    exact this
   ·unfold editL
    rw[if_neg HK1.out,if_neg HK2.out]
    simp;omega
   ·have hb:=HBc.out
    have hl2:w.heap.size≤g:=by omega
    exact((((hb.setCell hl2 _).setCell hl2 _).setCell hl2 _).setCell hl2 _).setCell hl2 _
end Go.Proofs.YteiflbhcehajkaaGreat
end
section
namespace Go.Proofs.YteiflbhcehajkaaGreat
open Go.RowKit
theorem c_clones (v:Value) (xs:List (List Int)) (w:World) (hs:smL (fun l:List Int=>l.length≤1048576) xs) (hr:T.rd w (T.sl 24 1 (xs.map (T.ints 2))) [v]):
  Calls Tryz.prog 92 #[v] w fun e w'=> ∃ v' F,e= .returned v'∧Own w.heap.size w' (T.sl 24 1 (xs.map (T.ints 2))) F v'∧Below w.heap.size w w':=by
 obtain⟨A,cap,rfl,hl,hc,hx⟩:=T.yK hr
 have HX:=hide hx;have HS:=hide hs;clear hx hr hs
 have HL:=hide HS.out.1
 have HO0:=hide (Own.born (World.ownsRow_made w #[] 0 (Nat.le_refl _) (by decide) rfl:(w.alloc (.cells #[] 24)).ownsRow w.heap.size 24 1 (.slice (some ⟨w.heap.size,0,none⟩) 0 0) 0 []))
 have HB0:=hide (show Below w.heap.size w (w.alloc (.cells #[] 24)) from(Below.refl _ _).alloc (Nat.le_refl _) _)
 go_enter Tryz.func92,Tryz.ntmps92
 go_wp2
 go_loopw [3,9] (fun r i wr=> ∃ k F,k≤xs.length∧i= .int .i64 (k:Int)∧Own w.heap.size wr (T.sl 24 1 ((xs.take k).map (T.ints 2))) F r∧Below w.heap.size w wr) (fun _ i _=>xs.length - (intOf i).toNat)
 case atStart=>exact⟨0,_,Nat.zero_le _,rfl,by rw[List.take_zero];exact HO0.out,HB0.out⟩
 case round=>
  obtain⟨k,F,hk,rfl,ho,hb⟩:=hrel
  have HO:=hide ho;have HB:=hide hb;clear ho hb
  by_cases hlt:k<xs.length
  ·have hgk:=List.getElem?_eq_getElem hlt
   obtain⟨b,off,cs,rfl,hb,hcs,hcell⟩:=HX.out k xs[k] hgk
   have hll:=HS.out.2 xs[k] (List.getElem_mem hlt)
   generalize xs[k]=l at *
   have HG:=hide hgk;clear hgk
   obtain⟨v3,rfl⟩:=T.rd_one hcs
   have d0:=(HB.out.cell hb).trans (hcell 0 v3 rfl)
   rw[Nat.mul_one,Nat.add_zero] at d0
   have hb2:b<wr.heap.size:=Nat.lt_of_lt_of_le hb HB.out.size
   have R:=hide (T.yQ.1 hcs);clear hcs hcell
   obtain⟨A3,c3,rfl,l3,m3,x3⟩:=R.out.open_
   clear x3
   have HLL:=hide hll;clear hll
   go_wp2_with fail
   refine(c_clone _ l _ (Rd.below R.out HB.out) HLL.out).mono ?_;rintro e w1 ⟨v1,rfl,ho1,hb1⟩
   obtain⟨A1,c1,rfl,-,-,-⟩:=ho1.rd.open_
   have HN1:=hide (Nv.ints ho1 hb1)
   have HO1:=hide (HO.out.all hb1);have HB1:=hide (yG HB.out HB.out.size hb1)
   have hsz:wr.heap.size≤w1.heap.size:=hb1.size
   clear ho1 hb1
   go_wp2_with (at_builtin;refine app1_T rfl _ _ _ rfl w.heap.size 24 _ 1 24 Tryz.underlying22 info_Int64SS rfl (by omega) rfl HO1.out HN1.out.ow HN1.out.nodup (fun b hb=>Nat.le_trans HB.out.size (HN1.out.lo b hb)) (fun b hb hb2=>by have h1:=HO.out.lt b hb;have h2:=HN1.out.lo b hb2;omega) rfl rfl (by rw[List.length_map,List.length_take];have:=HL.out;omega) (by rw[List.length_map,List.length_take];have:=HL.out;omega) HB1.out.size ?_;intro v8 w8 F8 ho8 hg8 hv8;have HO8:=hide ho8;have HB8:=hide (HO1.out.below HB1.out HB1.out.size hg8);clear ho8 hg8 hv8)
   go_roundw
   case rel=>exact⟨k+1,F8,by omega,by go_num,by rw[take_snoc_of HG.out,List.map_append];exact HO8.out,HB8.out⟩
   case measure=>simp[intOf];omega
  ·obtain rfl:k=xs.length:=by omega
   go_wp2
   go_ret
   exact⟨_,F,rfl,by have:=HO.out;rwa [List.take_length] at this,HB.out⟩
theorem c_copyNode (x:GNode) (cs:List Value) (w:World) (hs:x.small) (h:T.rds w x.fs cs):Calls Tryz.prog 152 #[.agg cs.toArray] w fun e w'=> ∃ v F,e= .returned (.agg #[.int .i64 x.zC,.int .i64 x.fA,.int .i64 x.fB,v])∧Nw w w' x.fs F [.int .i64 x.zC,.int .i64 x.fA,.int .i64 x.fB,v]:=by
 obtain⟨v3,rfl,h3⟩:=GNode.yL h
 have h3i:=T.yQ.1 h3;obtain⟨A,cap,rfl,hl,hm,hx⟩:=h3i.open_
 have R:=hide h3i;clear hx h3 h3i h
 have HS:=hide (show x.zI.length≤1048576 from hs);clear hs
 have HB0:=hide (show Below w.heap.size w ((w.alloc (.cells #[.int .i64 x.zC,.int .i64 x.fA,.int .i64 x.fB,.slice A x.zI.length cap] 198)).alloc (.cells #[.int .i64 0,.int .i64 0,.int .i64 0,.slice none 0 0] 198)) from((Below.refl _ _).alloc (Nat.le_refl _) _).alloc (by simp) _)
 have HK0:=hide ((Bk.born w 198 #[.int .i64 x.zC,.int .i64 x.fA,.int .i64 x.fB,.slice A x.zI.length cap]).alloc (.cells #[.int .i64 0,.int .i64 0,.int .i64 0,.slice none 0 0] 198))
 have HR0:=hide (Bk.born1' w (.cells #[.int .i64 x.zC,.int .i64 x.fA,.int .i64 x.fB,.slice A x.zI.length cap] 198) 198 #[.int .i64 0,.int .i64 0,.int .i64 0,.slice none 0 0])
 go_enter Tryz.func152,Tryz.ntmps152
 go_wp2_with fail
 refine(c_clone _ x.zI _ (Rd.below R.out HB0.out) HS.out).mono ?_;rintro e w1 ⟨v1,rfl,ho1,hb1⟩
 obtain⟨A1,c1,rfl,-,-,-⟩:=ho1.rd.open_
 have HN1:=hide (Nv.ints ho1 hb1)
 have HK1:=hide (HK0.out.below hb1 HK0.out.lt);have HR1:=hide (HR0.out.below hb1 HR0.out.lt)
 have HB1:=hide (yG HB0.out HB0.out.size hb1)
 have hsz:w.heap.size+2≤w1.heap.size:=by have:=hb1.size;simpa using this
 have HLO:=hide (show ∀ b ∈ (Value.slice A1 x.zI.length c1).ownBlock.toList,w.heap.size+2≤b from fun b hb=>by have:=HN1.out.lo b hb;simpa using this)
 clear ho1 hb1
 have k1:=HK1.out.cell;have f1:=HK1.out.free;have k2:=HR1.out.cell;have f2:=HR1.out.free
 have q1:w.heap.size<w1.heap.size:=by omega
 have q2:w.heap.size+1<w1.heap.size:=by omega
 have g1:w.heap.size ∉ (Value.slice A1 x.zI.length c1).ownBlock.toList:=fun h=>by have:=HLO.out _ h;omega
 have g2:w.heap.size+1 ∉ (Value.slice A1 x.zI.length c1).ownBlock.toList:=fun h=>by have:=HLO.out _ h;omega
 have G1:=hide g1;have G2:=hide g2;clear g1 g2
 go_wp2
 refine bodyPost_ret (v:= .agg #[.int .i64 x.zC,.int .i64 x.fA,.int .i64 x.fB,.slice A1 x.zI.length c1]) (by simp[results,Tryz.results152,go_sem,k1,f1,k2,f2]) rfl ?_
 have hb:=HB1.out
 refine⟨_,(Value.slice A1 x.zI.length c1).ownBlock.toList,rfl,?_,HN1.out.nodup,fun b hb=>by have:=HLO.out b hb;omega,(by repeat(first|with_reducible exact Below.refl _ _|with_reducible assumption|with_reducible refine Below.alloc ?_ (by first|exact Nat.le_refl _|(simp;done)|(simp;omega)) _|with_reducible refine Below.setCell ?_ (by first|omega|(simp;done)|(simp;omega)) _|with_reducible refine Below.drew ?_|with_reducible refine below_drewN ?_ _))⟩
 have ho:T.ow w1 (T.ints 2 x.zI) (Value.slice A1 x.zI.length c1).ownBlock.toList [.slice A1 x.zI.length c1]:=HN1.out.ow
 rw[show (Value.slice A1 x.zI.length c1).ownBlock.toList=(Value.slice A1 x.zI.length c1).ownBlock.toList++ [] by simp]
 refine GNode.ow_mk (x:=x) ?_
 repeat(first|with_reducible exact ho|with_reducible refine T.ow_far ?_ G1.out _ _|with_reducible refine T.ow_far ?_ G2.out _ _)
end Go.Proofs.YteiflbhcehajkaaGreat
end
section
namespace Go.Proofs.YteiflbhcehajkaaGreat
open Go.RowKit
theorem c_copyPatch (x:GPatch) (cs:List Value) (w:World) (hs:x.small) (h:T.rds w x.fs cs):Calls Tryz.prog 93 #[.agg cs.toArray] w fun e w'=> ∃ v1 v2 v3 F,e= .returned (.agg #[.int .i64 x.zM,v1,v2,v3])∧Nw w w' x.fs F [.int .i64 x.zM,v1,v2,v3]:=by
 obtain⟨v1,v2,v3,rfl,h1,h2,h3⟩:=GPatch.yL h
 clear h
 have R1:=hide h1;obtain⟨va1,vc1,rfl,vl1,vm1,vx1⟩:=T.yK h1
 have HX1:=hide vx1;clear vx1 h1
 have R2:=hide h2;obtain⟨va2,vc2,rfl,vl2,vm2,vx2⟩:=T.yK h2
 have HX2:=hide vx2;clear vx2 h2
 have h3i:=T.yQ.1 h3;obtain⟨va3,vc3,rfl,vl3,vm3,vx3⟩:=h3i.open_
 have R3:=hide h3i;have HX3:=hide vx3;clear vx3 h3 h3i
 have HB0:=hide (show Below w.heap.size w (w.alloc (.cells #[.int .i64 x.zM,(.slice va1 x.zR.length vc1),(.slice va2 x.zH.length vc2),(.slice va3 x.zN.length vc3)] 130)) from(Below.refl _ _).alloc (Nat.le_refl _) _)
 have HK0:=hide (Bk.born w 130 #[.int .i64 x.zM,(.slice va1 x.zR.length vc1),(.slice va2 x.zH.length vc2),(.slice va3 x.zN.length vc3)])
 have HS:=hide hs;clear hs
 have HBa:=hide (HB0.out.alloc (by simp) (.cells #[.int .i64 0,.slice none 0 0,.slice none 0 0,.slice none 0 0] 130))
 have HKa:=hide (HK0.out.alloc (.cells #[.int .i64 0,.slice none 0 0,.slice none 0 0,.slice none 0 0] 130));have HRa:=hide (Bk.born1' w (.cells #[.int .i64 x.zM,(.slice va1 x.zR.length vc1),(.slice va2 x.zH.length vc2),(.slice va3 x.zN.length vc3)] 130) 130 #[.int .i64 0,.slice none 0 0,.slice none 0 0,.slice none 0 0])
 clear HB0 HK0
 go_enter Tryz.func93,Tryz.ntmps93
 go_wp2_with fail
 rename_i Q1 K1 hK1
 have REST: ∀ (g:Nat) (tA:Option Addr) (lA cA:Nat) (tB:Option Addr) (lB cB:Nat) (FR:List Nat) (u6 u7 u8 u9 u10 u11 u12 u13 u14:Value) (W:World),Bk W w.heap.size 130 #[.int .i64 x.zM,(.slice va1 x.zR.length vc1),(.slice va2 x.zH.length vc2),(.slice va3 x.zN.length vc3)]→Bk W (w.heap.size+1) 130 #[.int .i64 0,.slice none 0 0,.slice none 0 0,.slice none 0 0]→Bk W g 130 #[.int .i64 x.zM,.slice tA lA cA,.slice none 0 0,.slice tB lB cB]→T.ows W [T.sl 24 1 (x.zR.map (T.ints 2)),T.ints 2 x.zN] FR [.slice tA lA cA,.slice tB lB cB]→FR.Nodup→(∀ b ∈ FR,w.heap.size+2≤b)→g ∉ FR→w.heap.size+2≤g→Below w.heap.size w W→K1 { tmps:= #[.agg #[.int .i64 x.zM,(.slice va1 x.zR.length vc1),(.slice va2 x.zH.length vc2),(.slice va3 x.zN.length vc3)],.pointer (some ⟨w.heap.size,0,none⟩),.pointer (some ⟨w.heap.size+1,0,none⟩),.pointer (some ⟨g,0,none⟩),undef,undef,u6,u7,u8,u9,u10,u11,u12,u13,u14,undef,undef,undef,undef,undef,undef,undef,undef,undef,undef,undef,undef,undef,undef,undef,undef],defers:= [] } W:=by
  intro g tA lA cA tB lB cB FR u6 u7 u8 u9 u10 u11 u12 u13 u14 W bk1 bk2 bk3 ow nd lo gf gl hbw
  refine hK1 _ _ ?_
  clear hK1 K1 HBa HKa HRa
  have HP:=hide bk1;have HR:=hide bk2;have HO:=hide bk3;have HOW:=hide ow;have HND:=hide nd;have HLO:=hide lo;have HGF:=hide gf;have HBW:=hide hbw
  have kp:=bk1.cell;clear bk1 bk2 bk3 ow nd lo gf hbw
  have ng1:w.heap.size≠g:=by omega
  have ng2:w.heap.size+1≠g:=by omega
  go_wp2
  go_loopw [18] (fun i wr=> ∃ (k:Nat) (v:Value) (F:List Nat),k≤x.zH.length∧i= .int .i64 (k:Int)∧Grow (w.heap.size+2) wr 198 4 ((x.zH.take k).map GNode.t) F v [T.sl 24 1 (x.zR.map (T.ints 2)),T.ints 2 x.zN] FR [.slice tA lA cA,.slice tB lB cB]∧g ∉ F∧Bk wr w.heap.size 130 #[.int .i64 x.zM,(.slice va1 x.zR.length vc1),(.slice va2 x.zH.length vc2),(.slice va3 x.zN.length vc3)]∧Bk wr (w.heap.size+1) 130 #[.int .i64 0,.slice none 0 0,.slice none 0 0,.slice none 0 0]∧Bk wr g 130 #[.int .i64 x.zM,.slice tA lA cA,v,.slice tB lB cB]∧Below w.heap.size w wr) (fun i _=>x.zH.length - (intOf i).toNat)
  case atStart=>exact⟨0,.slice none 0 0,[],Nat.zero_le _,rfl,by simpa using Grow.start HOW.out HND.out HLO.out 198 4,by simp,HP.out,HR.out,HO.out,HBW.out⟩
  case round=>
   obtain⟨k,v,F,hk,rfl,hG,hgF,b1,b2,b3,hb⟩:=hrel
   obtain⟨tN,lN,cN,rfl⟩:=hG.form
   have HG:=hide hG;have HF:=hide hgF;have HP1:=hide b1;have HR1:=hide b2;have HO1:=hide b3;have HB:=hide hb;clear hG hgF b1 b2 b3 hb
   have hsz:w.heap.size+2≤wr.heap.size:=by have:=HR1.out.lt;omega
   have hgr:g<wr.heap.size:=HO1.out.lt
   by_cases hlt:k<x.zH.length
   rotate_left
   ·obtain rfl:k=x.zH.length:=by omega
    have ko:=HO1.out.cell;have fo:=HO1.out.free;have kr:=HR1.out.cell;have fr:=HR1.out.free
    have hr1:w.heap.size+1<wr.heap.size:=by omega
    have nn1: ¬ g=w.heap.size+1:=by omega
    go_wp2
    obtain⟨F1,F3,o1,o3,nd,lo,gn⟩:=HG.out.split
    have hr2:=gn (w.heap.size+1) (fun hm=>by have:=HG.out.own.lo _ hm;omega) (fun hm=>by have:=HG.out.lo _ hm;omega)
    have o2:=HG.out.own.ow;rw[List.take_length] at o2
    have hO:=GPatch.ow_mk (x:=x) o1 o2 o3
    refine bodyPost_ret (v:= .agg #[.int .i64 x.zM,.slice tA lA cA,(.slice tN lN cN),.slice tB lB cB]) (by simp[results,Tryz.results93,go_sem,ko,fo,kr,fr]) rfl ?_
    exact⟨_,_,_,_,rfl,T.yM (T.yM (T.yM (T.yM hO hr2 _ _) hr2 _ _) hr2 _ _) hr2 _ _,nd,fun b hb=>by have:=lo b hb;omega,(((HB.out.setCell (by simp) _).setCell (by simp) _).setCell (by simp) _).setCell (by simp) _⟩
   have hsy:=HS.out.2.1.2 _ (List.getElem_mem hlt)
   have hgk:=List.getElem?_eq_getElem hlt
   obtain⟨b,off,cs1,hA,hb1,hcs,hcell⟩:=HX2.out k x.zH[k] hgk
   subst hA
   generalize x.zH[k]=y at *
   have HY:=hide hgk;have HSY:=hide hsy;clear hgk hsy
   obtain⟨u3,rfl,hRY3⟩:=GNode.yL (show T.rds _ _ _ by simpa only[GNode.t,T.rd] using hcs)
   have d0:=(HB.out.cell hb1).trans (hcell 0 (.int .i64 y.zC) rfl)
   have d1:=(HB.out.cell hb1).trans (hcell 1 (.int .i64 y.fA) rfl)
   have d2:=(HB.out.cell hb1).trans (hcell 2 (.int .i64 y.fB) rfl)
   have d3:=(HB.out.cell hb1).trans (hcell 3 (u3) rfl)
   rw[show off+(k * 4+0)=off+k * 4 by omega] at d0
   rw[show off+(k * 4+1)=off+k * 4+1 by omega] at d1
   rw[show off+(k * 4+2)=off+k * 4+2 by omega] at d2
   rw[show off+(k * 4+3)=off+k * 4+3 by omega] at d3
   have RY3:=hide (T.yC hRY3 HB.out);clear hRY3
   clear hcs hcell
   obtain⟨ua3,ul3,uc3,rfl⟩:=T.yS RY3.out
   have hq1:b<wr.heap.size:=Nat.lt_of_lt_of_le hb1 HB.out.size
   have HXA:=hide (show Below wr.heap.size wr (wr.alloc (.cells #[.int .i64 y.zC,.int .i64 y.fA,.int .i64 y.fB,.slice ua3 ul3 uc3] 198)) from(Below.refl _ _).alloc (Nat.le_refl _) _)
   have HXB:=hide (Bk.born wr 198 #[.int .i64 y.zC,.int .i64 y.fA,.int .i64 y.fB,.slice ua3 ul3 uc3])
   go_wp2
   generalize wr.alloc (.cells #[.int .i64 y.zC,.int .i64 y.fA,.int .i64 y.fB,.slice ua3 ul3 uc3] 198)=W2 at *
   have ko:=(HO1.out.below HXA.out HO1.out.lt).cell;have kx:=HXB.out.cell
   refine wp_region_E (fun w'=>(∀ i,w'.cell? ⟨g,i,none⟩= #[.int .i64 x.zM,.slice tA lA cA,(.slice tN lN cN),.slice tB lB cB][i]?)∧(∀ i,w'.cell? ⟨wr.heap.size,i,none⟩= #[.int .i64 y.zC,.int .i64 y.fA,.int .i64 y.fB,.slice ua3 ul3 uc3][i]?)) 7 (by kernel_rfl) ?_ (fun hS0=>?_)
   ·exact⟨ko,kx⟩
   refine yU (i:=0) (oi:=_) (v:=?v1) (by kernel_rfl) rfl (by kernel_rfl) (by kernel_rfl) (by kernel_rfl) (fun _ _ _ h=>h) hS0 (by rfl) ?hy1 ?rest1
   case hy1=>(intro w hSw;(try dsimp only at hSw);first|(go_simp;done)|(go_simp;with_reducible rfl))
   try simp only[Act.put,List.setIfInBounds_toArray,List.set_cons_zero,List.set_cons_succ]
   refine yU (i:=1) (oi:=_) (v:=?v2) (by kernel_rfl) rfl (by kernel_rfl) (by kernel_rfl) (by kernel_rfl) (fun _ _ _ h=>h) hS0 (by rfl) ?hy2 ?rest2
   case hy2=>(intro w hSw;(try dsimp only at hSw);first|(go_simp;done)|(go_simp;with_reducible rfl))
   try simp only[Act.put,List.setIfInBounds_toArray,List.set_cons_zero,List.set_cons_succ]
   refine yU (i:=2) (oi:=_) (v:=?v3) (by kernel_rfl) rfl (by kernel_rfl) (by kernel_rfl) (by kernel_rfl) (fun _ _ _ h=>h) hS0 (by rfl) ?hy3 ?rest3
   case hy3=>(intro w hSw;(try dsimp only at hSw);first|(go_simp;done)|(go_simp;with_reducible rfl))
   try simp only[Act.put,List.setIfInBounds_toArray,List.set_cons_zero,List.set_cons_succ]
   refine wpAnyE_one (i:=3) (o:=_) (by kernel_rfl) rfl (fun K hK=>?_)
   go_simp
   go_wp2_with (go_at_call 152;refine(c_copyNode y _ _ HSY.out (GNode.rd_mk (T.yC RY3.out HXA.out.drew))).mono ?_;rintro e wC ⟨u,Fx,rfl,hN⟩;obtain⟨u3,G3,e1,e2,hu3⟩:=GNode.ow_open hN.ows;obtain⟨tU,lU,cU,rfl⟩:=T.yT (show T.ow _ _ _ [u] by simpa using(by injection e1 with _ e1;injection e1 with _ e1;injection e1 with _ e1;injection e1 with e1 _;subst e1;exact hu3));clear e1 e2 hu3;have HN:=hide hN;clear hN)
   have hbC:=undrew HN.out.below;have HBC:=hide hbC;have HGC:=hide ((HG.out.all HXA.out).all hbC);have HOC:=hide ((HO1.out.below HXA.out HO1.out.lt).below hbC (HO1.out.below HXA.out HO1.out.lt).lt);have HXC:=hide (HXB.out.below hbC HXB.out.lt)
   have HPC:=hide ((HP1.out.below HXA.out HP1.out.lt).below hbC (HP1.out.below HXA.out HP1.out.lt).lt);have HRC:=hide ((HR1.out.below HXA.out HR1.out.lt).below hbC (HR1.out.below HXA.out HR1.out.lt).lt);have HBCw:=hide (yG (yG HB.out HB.out.size HXA.out) (yG HB.out HB.out.size HXA.out).size hbC);clear hbC
   refine hK.out _ _ ?_ (fun hS1=>?_)
   ·exact⟨HOC.out.cell,HXC.out.cell⟩
   clear hK K hS0
   have hsC:wr.heap.size≤wC.heap.size:=Nat.le_trans HXA.out.size HBC.out.size
   have HZA:=hide (show Below wC.heap.size wC (wC.alloc (.cells #[.int .i64 y.zC,.int .i64 y.fA,.int .i64 y.fB,.slice tU lU cU] 198)) from(Below.refl _ _).alloc (Nat.le_refl _) _)
   refine wpAnyE_one (i:=4) (o:=_) (by kernel_rfl) rfl (fun K hK=>?_)
   go_simp
   refine hK.out _ _ ?_ (fun hS2=>?_)
   ·exact⟨(HOC.out.alloc _).cell,(HXC.out.alloc _).cell⟩
   clear hK K hS1
   refine wpAnyE_one (i:=5) (o:=_) (by kernel_rfl) rfl (fun K hK=>?_)
   refine step1_T rfl _ _ _ rfl (w.heap.size+2) _ _ 4 48 Tryz.underlying128 info_NodeS rfl (by omega) rfl (HGC.out.all HZA.out).own rfl (Bk.born _ _ _) (x:=y.t) (T.ow_st (T.ows_all HN.out.ows HZA.out)) HN.out.nodup (fun b hb=>by have:=HN.out.lo b hb;have h2:=HXA.out.size;exact Nat.le_trans hsz (Nat.le_trans h2 this)) (fun b hb hb2=>by have h1:=HG.out.lt b hb;have h2:=HN.out.lo b hb2;have h3:wr.heap.size≤b:=Nat.le_trans HXA.out.size h2;omega) rfl (by rw[List.length_map,List.length_take];have:=HS.out.2.1.1;omega) (by rw[List.length_map,List.length_take];have:=HS.out.2.1.1;unfold maxLen;omega) (Nat.le_trans hsz (Nat.le_trans hsC HZA.out.size)) ?_
   intro v8 w8 F8 ho8 hg8 hv8
   obtain⟨t8,l8,c8,rfl⟩:=T.yT ho8.ow
   have HG8:=hide ((HGC.out.all HZA.out).app ho8 hg8 hv8 (fun b hb hb2=>by have h1:=HG.out.ltR b hb2;have h2:=HN.out.lo b hb;have h3:wr.heap.size≤b:=Nat.le_trans HXA.out.size h2;omega))
   have gC:g ∉ F:=HF.out
   have HO8:=hide ((HOC.out.alloc (.cells #[.int .i64 y.zC,.int .i64 y.fA,.int .i64 y.fB,.slice tU lU cU] 198)).far1 hg8 gC (HGC.out.all HZA.out).own)
   have HX8:=hide ((HXC.out.alloc (.cells #[.int .i64 y.zC,.int .i64 y.fA,.int .i64 y.fB,.slice tU lU cU] 198)).far1 hg8 (fun hm=>by have:=HG.out.lt _ hm;omega) (HGC.out.all HZA.out).own)
   have HP8:=hide ((HPC.out.alloc (.cells #[.int .i64 y.zC,.int .i64 y.fA,.int .i64 y.fB,.slice tU lU cU] 198)).far1 hg8 (fun hm=>by have:=HG.out.own.lo _ hm;omega) (HGC.out.all HZA.out).own)
   have HR8:=hide ((HRC.out.alloc (.cells #[.int .i64 y.zC,.int .i64 y.fA,.int .i64 y.fB,.slice tU lU cU] 198)).far1 hg8 (fun hm=>by have:=HG.out.own.lo _ hm;omega) (HGC.out.all HZA.out).own)
   have HB8:=hide (((HGC.out.all HZA.out).own.more (show w.heap.size≤w.heap.size+2 by omega)).below (HBCw.out.alloc HBCw.out.size _) (Nat.le_trans (Nat.le_trans (show w.heap.size≤wr.heap.size by omega) hsC) HZA.out.size) hg8)
   have HF8:=hide (Grow.out hv8 gC (fun hm=>by have h2:=HN.out.lo _ hm;have h3:wr.heap.size≤g:=Nat.le_trans HXA.out.size h2;omega) (Nat.lt_of_lt_of_le hgr (Nat.le_trans hsC HZA.out.size)))
   clear ho8 hg8 hv8
   refine hK.out _ _ ?_ (fun hS3=>?_)
   ·exact⟨HO8.out.cell,HX8.out.cell⟩
   clear hK K hS2
   refine yU (i:=6) (oi:=_) (v:=?v4) (by kernel_rfl) rfl (by kernel_rfl) (by kernel_rfl) (by kernel_rfl) (fun _ _ _ h=>h) hS3 (by rfl) ?hy4 ?rest4
   case hy4=>(intro w hSw;(try dsimp only at hSw);first|(go_simp;done)|(go_simp;with_reducible rfl))
   try simp only[Act.put,List.setIfInBounds_toArray,List.set_cons_zero,List.set_cons_succ]
   refine wpAnyE_tail (o:=_) (by kernel_rfl) rfl (by kernel_rfl) ?_
   have fo8:=HO8.out.free;have co8:=HO8.out.cell;have lo8:=HO8.out.lt
   go_wp2
   go_roundw
   case rel=>exact⟨k+1,.slice t8 l8 c8,F8,by omega,by go_num,(by rw[take_snoc_of HY.out,List.map_append];exact HG8.out.far HF8.out HGF.out _ _),HF8.out,HP8.out.far ng1 _,HR8.out.far ng2 _,(by have:=HO8.out.set_ 2 (.slice t8 l8 c8);simpa using this),HB8.out.setCell (by simp;omega) _⟩
   case measure=>simp[intOf];omega
 have HE2:=hide (show ((w.alloc (.cells #[.int .i64 x.zM,(.slice va1 x.zR.length vc1),(.slice va2 x.zH.length vc2),(.slice va3 x.zN.length vc3)] 130)).alloc (.cells #[.int .i64 0,.slice none 0 0,.slice none 0 0,.slice none 0 0] 130)).heap.size=w.heap.size+1+1 by simp)
 go_region_held3 (fun w'=> ∀ i,w'.cell? ⟨w.heap.size,i,none⟩= #[.int .i64 x.zM,(.slice va1 x.zR.length vc1),(.slice va2 x.zH.length vc2),(.slice va3 x.zN.length vc3)][i]?) (first|with_reducible exact((((KB.out.far (by first|with_reducible exact Nat.ne_of_lt KA.out.lt|(simp;done)|(simp;omega)) _).far (by first|with_reducible exact Nat.ne_of_lt KA.out.lt|(simp;done)|(simp;omega)) _).far (by first|with_reducible exact Nat.ne_of_lt KA.out.lt|(simp;done)|(simp;omega)) _).far (by first|with_reducible exact Nat.ne_of_lt KA.out.lt|(simp;done)|(simp;omega)) _).cell|with_reducible exact(KB.out.alloc _).cell|with_reducible exact KB.out.cell|with_reducible exact(KA.out.alloc _).cell|with_reducible exact KA.out.cell|exact HKa.out.cell|exact(HKa.out.alloc _).cell) (first|(go_at_call 92;refine(c_clones _ x.zR _ HS.out.1 (T.yC R1.out (by first|with_reducible exact HBa.out|with_reducible exact HBa.out.drew|with_reducible exact below_drewN HBa.out _|with_reducible exact HBa.out.alloc (by first|(simp;done)|(simp;omega)|omega) _|with_reducible exact(HBa.out.alloc (by first|(simp;done)|(simp;omega)|omega) _).drew|with_reducible exact(HBa.out.drew).alloc (by first|(simp;done)|(simp;omega)|omega) _|with_reducible exact below_drewN (HBa.out.alloc (by first|(simp;done)|(simp;omega)|omega) _) _|with_reducible exact(below_drewN HBa.out _).alloc (by first|(simp;done)|(simp;omega)|omega) _))).mono ?_;rintro e wA ⟨vA,FA,rfl,hoA,hbA⟩;obtain⟨tA,lA,cA,rfl⟩:=T.yT hoA.ow;have OA:=hide hoA;have CA:=hide (show Below ((w.alloc (.cells #[.int .i64 x.zM,(.slice va1 x.zR.length vc1),(.slice va2 x.zH.length vc2),(.slice va3 x.zN.length vc3)] 130)).alloc (.cells #[.int .i64 0,.slice none 0 0,.slice none 0 0,.slice none 0 0] 130)).heap.size ((w.alloc (.cells #[.int .i64 x.zM,(.slice va1 x.zR.length vc1),(.slice va2 x.zH.length vc2),(.slice va3 x.zN.length vc3)] 130)).alloc (.cells #[.int .i64 0,.slice none 0 0,.slice none 0 0,.slice none 0 0] 130)) wA from(by first|with_reducible exact hbA|with_reducible exact undrew hbA|with_reducible exact undrewN hbA|with_reducible exact yJ hbA|with_reducible exact undrew (yJ hbA)|with_reducible exact yJ (undrew hbA)|with_reducible exact undrewN (yJ hbA)|with_reducible exact yJ (undrewN hbA)));have KA:=hide (HKa.out.below CA.out HKa.out.lt);have RA:=hide (HRa.out.below CA.out HRa.out.lt);(try ((first|have gA:=Bk.below (Bk.born _ _ _) hbA (by simp)|have gA:=Bk.below (Bk.drew (Bk.born _ _ _)) hbA (by simp));rw[HE2.out] at gA;have GA:=hide gA;clear gA;have ga:=GA.out.cell;have gaf:=GA.out.free));clear hoA hbA)|(go_at_call 57;refine(c_clone _ x.zN _ (Rd.below R3.out (yG HBa.out HBa.out.size (by first|with_reducible exact CA.out|with_reducible exact CA.out.drew|with_reducible exact below_drewN CA.out _|with_reducible exact CA.out.alloc (CA.out.size) _|with_reducible exact(CA.out.drew).alloc (CA.out.size) _|with_reducible exact(CA.out.alloc (CA.out.size) _).drew|with_reducible exact below_drewN (CA.out.alloc (CA.out.size) _) _))) HS.out.2.2).mono ?_;rintro e wB ⟨vB,rfl,hoB,hbB⟩;obtain⟨tB,cB,rfl,-,-,-⟩:=hoB.rd.open_;have OB:=hide (Nv.ints hoB hbB);have CB:=hide (show Below wA.heap.size wA wB from(by first|with_reducible exact hbB|with_reducible exact undrew hbB|with_reducible exact undrewN hbB|with_reducible exact yJ hbB|with_reducible exact undrew (yJ hbB)|with_reducible exact yJ (undrew hbB)|with_reducible exact yJ (undrewN hbB)));have KB:=hide (KA.out.below CB.out KA.out.lt);have RB:=hide (RA.out.below CB.out RA.out.lt);(try (have GB:=hide (Bk.below (Bk.born _ _ _) hbB (by simp));have gb:=GB.out.cell;have gbf:=GB.out.free));(try (have GC:=hide (GA.out.below CB.out GA.out.lt);have gc:=GC.out.cell;have gcf:=GC.out.free));clear hoB hbB))
 ·-- the alloc comes last
  have ow:T.ows wB [T.sl 24 1 (x.zR.map (T.ints 2)),T.ints 2 x.zN] (FA++(_++ [])) [.slice tA lA cA,.slice tB x.zN.length cB]:=T.c_ol (T.ow_all OA.out.ow CB.out) (T.c_ol OB.out.ow T.c_oe)
  have s1:=CA.out.size;have s2:=CB.out.size;rw[HE2.out] at s1
  have la: ∀ b ∈ FA,w.heap.size+2≤b:=fun b hb=>by have h1:=OA.out.lo b hb;(try simp at h1);omega
  have ta:=OA.out.lt;have lb:=OB.out.lo;have tb:=OB.out.lt
  have hwb:Below w.heap.size w wB:=yG (yG HBa.out HBa.out.size CA.out) (yG HBa.out HBa.out.size CA.out).size CB.out
  have nd:(FA++(_++ [])).Nodup:=nodup_app OA.out.nodup (by rw[List.append_nil];exact OB.out.nodup) (fun b hb hm=>by rw[List.append_nil] at hm;have h1:=ta b hb;have h2:=lb b hm;(try simp at h2);omega)
  have lo: ∀ b ∈ FA++(_++ []),w.heap.size+2≤b:=fun b hb=>by rw[List.append_nil] at hb;rcases List.mem_append.1 hb with h|h;(· exact la b h);(· have h2:=lb b h;(try simp at h2);omega)
  exact REST wB.heap.size _ _ _ _ _ _ _ _ _ _ _ _ _ _ _ _ _ (KB.out.alloc _) (RB.out.alloc _) (Bk.born _ _ _) (T.ows_all ow ((Below.refl _ _).alloc (Nat.le_refl _) _)) nd lo (fun hm=>by rw[List.append_nil] at hm;rcases List.mem_append.1 hm with h|h;(· have h1:=ta _ h;have h2:=OA.out.lo _ h;(try simp at h2);omega);(· have h1:=tb _ h;have h2:=lb _ h;(try simp at h2);omega)) (by omega) (hwb.alloc hwb.size _)
 ·
  have ow:T.ows wB [T.sl 24 1 (x.zR.map (T.ints 2)),T.ints 2 x.zN] (FA++(_++ [])) [.slice tA lA cA,.slice tB x.zN.length cB]:=T.c_ol (T.ow_all OA.out.ow CB.out) (T.c_ol OB.out.ow T.c_oe)
  have s1:=CA.out.size;have s2:=CB.out.size;rw[HE2.out] at s1
  have la: ∀ b ∈ FA,w.heap.size+2≤b:=fun b hb=>by have h1:=OA.out.lo b hb;(try simp at h1);omega
  have ta:=OA.out.lt;have lb:=OB.out.lo;have tb:=OB.out.lt
  have hwb:Below w.heap.size w wB:=yG (yG HBa.out HBa.out.size CA.out) (yG HBa.out HBa.out.size CA.out).size CB.out
  have nd:(FA++(_++ [])).Nodup:=nodup_app OA.out.nodup (by rw[List.append_nil];exact OB.out.nodup) (fun b hb hm=>by rw[List.append_nil] at hm;have h1:=ta b hb;have h2:=lb b hm;(try simp at h2);omega)
  have lo: ∀ b ∈ FA++(_++ []),w.heap.size+2≤b:=fun b hb=>by rw[List.append_nil] at hb;rcases List.mem_append.1 hb with h|h;(· exact la b h);(· have h2:=lb b h;(try simp at h2);omega)
  have g1:w.heap.size≠wA.heap.size:=by omega
  have g2:w.heap.size+1≠wA.heap.size:=by omega
  have gf:wA.heap.size ∉ FA++(_++ []):=(fun hm=>by rw[List.append_nil] at hm;rcases List.mem_append.1 hm with h|h;(· have h1:=ta _ h;have h2:=OA.out.lo _ h;(try simp at h2);omega);(· have h1:=tb _ h;have h2:=lb _ h;(try simp at h2);omega))
  have gl:w.heap.size≤wA.heap.size:=by omega
  exact REST (wA.heap.size) _ _ _ _ _ _ _ _ _ _ _ _ _ _ _ _ _ ((((KB.out.far g1 _).far g1 _).far g1 _).far g1 _) ((((RB.out.far g2 _).far g2 _).far g2 _).far g2 _) ((((GB.out.set_ _ _).set_ _ _).set_ _ _).set_ _ _) (T.yM (T.yM (T.yM (T.yM ow gf _ _) gf _ _) gf _ _) gf _ _) nd lo gf (by omega) ((((hwb.setCell gl _).setCell gl _).setCell gl _).setCell gl _)
 ·
  have ow:T.ows wB [T.sl 24 1 (x.zR.map (T.ints 2)),T.ints 2 x.zN] (FA++(_++ [])) [.slice tA lA cA,.slice tB x.zN.length cB]:=T.c_ol (T.ow_all OA.out.ow CB.out) (T.c_ol OB.out.ow T.c_oe)
  have s1:=CA.out.size;have s2:=CB.out.size;rw[HE2.out] at s1
  have la: ∀ b ∈ FA,w.heap.size+2≤b:=fun b hb=>by have h1:=OA.out.lo b hb;(try simp at h1);omega
  have ta:=OA.out.lt;have lb:=OB.out.lo;have tb:=OB.out.lt
  have hwb:Below w.heap.size w wB:=yG (yG HBa.out HBa.out.size CA.out) (yG HBa.out HBa.out.size CA.out).size CB.out
  have nd:(FA++(_++ [])).Nodup:=nodup_app OA.out.nodup (by rw[List.append_nil];exact OB.out.nodup) (fun b hb hm=>by rw[List.append_nil] at hm;have h1:=ta b hb;have h2:=lb b hm;(try simp at h2);omega)
  have lo: ∀ b ∈ FA++(_++ []),w.heap.size+2≤b:=fun b hb=>by rw[List.append_nil] at hb;rcases List.mem_append.1 hb with h|h;(· exact la b h);(· have h2:=lb b h;(try simp at h2);omega)
  have s3:=GA.out.lt
  have g1:w.heap.size≠(w.heap.size+1+1):=by omega
  have g2:w.heap.size+1≠(w.heap.size+1+1):=by omega
  have gf:(w.heap.size+1+1) ∉ FA++(_++ []):=(fun hm=>by rw[List.append_nil] at hm;rcases List.mem_append.1 hm with h|h;(· have h1:=ta _ h;have h2:=OA.out.lo _ h;(try simp at h2);omega);(· have h1:=tb _ h;have h2:=lb _ h;(try simp at h2);omega))
  have gl:w.heap.size≤(w.heap.size+1+1):=by omega
  exact REST ((w.heap.size+1+1)) _ _ _ _ _ _ _ _ _ _ _ _ _ _ _ _ _ ((((KB.out.far g1 _).far g1 _).far g1 _).far g1 _) ((((RB.out.far g2 _).far g2 _).far g2 _).far g2 _) ((((GC.out.set_ _ _).set_ _ _).set_ _ _).set_ _ _) (T.yM (T.yM (T.yM (T.yM ow gf _ _) gf _ _) gf _ _) gf _ _) nd lo gf (by omega) ((((hwb.setCell gl _).setCell gl _).setCell gl _).setCell gl _)
end Go.Proofs.YteiflbhcehajkaaGreat
end
