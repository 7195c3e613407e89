/- Contract: the text of a patch, by the program. Laws for data that is marked cell by cell. No program is named here. Growing a slice of data of the call's own, one element at a time. No program is named here. One element of a slice of the call's own turned. No program is named here. copy between slices whose elements take several cells. No program is named here. A slice of the call's own that grows beside other data of its own. No program is named here. Regions that draw their order and end in some operations, each behind all others, that store over cells which the region has loaded. No program is named here. -/
import Derived.Test.YtbgedljbgkcpiaaGreatDoorQApExactDiffSessions
import Derived.Test.YtbgedljbgkcpiaaGreatDoorQAiExactDiffSessions
import Derived.Test.YtbgedljbgkcpiaaGreatDoorQAhExactDiffSessions
import Derived.Deep.RegionHeldLaw
import Derived.Laws.CopyOwn
import Derived.Lib.Overlaps
import Derived.Lib.AppendZeros
import Derived.Deep.Quiet
import Derived.StillTail
set_option linter.unusedVariables false
set_option linter.unusedSimpArgs false
set_option maxHeartbeats 2000000
set_option maxRecDepth 20000
section
namespace Go.Proofs.YtbgedljbgkcpiaaGreatDoor
open Go.RowKit
theorem join_of (ls:List (List UInt8)) (h:ls≠ []):(Lib.join ((ls.map mkS).map (fun s:ByteArray=>s.data.toList)) [10]).length+1=(linesL ls).length∧mkS (Lib.join ((ls.map mkS).map (fun s:ByteArray=>s.data.toList)) [10])++(⟨#[10]⟩:ByteArray)=mkS (linesL ls):=by
 rw[dat_map,←join_lines ls h]
 constructor
 ·simp
 ·exact mkS_append _ [10]
theorem c_patchText (x:GPatch) (cs:List Value) (w:World) (hF:FormedOk x) (hg:x.good) (hs:x.small) (ht:TB w) (h:T.rds w x.fs cs):Calls Tryz.prog 76 #[.agg cs.toArray] w fun e w'=>e= .returned (.string (mkS (patchL x)))∧Below w.heap.size w w':=by
 obtain⟨v1,v2,v3,rfl,h1,h2,h3⟩:=GPatch.yM h
 clear h
 have R1:=hide h1;obtain⟨va1,vc1,rfl,vl1,vm1,vx1⟩:=T.yL h1
 have HX1:=hide vx1;clear vx1 h1
 have R2:=hide h2;obtain⟨va2,vc2,rfl,vl2,vm2,vx2⟩:=T.yL h2
 have HX2:=hide vx2;clear vx2 h2
 have h3i:=T.yQ.1 h3;obtain⟨va3,vc3,rfl,vl3,vm3,vx3⟩:=h3i.open_
 have R3:=hide h3i;have HX3:=hide vx3;clear vx3 h3 h3i
 have HB0:=hide (show Below w.heap.size w (w.alloc (.cells #[.int .i64 x.zJ,(.slice va1 x.zN.length vc1),(.slice va2 x.zD.length vc2),(.slice va3 x.zK.length vc3)] 102)) from(Below.refl _ _).alloc (Nat.le_refl _) _)
 have HK0:=hide (Bk.born w 102 #[.int .i64 x.zJ,(.slice va1 x.zN.length vc1),(.slice va2 x.zD.length vc2),(.slice va3 x.zK.length vc3)])
 have HTB:=hide ht;have HF:=hide hF;have HPL:=hide (patch_len hF hg);have HJO:=hide (join_of (patchLs x) (by simp[patchLs]));rw[patch_lines] at HJO
 have GI:=hide hg.1;have GT:=hide hg.2.1;have GN:=hide hg.2.2.1;have GO:=hide hg.2.2.2;have ST:=hide hs.1;have SO:=hide hs.2.2;clear hg hs hF ht
 have zI:(decS x.zJ).size≤21:=by unfold decS;rw[size_mkS];exact dec_len GI.out
 have HW1:=hide (show (⟨#[112,97,116,99,104,32]⟩:ByteArray)++decS x.zJ=mkS (wrdL [112,97,116,99,104] [x.zJ]) by apply str_is;simp[dat_app,dat_dec,wrdL,blanks,blankL])
 have hp6:(⟨#[112,97,116,99,104,32]⟩:ByteArray).size=6:=rfl
 have hpL:patchLs x= [wrdL [112,97,116,99,104] [x.zJ]]++x.zN.map (wrdL [118,97,108,117,101,115])++x.zD.map nodeL++ [wrdL [111,117,116] x.zK]:=rfl
 have HPS:=hide hpL;clear hpL
 generalize hT:patchL x=tx at *;clear hT
 have HTB0:=hide (HTB.out.below HB0.out)
 go_enter Tryz.func76,Tryz.ntmps76
 have ka:=HK0.out.cell;have la:=HK0.out.lt
 go_wp2_with fail
 refine(c_iDec x.zJ _ HTB0.out GI.out.1 GI.out.2).mono ?_;rintro e w1 ⟨rfl,hb⟩
 have HC1:=hide hb;have HB1:=hide (yH HB0.out HB0.out.size hb);have HK1:=hide (HK0.out.below hb HK0.out.lt);clear hb ka la;have ka:=HK1.out.cell;have la:=HK1.out.lt
 obtain⟨l0,hl0⟩: ∃ l0,(⟨#[112,97,116,99,104,32]⟩:ByteArray)++decS x.zJ=l0:=⟨_,rfl⟩
 have HX0:=hide (show mkS (wrdL [112,97,116,99,104] [x.zJ])=l0 by rw[←hl0,HW1.out])
 have z1:l0.size≤27:=by rw[←hl0,ByteArray.size_append,hp6];omega
 have HO2:=hide (str_own1 w1 l0)
 have HA:=hide (show Below w1.heap.size w1 (w1.alloc (.cells #[.string l0] 9)) from(Below.refl _ _).alloc (Nat.le_refl _) _)
 have HK2:=hide (HK1.out.below HA.out HK1.out.lt);have HB2:=hide (yH HB1.out HB1.out.size HA.out);clear ka la;have ka:=HK2.out.cell;have la:=HK2.out.lt
 go_wp2
 clear hl0
 go_loopw [3,16] (fun o i wr=> ∃ k:Nat,k≤x.zN.length∧i= .int .i64 (k:Int)∧OwS 9 wr w1.heap.size o (l0 :: ((x.zN.take k).map fun t=>mkS (wrdL [118,97,108,117,101,115] t)))∧Below w1.heap.size w1 wr) (fun _ i _=>x.zN.length - (intOf i).toNat)
 case atStart=>exact⟨0,Nat.zero_le _,rfl,HO2.out,HA.out⟩
 case round=>
  obtain⟨k,hk,rfl,ho,hbw⟩:=hrel
  have HO:=hide ho;have HW:=hide hbw;have HB:=hide (yH HB1.out HB1.out.size hbw);have HK:=hide (HK1.out.below hbw HK1.out.lt);clear ho hbw ka la
  have ka:=HK.out.cell;have la:=HK.out.lt
  by_cases hlt:k<x.zN.length
  ·
   have hgk:=List.getElem?_eq_getElem hlt
   obtain⟨b1,off,cs1,rfl,hb1,hcs,hcell⟩:=HX1.out k x.zN[k] hgk
   have hgl:=GT.out x.zN[k] (List.getElem_mem hlt);have hsl:=ST.out.2 x.zN[k] (List.getElem_mem hlt)
   generalize x.zN[k]=l at *
   have HG:=hide hgk;have GL:=hide hgl;have SL:=hide hsl;clear hgk hgl hsl
   obtain⟨u3,rfl⟩:=T.rd_one hcs
   have d0:=(HB.out.cell hb1).trans (hcell 0 u3 rfl)
   rw[Nat.mul_one,Nat.add_zero] at d0
   have hb2:b1<wr.heap.size:=Nat.lt_of_lt_of_le hb1 HB.out.size
   have RL:=hide (T.yQ.1 hcs);clear hcs hcell
   obtain⟨A3,c3,rfl,l3,m3,x3⟩:=RL.out.open_;clear x3
   have hlk:(l0 :: ((x.zN.take k).map fun t=>mkS (wrdL [118,97,108,117,101,115] t))).length≤1048577:=by simp only[List.length_cons,List.length_map,List.length_take];have:=ST.out.1;omega
   go_wp2_with fail
   refine(c_spaced ⟨#[118,97,108,117,101,115]⟩ _ l _ (Rd.below RL.out HB.out) GL.out SL.out (by decide) (HTB.out.below HB.out)).mono ?_;rintro e w3 ⟨rfl,hb⟩
   have HW3:=hide (yH HW.out HW.out.size hb);have HO3:=hide (HO.out.all hb);have hs3:=HW3.out.size;clear hb
   go_wp2_with (at_builtin;refine app1_str rfl _ _ rfl rfl HO3.out rfl (by omega) hs3 ?_;intro v8 w8 ho8 hg8 hv8;have HO8:=hide ho8;have HW8:=hide (below_own HW3.out HO3.out.2 hg8 (Nat.le_refl _) hs3);clear ho8 hg8 hv8)
   go_roundw
   case rel=>exact⟨k+1,by omega,by go_num,by rw[take_snoc_of HG.out,List.map_append];exact HO8.out,HW8.out⟩
   case measure=>simp[intOf];omega
  obtain rfl:k=x.zN.length:=by omega
  have HOT:=hide (show OwS 9 wr w1.heap.size _ (l0 :: x.zN.map fun t=>mkS (wrdL [118,97,108,117,101,115] t)) by have:=HO.out;rwa [List.take_length] at this)
  clear HO hlt hk
  generalize hLT:x.zN.map (fun t=>mkS (wrdL [118,97,108,117,101,115] t))=lt at *;have HLT:=hide hLT;clear hLT
  have hltl:lt.length≤1048576:=by rw[←HLT.out,List.length_map];exact ST.out.1
  have HW4:=HW;have HB4:=HB;have HK4:=HK;clear HW HB HK
  go_wp2
  go_loopw [3,29] (fun o i wr=> ∃ k:Nat,k≤x.zD.length∧i= .int .i64 (k:Int)∧OwS 9 wr w1.heap.size o ((l0 :: lt)++((x.zD.take k).map fun y=>mkS (nodeL y)))∧Below w1.heap.size w1 wr) (fun _ i _=>x.zD.length - (intOf i).toNat)
  case atStart=>exact⟨0,Nat.zero_le _,rfl,by rw[List.take_zero,List.map_nil,List.append_nil];exact HOT.out,HW4.out⟩
  case round=>
   obtain⟨k,hk,rfl,ho,hbw⟩:=hrel
   have HO:=hide ho;have HW:=hide hbw;have HB:=hide (yH HB1.out HB1.out.size hbw);have HK:=hide (HK1.out.below hbw HK1.out.lt);clear ho hbw ka la
   have ka:=HK.out.cell;have la:=HK.out.lt
   by_cases hlt:k<x.zD.length
   ·
    have hgk:=List.getElem?_eq_getElem hlt
    obtain⟨b1,off,cs1,hA,hb1,hcs,hcell⟩:=HX2.out k x.zD[k] hgk
    subst hA
    generalize x.zD[k]=y at *
    have HG:=hide hgk;clear hgk
    obtain⟨u3,rfl,hRY3⟩:=GNode.yM (show T.rds _ _ _ by simpa only[GNode.t,T.rd] using hcs)
    have d0:=(HB.out.cell hb1).trans (hcell 0 (.int .i64 y.zC) rfl)
    have d1:=(HB.out.cell hb1).trans (hcell 1 (.int .i64 y.fA) rfl)
    have d2:=(HB.out.cell hb1).trans (hcell 2 (.int .i64 y.fB) rfl)
    have d3:=(HB.out.cell hb1).trans (hcell 3 (u3) rfl)
    rw[show off+(k * 4+0)=off+k * 4 by omega] at d0
    rw[show off+(k * 4+1)=off+k * 4+1 by omega] at d1
    rw[show off+(k * 4+2)=off+k * 4+2 by omega] at d2
    rw[show off+(k * 4+3)=off+k * 4+3 by omega] at d3
    have RY3:=hide (T.yD hRY3 HB.out);clear hRY3
    clear hcs hcell
    have RY3i:=hide (T.yQ.1 RY3.out);obtain⟨ua3,uc3,rfl,ul3,um3,ux3⟩:=RY3i.out.open_;clear ux3
    have hq1:b1<wr.heap.size:=Nat.lt_of_lt_of_le hb1 HB.out.size
    have hok:=(HF.out.nodes k y HG.out).1;have GY:=hide (GN.out y (List.mem_of_getElem? HG.out))
    have har:y.zG.length≤24:=by have:=hok.arity;have:=knd_in y.zC;omega
    have HKY:=hide hok.kind;clear hok
    have HWX:=hide (show Below w1.heap.size w1 (wr.alloc (.cells #[.int .i64 y.zC,.int .i64 y.fA,.int .i64 y.fB,(.slice ua3 y.zG.length uc3)] 160)) from HW.out.alloc HW.out.size _)
    have HOX:=hide (HO.out.all (show Below wr.heap.size wr (wr.alloc (.cells #[.int .i64 y.zC,.int .i64 y.fA,.int .i64 y.fB,(.slice ua3 y.zG.length uc3)] 160)) from(Below.refl _ _).alloc (Nat.le_refl _) _))
    have HBX:=hide (show Below w.heap.size w (wr.alloc (.cells #[.int .i64 y.zC,.int .i64 y.fA,.int .i64 y.fB,(.slice ua3 y.zG.length uc3)] 160)) from HB.out.alloc HB.out.size _)
    have hlk:((l0 :: lt)++((x.zD.take k).map fun y=>mkS (nodeL y))).length≤1048700:=by simp only[List.length_append,List.length_cons,List.length_map,List.length_take];have:=HF.out.few;omega
    go_wp2_with fail
    refine(c_nodeText y _ _ HKY.out har GY.out (HTB.out.below HBX.out) (GNode.rd_mk (T.yQ.2 (Rd.below RY3i.out ((Below.refl _ _).alloc (Nat.le_refl _) _))))).mono ?_;rintro e w3 ⟨rfl,hb⟩
    have HW3:=hide (yH HWX.out HWX.out.size hb);have HO3:=hide (HOX.out.all hb);have hs3:=HW3.out.size;clear hb
    go_wp2_with (at_builtin;refine app1_str rfl _ _ rfl rfl HO3.out rfl (by omega) hs3 ?_;intro v8 w8 ho8 hg8 hv8;have HO8:=hide ho8;have HW8:=hide (below_own HW3.out HO3.out.2 hg8 (Nat.le_refl _) hs3);clear ho8 hg8 hv8)
    go_roundw
    case rel=>exact⟨k+1,by omega,by go_num,by rw[take_snoc_of HG.out,List.map_append,←List.append_assoc];exact HO8.out,HW8.out⟩
    case measure=>simp[intOf];omega
   obtain rfl:k=x.zD.length:=by omega
   have HON:=hide (show OwS 9 wr w1.heap.size _ ((l0 :: lt)++x.zD.map fun y=>mkS (nodeL y)) by have:=HO.out;rwa [List.take_length] at this)
   clear HO hlt hk
   have hlk:((l0 :: lt)++x.zD.map fun y=>mkS (nodeL y)).length≤1048700:=by simp only[List.length_append,List.length_cons,List.length_map];have:=HF.out.few;omega
   go_wp2_with fail
   refine(c_spaced ⟨#[111,117,116]⟩ _ x.zK _ (Rd.below R3.out HB.out) GO.out SO.out (by decide) (HTB.out.below HB.out)).mono ?_;rintro e w5 ⟨rfl,hb⟩
   have HW5:=hide (yH HW.out HW.out.size hb);have HO5:=hide (HON.out.all hb);have hs5:=HW5.out.size;clear hb
   have HLL:=hide (show ((l0 :: lt)++x.zD.map fun y=>mkS (nodeL y))++ [mkS (wrdL (⟨#[111,117,116]⟩:ByteArray).data.toList x.zK)]=(patchLs x).map mkS by rw[HPS.out,←HLT.out,←HX0.out];simp only[List.map_append,List.map_cons,List.map_nil,List.map_map];rfl)
   have hjl:(Lib.join (((patchLs x).map mkS).map (fun s:ByteArray=>s.data.toList)) [10]).length≤20000:=by have:=HJO.out.1;have:=HPL.out;omega
   have HJL:=hide hjl;clear hjl
   have h10:(⟨#[10]⟩:ByteArray).size=1:=rfl
   have zj:(mkS (Lib.join (((patchLs x).map mkS).map (fun s:ByteArray=>s.data.toList)) [10])).size≤20000:=by rw[size_mkS];exact HJL.out
   have HJ2:=hide HJO.out.2
   obtain⟨js,hjs⟩: ∃ js,mkS (Lib.join (((patchLs x).map mkS).map (fun s:ByteArray=>s.data.toList)) [10])=js:=⟨_,rfl⟩
   rw[hjs] at zj HJ2
   have HCJ:=hide (fun(W:World) (v:Value) (hr:RdS W v ((patchLs x).map mkS))=>(by have:=c_join v ((patchLs x).map mkS) ⟨#[10]⟩ W hr (by have h:=congrArg List.length HLL.out;rw[←h,List.length_append];simp only[List.length_cons,List.length_nil];omega) (Nat.le_trans HJL.out (by decide));rw[show (⟨#[10]⟩:ByteArray).data.toList= [10] from rfl,hjs] at this;exact this:Calls Tryz.prog 112 #[v,.string ⟨#[10]⟩] W fun e w'=>e= .returned (.string js)∧Below W.heap.size W w'))
   clear hjs
   go_wp2_with (first|(at_builtin;refine app1_str rfl _ _ rfl rfl HO5.out rfl (by omega) hs5 ?_;intro v8 w8 ho8 hg8 hv8;rw[HLL.out] at ho8;have HO8:=hide ho8;have HW8:=hide (below_own HW5.out HO5.out.2 hg8 (Nat.le_refl _) hs5);clear ho8 hg8 hv8)|(go_at_call 112;refine(HCJ.out _ _ HO8.out.rd).mono ?_;rintro e w9 ⟨rfl,hb9⟩;have HB9:=hide (yH HB1.out HB1.out.size (yH HW8.out HW8.out.size hb9));clear hb9))
   go_ret
   exact⟨ret_str (by rw[←HJ2.out]),HB9.out⟩
end Go.Proofs.YtbgedljbgkcpiaaGreatDoor
end
section
namespace Go.Proofs.YtbgedljbgkcpiaaGreatDoor
open Go.RowKit
def cntL {α:Type} (c:α→Nat):List α→Nat
 | []=>0
 |x :: r=>c x+cntL c r
def mkL {α:Type} (m:α→Nat→α) (c:α→Nat):List α→Nat→List α
 | [],_=> []
 |x :: r,k=>m x k :: mkL m c r (k+c x)
section
variable {α:Type} {m:α→Nat→α} {c:α→Nat}
theorem length_mkL: ∀ (xs:List α) (k:Nat),(mkL m c xs k).length=xs.length
 | [],_=>rfl
 |x :: r,k=>by simp[mkL,length_mkL r]
theorem cntL_snoc: ∀ (xs:List α) (x:α),cntL c (xs++ [x])=cntL c xs+c x
 | [],x=>by simp[cntL]
 |y :: r,x=>by simp only[List.cons_append,cntL,cntL_snoc r];omega
theorem mkL_snoc: ∀ (xs:List α) (x:α) (k:Nat),mkL m c (xs++ [x]) k=mkL m c xs k++ [m x (k+cntL c xs)]
 | [],x,k=>by simp[mkL,cntL]
 |y :: r,x,k=>by simp only[List.cons_append,mkL,cntL,mkL_snoc r];rw[Nat.add_assoc]
theorem cntL_take {xs:List α} {i:Nat} {x:α} (h:xs[i]?=some x):cntL c (xs.take (i+1))=cntL c (xs.take i)+c x:=by rw[take_snoc_of h,cntL_snoc]
theorem mkL_take {xs:List α} {i k:Nat} {x:α} (h:xs[i]?=some x):mkL m c (xs.take (i+1)) k=mkL m c (xs.take i) k++ [m x (k+cntL c (xs.take i))]:=by rw[take_snoc_of h,mkL_snoc]
theorem cntL_le: ∀ (xs:List α) (i:Nat),cntL c (xs.take i)≤cntL c xs
 | [],i=>by simp[cntL]
 |x :: r,0=>by simp[cntL]
 |x :: r,i+1=>by simp only[List.take_succ_cons,cntL];have:=cntL_le r i;omega
end
section
variable {w w' a b:World} {F G:List Nat}
theorem Trn.refl (F:List Nat) (w:World):Trn F w w:=⟨rfl,rfl,rfl,Nat.le_refl _,fun _ _ _=>rfl⟩
theorem Trn.trans (h:Trn F w a) (k:Trn F a b):Trn F w b:=
 ⟨k.os.trans h.os,k.tape.trans h.tape,k.output.trans h.output,Nat.le_trans h.size k.size,fun x hx hn=>(k.block x (Nat.lt_of_lt_of_le hx h.size) hn).trans (h.block x hx hn)⟩
theorem Trn.mono (h:Trn F w w') (hs: ∀ b ∈ F,b ∈ G):Trn G w w':=⟨h.os,h.tape,h.output,h.size,fun x hx hn=>h.block x hx (fun e=>hn (hs x e))⟩
theorem Trn.of_below (h:Below w.heap.size w w'):Trn F w w':=⟨h.os,h.tape,h.output,h.size,fun x hx _=>h.block x hx⟩
theorem Trn.set_ {g:Nat} (hg:g ∈ F) (o:Nat) (u:Value):Trn F w (w.setCell ⟨g,o,none⟩ u):=
 ⟨rfl,rfl,rfl,by simp[World.setCell],fun x _ hn=>Below.heap_setCell w _ u x (fun e=>hn (by rw[show x=g from e];exact hg))⟩
theorem Trn.alloc (o:Obj):Trn F w (w.alloc o):=Trn.of_below ((Below.refl _ _).alloc (Nat.le_refl _) o)
theorem Trn.of_grown {v:Value} (h:w.grownBy w' v.ownBlock):Trn v.ownBlock.toList w w':=
 ⟨h.os,h.tape,h.output,h.size,fun x hx hn=>h.block x hx (fun e=>hn (by rw[←e];simp))⟩
theorem Trn.below {B:Nat} {w0:World} (hb:Below B w0 w) (h:Trn F w w') (hF: ∀ b ∈ F,B≤b) (hB:B≤w.heap.size):Below B w0 w':=
 hb.trans ⟨h.os,h.tape,h.output,h.size,fun k hk=>h.block k (by omega) (fun e=>by have:=hF k e;omega)⟩
theorem T.ow_trn {x:T} {cs:List Value} (h:T.ow w x F cs) (k:Trn G w w') (hd: ∀ b ∈ F,b ∉ G):T.ow w' x F cs:=
 T.ow_keep x F cs (fun b hb=>k.block b (T.ow_lt x F cs h b hb) (hd b hb)) h
theorem T.ows_trn {xs:List T} {cs:List Value} (h:T.ows w xs F cs) (k:Trn G w w') (hd: ∀ b ∈ F,b ∉ G):T.ows w' xs F cs:=
 T.ows_keep xs F cs (fun b hb=>k.block b (T.ows_lt xs F cs h b hb) (hd b hb)) h
theorem own_trn {B E sz n g cap:Nat} {es:List Value} (h:w.ownsRow B E sz (.slice (some ⟨g,0,none⟩) n cap) n es) (k:Trn G w w') (hd:g ∉ G):w'.ownsRow B E sz (.slice (some ⟨g,0,none⟩) n cap) n es:=
 ownsRow_keep (fun b hb=>by
  have e:g=b:=by simpa[Value.ownBlock] using hb
  subst e
  exact k.block _ (h.lt _ rfl).2 hd) h
theorem Bk.trn {g:Nat} {t:TypeId} {cs:Array Value} (h:Bk w g t cs) (k:Trn G w w') (hd:g ∉ G):Bk w' g t cs:=(k.block g h.lt hd).trans h
end
theorem nodup_fst {A B:List Nat} (h:(A++B).Nodup):A.Nodup:=(List.nodup_append.1 h).1
theorem yN {A B:List Nat} (h:(A++B).Nodup):B.Nodup:=(List.nodup_append.1 h).2.1
theorem nodup_dj {A B:List Nat} (h:(A++B).Nodup): ∀ b ∈ A,b ∉ B:=fun b h1 h2=>(List.nodup_append.1 h).2.2 b h1 b h2 rfl
theorem nodup_dj' {A B:List Nat} (h:(A++B).Nodup): ∀ b ∈ B,b ∉ A:=fun b h1 h2=>(List.nodup_append.1 h).2.2 b h2 b h1 rfl
theorem own_set1 {w:World} {B E sz n g cap j:Nat} {c1 cx c2:List Value} {u:Value} (h:w.ownsRow B E sz (.slice (some ⟨g,0,none⟩) n cap) n (c1++(cx++c2))) (hj:j<cx.length):
  (w.setCell ⟨g,c1.length+j,none⟩ u).ownsRow B E sz (.slice (some ⟨g,0,none⟩) n cap) n (c1++(cx.set j u++c2)):=by
 have:=(World.ownsRow.stored h (c1.length+j) u).1
 rw[List.set_append_right _ _ (by omega),Nat.add_sub_cancel_left,List.set_append_left _ _ hj] at this
 exact this
/-- A slice of the call's own, open at one element. -/
structure Mid (w:World) (E:TypeId) (sz n g cap:Nat) (pre:List T) (x:T) (post:List T) (G1 Fx G2:List Nat) (c1 cx c2:List Value):Prop where
 own:w.ownsRow 0 E sz (.slice (some ⟨g,0,none⟩) n cap) n (c1++(cx++c2))
 pr:T.ows w pre G1 c1
 el:T.ow w x Fx cx
 po:T.ows w post G2 c2
 nd:(g :: (G1++(Fx++G2))).Nodup
 wd: ∀ y ∈ pre++x :: post,T.wide y=sz
 ln:n=(pre++x :: post).length
theorem T.mid {w:World} {E:TypeId} {sz:Nat} {pre:List T} {x:T} {post:List T} {F:List Nat} {v:Value} (h:T.ow w (.sl E sz (pre++x :: post)) F [v]) (hn:F.Nodup):
  ∃ n g cap G1 Fx G2 c1 cx c2,v= .slice (some ⟨g,0,none⟩) n cap∧F=g :: (G1++(Fx++G2))∧Mid w E sz n g cap pre x post G1 Fx G2 c1 cx c2:=by
 simp only[T.ow] at h
 obtain⟨v',es,G,hv,rfl,hw,ho,hs⟩:=h
 obtain rfl:v=v':=by simpa using hv
 obtain⟨G1,F2,c1,c3,rfl,rfl,h1,h2⟩:=(T.ows_app _ _ _ _).1 hs
 simp only[T.ows] at h2
 obtain⟨Fx,G2,cx,c2,rfl,rfl,h3,h4⟩:=h2
 rcases ho.2 with ⟨_,h0⟩|⟨g,cap,cur,hv2,_⟩
 ·simp at h0
 ·subst hv2
  exact⟨_,g,cap,G1,Fx,G2,c1,cx,c2,rfl,by simp[Value.ownBlock],ho,h1,h3,h4,by simpa[Value.ownBlock] using hn,hw,rfl⟩
theorem Mid.c1 {w:World} {E:TypeId} {sz n g cap:Nat} {pre:List T} {x:T} {post:List T} {G1 Fx G2:List Nat} {c1 cx c2:List Value} (h:Mid w E sz n g cap pre x post G1 Fx G2 c1 cx c2):c1.length=pre.length * sz:=by
 rw[T.ows_len h.pr,T.wides_mul pre (fun y hy=>h.wd y (by simp[hy]))]
theorem Mid.gx {w:World} {E:TypeId} {sz n g cap:Nat} {pre:List T} {x:T} {post:List T} {G1 Fx G2:List Nat} {c1 cx c2:List Value} (h:Mid w E sz n g cap pre x post G1 Fx G2 c1 cx c2):g ∉ Fx:=fun hm=>by
 have:=(List.nodup_cons.1 h.nd).1
 exact this (by simp[hm])
theorem Mid.fx {w:World} {E:TypeId} {sz n g cap:Nat} {pre:List T} {x:T} {post:List T} {G1 Fx G2:List Nat} {c1 cx c2:List Value} (h:Mid w E sz n g cap pre x post G1 Fx G2 c1 cx c2):Fx.Nodup:=
 nodup_fst (yN (List.nodup_cons.1 h.nd).2)
/-- The element has turned: the slice is closed again. -/
theorem Mid.close {w w':World} {E:TypeId} {sz n g cap:Nat} {pre:List T} {x x':T} {post:List T} {G1 Fx G2:List Nat} {c1 cx cx' c2:List Value} (h:Mid w E sz n g cap pre x post G1 Fx G2 c1 cx c2)
  (k:Trn (g :: Fx) w w') (ho:w'.ownsRow 0 E sz (.slice (some ⟨g,0,none⟩) n cap) n (c1++(cx'++c2))) (he:T.ow w' x' Fx cx') (hw:T.wide x'=sz):
  T.ow w' (.sl E sz (pre++x' :: post)) (g :: (G1++(Fx++G2))) [.slice (some ⟨g,0,none⟩) n cap]:=by
 have hg:=(List.nodup_cons.1 h.nd).1
 have h2:=(List.nodup_cons.1 h.nd).2
 have d1: ∀ b ∈ G1,b ∉ g :: Fx:=fun b hb hm=>by
  rcases List.mem_cons.1 hm with rfl|hm
  ·exact hg (by simp[hb])
  ·exact nodup_dj h2 b hb (by simp[hm])
 have d2: ∀ b ∈ G2,b ∉ g :: Fx:=fun b hb hm=>by
  rcases List.mem_cons.1 hm with rfl|hm
  ·exact hg (by simp[hb])
  ·exact nodup_dj' (yN h2) b hb hm
 simp only[T.ow]
 refine⟨_,c1++(cx'++c2),G1++(Fx++G2),rfl,by simp[Value.ownBlock],?_,?_,?_⟩
 ·intro y hy
  rcases List.mem_append.1 hy with hy|hy
  ·exact h.wd y (by simp[hy])
  ·rcases List.mem_cons.1 hy with rfl|hy
   ·exact hw
   ·exact h.wd y (by simp[hy])
 ·have:(pre++x' :: post).length=n:=by rw[h.ln];simp
  rw[this];exact ho
 ·refine(T.ows_app _ _ _ _).2 ⟨G1,Fx++G2,c1,cx'++c2,rfl,rfl,T.ows_trn h.pr k d1,?_⟩
  simp only[T.ows]
  exact⟨Fx,G2,cx',c2,rfl,rfl,he,T.ows_trn h.po k d2⟩
theorem T.mid_empty {w:World} {E:TypeId} {sz:Nat} {F:List Nat} {v:Value} (h:T.ow w (.sl E sz []) F [v]): ∃ A c,v= .slice A 0 c:=by
 obtain⟨A,cap,rfl,_⟩:=T.yM (T.ow_rd _ _ _ h)
 exact⟨A,cap,rfl⟩
theorem T.ow_form {w:World} {E:TypeId} {sz:Nat} {xs:List T} {F:List Nat} {v:Value} (h:T.ow w (.sl E sz xs) F [v]) (hn:0<xs.length): ∃ g cap,v= .slice (some ⟨g,0,none⟩) xs.length cap∧xs.length≤cap∧cap≤9223372036854775807:=by
 simp only[T.ow] at h
 obtain⟨v',es,G,hv,_,_,ho,_⟩:=h
 obtain rfl:v=v':=by simpa using hv
 rcases ho.2 with ⟨_,h0⟩|⟨g,cap,cur,hv2,_,_,h1,h2,_⟩
 ·omega
 ·exact⟨g,cap,hv2,h1,by unfold maxLen at h2;omega⟩
theorem own_st {w:World} {B E sz n g cap p:Nat} (j:Nat) {c1 cx c2:List Value} {u:Value} (h:w.ownsRow B E sz (.slice (some ⟨g,0,none⟩) n cap) n (c1++(cx++c2))) (hc:c1.length=p) (hj:j<cx.length):
  (w.setCell ⟨g,p+j,none⟩ u).ownsRow B E sz (.slice (some ⟨g,0,none⟩) n cap) n (c1++(cx.set j u++c2)):=by
 subst hc;exact own_set1 h hj
theorem own_at {w:World} {B E sz n g cap p:Nat} (j:Nat) {c1 zs c2:List Value} (h:w.ownsRow B E sz (.slice (some ⟨g,0,none⟩) n cap) n (c1++(zs++c2))) (hc:c1.length=p) {u:Value} (hj:zs[j]?=some u):w.cell? ⟨g,p+j,none⟩=some u:=by
 subst hc;exact own_cell h hj
end Go.Proofs.YtbgedljbgkcpiaaGreatDoor
end
section
namespace Go.Proofs.YtbgedljbgkcpiaaGreatDoor
open Go.RowKit
/-- append of all elements of a slice that reads, at a step of a region that draws its order. -/
theorem step_manyT {P:Program} {w:World} {ops:Array Oper} {o:Oper} {a:Act} {K:Act→World→Prop} {Q:Exit→Act→World→Prop} {E:Prop} (hgd:o.guard=none) (s x:Operand) (t:TypeId)
  (ho:o.op= .call { callee:= .builtin .append,args:= #[s,x],argTypes:= #[t,t] })
  (base:Nat) (e:TypeId) (z:Value) (size bytes:Nat) (ht:P.underlying t=some (.slice e)) (hinfo:(P.info? e).map (fun i=>(i.zero,i.size,i.bytes))=some (some z,size,bytes))
  (hzs:z.cells.size=size) (hsz:0<size)
  (v:Value) (n:Nat) (xs:List Value) (hs:a.eval s=v) (hown:w.ownsRow base e size v n xs)
  (y:Value) (m:Nat) (ys:List Value) (hx:a.eval x=y) (hr:Rd w y size m ys) (h1: ∀ u ∈ ys,u.oneCell'=true)
  (hbytes:(n+m) * bytes≤140737488355328) (h63:n+m≤maxLen) (hbase:base≤w.heap.size)
  (h: ∀ v' w',w'.ownsRow base e size v' (n+m) (xs++ys)→w.grownBy w' v.ownBlock→(∀ k,v'.ownBlock=some k→v.ownBlock=some k∨w.heap.size≤k)→K (a.put o.dst v') w'):
  if Region.wanted o (yielded ops a.tmps)=true then Oper.wp P o a w K Q else E:=by
 have hw:Region.wanted o (yielded ops a.tmps)=true:=by simp[Region.wanted,hgd]
 rw[if_pos hw]
 obtain⟨i0,hi,hz0,hz1,hz2⟩:=info_parts hinfo
 obtain⟨hl,A,cap,rfl,hc1,hc2,hcell⟩:=hr
 rcases Nat.eq_zero_or_pos m with hm|hm
 ·subst hm
  have hn:ys= []:=List.eq_nil_of_length_eq_zero (by simpa using hl)
  subst hn
  have hrun:(Builtin.append_ #[t,t] o.type #[v,.slice A 0 cap]).run P w= .ok v w:=by
   rcases hown.2 with ⟨rfl,rfl⟩|⟨g,cap',cur,rfl,_,_,hnc,_⟩
   ·cases A<;>simp[Builtin.append_,run_underlying ht,sizeOf,typeInfo,hi,Builtin.lenOf,Builtin.firstCells,loadCells,loadCellsFrom]
   ·cases A<;>simp[Builtin.append_,run_underlying ht,sizeOf,typeInfo,hi,Builtin.lenOf,Builtin.firstCells,hnc,storeCells,loadCells,loadCellsFrom]
  unfold Oper.wp execOp
  simp only[ho,resolve,invoke,builtin,Sem.run_bind,Sem.run_pure,Result.andThen_ok,List.map_toArray,List.map_cons,List.map_nil,hs,hx,hrun]
  exact h v w (by simpa using hown) (World.grownBy.refl _ _) fun k hk=> .inl hk
 ·obtain⟨b,off,rfl,hb,hcc⟩:=hcell hm
  refine wp_append_lies w s x t ho base e i0 z size bytes ht hi hz0 hz1 hz2 hzs hsz v n xs hs hown ⟨b,off,none⟩ m cap ys hx hl ?_ h1 hm h63 hbytes hbase _ rfl ?_
  ·intro j u hu
   rw[show (⟨b,off,none⟩:Addr).add j=⟨b,off+j,none⟩ by unfold Addr.add;split<;>simp_all]
   exact hcc j u hu
  ·intro g cap' w' h2 h3 h4 _
   refine h _ w' h2 h3 fun k hk=>?_
   injection hk with hk
   subst hk
   rcases h4 with h4|h4
   ·exact .inl h4
   ·exact .inr (by rw[h4];exact Nat.le_refl _)
end Go.Proofs.YtbgedljbgkcpiaaGreatDoor
end
section
namespace Go.Proofs.YtbgedljbgkcpiaaGreatDoor
open Go.RowKit
end Go.Proofs.YtbgedljbgkcpiaaGreatDoor
end
section
namespace Go.Proofs.YtbgedljbgkcpiaaGreatDoor
open Go.RowKit
end Go.Proofs.YtbgedljbgkcpiaaGreatDoor
end
section
namespace Go.Proofs.YtbgedljbgkcpiaaGreatDoor
open Go.RowKit
section
variable {B:Nat} {w w':World} {E E':TypeId} {sz sz':Nat} {xs:List T} {x:T} {F F' Fx FR:List Nat} {v v':Value} {os:List T} {cr:List Value}
theorem Bk.drew {g:Nat} {t:TypeId} {cs:Array Value} (h:Bk w g t cs):Bk w.drew g t cs:=h
end
end Go.Proofs.YtbgedljbgkcpiaaGreatDoor
end
section
namespace Go.Proofs.YtbgedljbgkcpiaaGreatDoor
open Go.RowKit
section
variable {P:Program} {ops:Array Oper} {Q:Exit→Act→World→Prop} {md:Region.Mode} {S:World→Prop} {n:List Nat}
/-- Whatever order is picked from here on; behind every operation but number n, which waits for all others, S holds. -/
def wpAnyN (P:Program) (md:Region.Mode) (ops:Array Oper) (Q:Exit→Act→World→Prop) (S:World→Prop) (n:List Nat):Nat→Array Bool→Act→World→Prop
 |0,listed,a,w=>Region.ready md ops listed= []∧Q .normal a w
 |fuel+1,listed,a,w=>
  (Region.ready md ops listed= []→Q .normal a w)∧
  ∀ i ∈ Region.ready md ops listed,wpOp P ops Q i (fun a' w'=>(i ∈ n∨S w')∧wpAnyN P md ops Q S n fuel (listed.setIfInBounds i true) a' w') a w
theorem wpAny_of_N: ∀ (fuel:Nat) (listed:Array Bool) (a:Act) (w:World),wpAnyN P md ops Q S n fuel listed a w→wpAny P md ops Q fuel listed a w
 |0,_,_,_,h=>h
 |fuel+1,_,_,_,h=>⟨h.1,fun i hi=>wpOp_mono (fun a' w' h'=>wpAny_of_N fuel _ a' w' h'.2) (h.2 i hi)⟩
/-- What is listed has all that it waits for listed. -/
def closedB (md:Region.Mode) (ops:Array Oper) (listed:Array Bool):Bool:=(List.range ops.size).all fun j=> !(listed.getD j true) || ((ops[j]?).map fun o=>o.after.all fun e=> !(Region.binds md e) || listed.getD e.on true).getD true
def Closed (md:Region.Mode) (ops:Array Oper) (listed:Array Bool):Prop:= ∀ (j:Nat) (o:Oper),ops[j]?=some o→listed.getD j true=true→ ∀ e ∈ o.after,Region.binds md e=true→listed.getD e.on true=true
theorem closed_of {listed:Array Bool} (h:closedB md ops listed=true):Closed md ops listed:=by
 intro j o ho hl e he hb
 unfold closedB at h
 have hj:j<ops.size:=(Array.getElem?_eq_some_iff.1 ho).1
 have h1:=List.all_eq_true.1 h j (List.mem_range.2 hj)
 rw[hl,ho] at h1
 simp only[Bool.not_true,Bool.false_or,Option.map_some,Option.getD_some] at h1
 have h2:=(Array.all_eq_true'.1 h1) e he
 rw[hb] at h2
 simpa using h2
/-- Number m waits for number i, perhaps through others. -/
def waitsT (md:Region.Mode) (ops:Array Oper):Nat→Nat→Nat→Bool
 |0,_,_=>false
 |f+1,m,i=>((ops[m]?).map fun o=>o.after.any fun e=>Region.binds md e && (e.on == i || waitsT md ops f e.on i)).getD false
theorem waitsT_spec {f m i:Nat} (h:waitsT md ops (f+1) m i=true): ∃ o,ops[m]?=some o∧ ∃ e ∈ o.after,Region.binds md e=true∧(e.on=i∨waitsT md ops f e.on i=true):=by
 unfold waitsT at h
 cases ho:ops[m]? with
 |none=>rw[ho] at h;simp at h
 |some o=>
  rw[ho] at h
  simp only[Option.map_some,Option.getD_some] at h
  obtain⟨e,he,h2⟩:=Array.any_eq_true'.1 h
  simp only[Bool.and_eq_true,Bool.or_eq_true,beq_iff_eq] at h2
  exact⟨o,rfl,e,he,h2.1,h2.2⟩
theorem waitsT_mono: ∀ (f m i:Nat),waitsT md ops f m i=true→waitsT md ops (f+1) m i=true
 |0,_,_,h=>by simp[waitsT] at h
 |f+1,m,i,h=>by
  obtain⟨o,ho,e,he,hb,h2⟩:=waitsT_spec h
  unfold waitsT
  rw[ho]
  simp only[Option.map_some,Option.getD_some]
  refine Array.any_eq_true'.2 ⟨e,he,?_⟩
  simp only[Bool.and_eq_true,Bool.or_eq_true,beq_iff_eq]
  exact⟨hb,h2.imp id (fun h3=>waitsT_mono f _ _ h3)⟩
/-- Which of the first k operations wait for number i: reckoned one after the other. -/
def reachL (md:Region.Mode) (ops:Array Oper) (i:Nat):Nat→List Bool
 |0=> []
 |k+1=>reachL md ops i k++ [((ops[k]?).map fun o=>o.after.any fun e=>Region.binds md e && (e.on == i || (reachL md ops i k).getD e.on false)).getD false]
theorem length_reachL {i:Nat} : ∀ k,(reachL md ops i k).length=k
 |0=>rfl
 |k+1=>by simp[reachL,length_reachL k]
theorem reachL_spec {i:Nat} : ∀ (k j:Nat),(reachL md ops i k).getD j false=true→waitsT md ops k j i=true
 |0,j,h=>by simp[reachL] at h
 |k+1,j,h=>by
  unfold reachL at h
  rw[List.getD_eq_getElem?_getD] at h
  by_cases hj:j<k
  ·rw[List.getElem?_append_left (by rw[length_reachL];exact hj),←List.getD_eq_getElem?_getD] at h
   exact waitsT_mono _ _ _ (reachL_spec k j h)
  ·by_cases e:j=k
   ·subst e
    rw[List.getElem?_append_right (by rw[length_reachL];exact Nat.le_refl _),length_reachL,Nat.sub_self] at h
    unfold waitsT
    cases ho:ops[j]? with
    |none=>rw[ho] at h;simp at h
    |some o=>
     rw[ho] at h
     simp only[Option.map_some,Option.getD_some,List.getElem?_cons_zero] at h ⊢
     obtain⟨e,he,h2⟩:=Array.any_eq_true'.1 h
     refine Array.any_eq_true'.2 ⟨e,he,?_⟩
     simp only[Bool.and_eq_true,Bool.or_eq_true,beq_iff_eq] at h2 ⊢
     exact⟨h2.1,h2.2.imp id (fun h3=>reachL_spec j _ h3)⟩
   ·rw[List.getElem?_eq_none (by rw[List.length_append,length_reachL];simp;omega)] at h
    cases h
theorem waitsT_listed {listed:Array Bool} (hc:Closed md ops listed): ∀ (f j i:Nat),listed.getD j true=true→waitsT md ops f j i=true→listed.getD i true=true
 |0,_,_,_,h=>by simp[waitsT] at h
 |f+1,j,i,hl,h=>by
  obtain⟨o,ho,e,he,hb,h2⟩:=waitsT_spec h
  have h3:=hc j o ho hl e he hb
  rcases h2 with rfl|h2
  ·exact h3
  ·exact waitsT_listed hc f e.on i h3 h2
theorem waitsT_ready {listed:Array Bool} (hc:Closed md ops listed) {f j i:Nat} (hr:j ∈ Region.ready md ops listed) (h:waitsT md ops f j i=true):listed.getD i true=true:=by
 cases f with
 |zero=>simp[waitsT] at h
 |succ f=>
  obtain⟨o,ho,e,he,hb,h2⟩:=waitsT_spec h
  obtain⟨_,o',ho',hall⟩:=mem_ready.1 hr
  obtain rfl:o=o':=Option.some.inj (ho.symm.trans ho')
  have h1:=hall e he hb
  have h3:listed.getD e.on true=true:=by
   cases hg:listed.getD e.on true with
   |true=>rfl
   |false=>rw[getD_both hg] at h1;cases h1
  rcases h2 with rfl|h2
  ·exact h3
  ·exact waitsT_listed hc f e.on i h3 h2
theorem Closed.set_ {listed:Array Bool} (hc:Closed md ops listed) {j:Nat} (hr:j ∈ Region.ready md ops listed):Closed md ops (listed.setIfInBounds j true):=by
 have up: ∀ k,listed.getD k true=true→(listed.setIfInBounds j true).getD k true=true:=fun k hk=>by
  by_cases e:j=k
  ·subst e
   cases hq:(listed.setIfInBounds j true).getD j true with
   |true=>rfl
   |false=>
    have hlt:j<listed.size:=Nat.lt_of_not_le fun hn=>by
     rw[Array.getD_eq_getD_getElem?,Array.getElem?_eq_none (by simpa using hn)] at hq
     cases hq
    rw[Array.getD_eq_getD_getElem?,Array.getElem?_setIfInBounds_self_of_lt hlt] at hq
    cases hq
  ·rw[getD_set_ne true e];exact hk
 intro k o ho hl e he hb
 by_cases hk:j=k
 ·subst hk
  obtain⟨_,o',ho',hall⟩:=mem_ready.1 hr
  obtain rfl:o=o':=Option.some.inj (ho.symm.trans ho')
  have h1:=hall e he hb
  refine up _ ?_
  cases hg:listed.getD e.on true with
  |true=>rfl
  |false=>rw[getD_both hg] at h1;cases h1
 ·rw[getD_set_ne true hk] at hl
  exact up _ (hc k o ho hl e he hb)
theorem wpAnyN_first {i:Nat} {oi:Oper} {v:Value} (f:Nat) (hn:(n.all fun m=>waitsT md ops f m i)=true) (hi:ops[i]?=some oi) (hsel: ∀ (j:Nat) (o:Oper) cs b,ops[j]?=some o→o.op≠ .select cs b)
  (hQ: ∀ c a w,Q (.panic c) (a.put oi.dst v) w→Q (.panic c) a w):
  ∀ (fuel:Nat) (listed:Array Bool) (a:Act) (w:World),
   (∀ j oj,ops[j]?=some oj→j≠i→listed.getD j true=false→(∀ e ∈ oj.after,Region.binds md e=true→e.on≠i)→oi.apart ops oj=true)→
   Closed md ops listed→i ∈ Region.ready md ops listed→YieldsIf P ops S oi v a→S w→
   wpAnyN P md ops Q S n fuel (listed.setIfInBounds i true) (a.put oi.dst v) w→wpAnyN P md ops Q S n (fuel+1) listed a w:=by
 have late: ∀ {listed:Array Bool} {j:Nat},Closed md ops listed→i ∈ Region.ready md ops listed→j ∈ Region.ready md ops listed→j ∉ n:=by
  intro listed j hc hr hj e
  have h1:=waitsT_ready hc hj (List.all_eq_true.1 hn j e)
  rw[(mem_ready.1 hr).1] at h1
  cases h1
 intro fuel
 induction fuel with
 |zero=>
  intro listed a w _ hc hr hy hS H
  refine⟨fun h=>(by rw[h] at hr;cases hr),fun j hj=>?_⟩
  by_cases hji:j=i
  ·subst hji;exact hy.wpOp hi hS ⟨.inr hS,H⟩
  ·have:=ready_mono hj hji
   rw[H.1] at this
   cases this
 |succ fuel ih=>
  intro listed a w hfree hc hr hy hS H
  refine⟨fun h=>(by rw[h] at hr;cases hr),fun j hj=>?_⟩
  by_cases hji:j=i
  ·subst hji;exact hy.wpOp hi hS ⟨.inr hS,H⟩
  ·have h1:=H.2 j (ready_mono hj hji)
   obtain⟨hjun,oj,hoj,hall⟩:=mem_ready.1 hj
   have hun:=(mem_ready.1 hr).1
   have hnot: ∀ e ∈ oj.after,Region.binds md e=true→e.on≠i:=fun e he hb heq=>by
    have h1:=hall e he hb
    rw[heq,getD_both hun] at h1
    cases h1
   have h2:=wpOp_putIf hoj (hfree j oj hoj hji hjun hnot) (fun cs b=>hsel i oi cs b hi) (fun cs b=>hsel j oj cs b hoj) hQ hy h1
   have hfree': ∀ k ok,ops[k]?=some ok→k≠i→(listed.setIfInBounds j true).getD k true=false→
     (∀ e ∈ ok.after,Region.binds md e=true→e.on≠i)→oi.apart ops ok=true:=fun k ok hk hki hun hno=>by
    refine hfree k ok hk hki ?_ hno
    by_cases hjk:j=k
    ·subst hjk;exact hjun
    ·rw[getD_set_ne true hjk] at hun;exact hun
   have hjn:=late hc hr hj
   refine wpOp_mono (fun a' w' h3=>?_) h2
   have hS':S w':=h3.2.1.resolve_left hjn
   refine⟨.inr hS',ih (listed.setIfInBounds j true) a' w' hfree' (hc.set_ hj) (ready_mono hr (Ne.symm hji)) h3.1 hS' ?_⟩
   rw[Array.setIfInBounds_comm _ _ hji]
   exact h3.2.2
/-- Take number i first. -/
theorem wpAnyN_take {i:Nat} {oi:Oper} {v:Value} {fuel:Nat} {listed:Array Bool} {a:Act} {w:World} (f:Nat) (hn:(n.all fun m=>waitsT md ops f m i)=true) (hcl:closedB md ops listed=true) (hi:ops[i]?=some oi)
  (hs:Region.noSelect ops=true) (hf:Region.free md ops listed i=true) (hr:(Region.ready md ops listed).contains i=true)
  (hQ: ∀ c a w,Q (.panic c) (a.put oi.dst v) w→Q (.panic c) a w) (hS:S w) (hw:Region.wanted oi (yielded ops a.tmps)=true) (hy: ∀ w,S w→(execOp a.eval oi).run P w= .ok (.value v) w)
  (h:wpAnyN P md ops Q S n fuel (listed.setIfInBounds i true) (a.put oi.dst v) w):wpAnyN P md ops Q S n (fuel+1) listed a w:=
 wpAnyN_first f hn hi (Region.noSelect_spec hs) hQ fuel listed a w (Region.free_spec hi hf) (closed_of hcl) (by simpa using hr) (.inl ⟨hw,hy⟩) hS h
/-- Take number i first (the others' waiting is reckoned one after the other). -/
theorem wpAnyN_takeL {i:Nat} {oi:Oper} {v:Value} {fuel:Nat} {listed:Array Bool} {a:Act} {w:World} (hn:(n.all fun m=>(reachL md ops i ops.size).getD m false)=true) (hcl:closedB md ops listed=true) (hi:ops[i]?=some oi)
  (hs:Region.noSelect ops=true) (hf:Region.free md ops listed i=true) (hr:(Region.ready md ops listed).contains i=true)
  (hQ: ∀ c a w,Q (.panic c) (a.put oi.dst v) w→Q (.panic c) a w) (hS:S w) (hw:Region.wanted oi (yielded ops a.tmps)=true) (hy: ∀ w,S w→(execOp a.eval oi).run P w= .ok (.value v) w)
  (h:wpAnyN P md ops Q S n fuel (listed.setIfInBounds i true) (a.put oi.dst v) w):wpAnyN P md ops Q S n (fuel+1) listed a w:=
 wpAnyN_take ops.size (List.all_eq_true.2 fun m hm=>reachL_spec _ _ (List.all_eq_true.1 hn m hm)) hcl hi hs hf hr hQ hS hw hy h
/-- All has come up. -/
theorem wpAnyN_end {fuel:Nat} {listed:Array Bool} {a:Act} {w:World} (hr:Region.ready md ops listed= []) (h:Q .normal a w):wpAnyN P md ops Q S n fuel listed a w:=by
 cases fuel with
 |zero=>exact⟨hr,h⟩
 |succ f=>exact⟨fun _=>h,by rw[hr];simp⟩
/-- Number i alone may come up. -/
theorem wpAnyN_one {i:Nat} {o:Oper} {fuel:Nat} {listed:Array Bool} {a:Act} {w:World} (hr:Region.ready md ops listed= [i]) (ho:ops[i]?=some o)
  (h: ∀ K':Act→World→Prop,Shut (∀ a w,S w→(S w→wpAnyN P md ops Q S n fuel (listed.setIfInBounds i true) a w)→K' a w)→if Region.wanted o (yielded ops a.tmps)=true then Oper.wp P o a w K' Q else K' (a.put o.dst undef) w):
  wpAnyN P md ops Q S n (fuel+1) listed a w:=
 ⟨fun h0=>(by rw[hr] at h0;cases h0),fun j hj=>by
  rw[hr,List.mem_singleton] at hj
  subst hj
  exact wpOp_step ho (fun K' hK=>h K' (fun a w hS hW=>hK a w ⟨.inr hS,hW hS⟩))⟩
/-- The beginning: S is shown of the world behind the draw. -/
theorem wp_region_N {id:Nat} {a:Act} {w:World} (S:World→Prop) (n:List Nat) (hm:P.follows .mixedOrders=true) (hS:S w.drew)
  (h:S w.drew→wpAnyN P .any ops Q S n ops.size (Array.replicate ops.size false) a w.drew):(Code.region id ops true).wp P Q a w:=
 wp_region_any hm (wpAny_of_N _ _ _ _ (h hS))
end
end Go.Proofs.YtbgedljbgkcpiaaGreatDoor
end
