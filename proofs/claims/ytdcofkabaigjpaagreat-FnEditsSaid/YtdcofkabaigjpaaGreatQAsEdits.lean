/- Draws: a mixer. One element of a list of the call's own laid open, one of its cells set. No program is named here. -/
import Derived.Test.YtdcofkabaigjpaaGreatQArEdits
set_option linter.unusedVariables false
set_option linter.unusedSimpArgs false
set_option maxHeartbeats 4000000
set_option maxRecDepth 100000
namespace Go.Proofs.YtdcofkabaigjpaaGreat
section
open Go.RowKit
def OkS (s:xP):Prop:=s.good∧s.yH.size≤10∧s.zT.length≤5
def OkS4 (s:xP):Prop:=s.good∧s.yH.size≤10∧s.zT.length≤4
theorem OkS4.up {s:xP} (h:OkS4 s):OkS s:=⟨h.1,h.2.1,by have:=h.2.2;omega⟩
def MixX (w:World) (g:Nat) (cv:Value) (bs:List UInt8) (a c:Nat) (p:List xP→Prop) (e:Ending) (w':World):Prop:= ∃ (ms:List xP) (A:Option Addr) (L C a2:Nat) (F:List Nat),e= .returned (.agg #[.slice A L C])∧(∀ s ∈ ms,OkS s)∧ms.length≤6∧p ms∧FM w.heap.size w' [Item.own (T.sl 74 3 (ms.map xP.t)) F (.slice A L C)]∧a2≤a+c∧Sx w w' g cv bs a2
theorem x_l26Draw {w:World} {g a:Nat} {cv:Value} {bs:List UInt8} (h:Sx w w g cv bs a) (ha:a≤1050000000):Calls Tryz.prog 77 #[.pointer (some ⟨g,0,none⟩)] w fun e w'=>MixX w g cv bs a 400 (fun ms=>1≤ms.length∧ ∀ s ∈ ms,OkS4 s) e w':=by
 have HS0:=xN h;have HGL:=xN h.gin;have HM0:=xN (FM.nil w.heap.size w);have hz0:w.heap.size≤w.heap.size:=zJ;clear h;obtain⟨HM1,HS1,hz1⟩:=(yU HM0 HS0 hz0).B 30 #[.slice none 0 0];clear HM0 HS0 hz0;obtain⟨HM2,HS2,hz2⟩:=(yU HM1 HS1 hz1).B 30 #[.slice none 0 0];clear HM1 HS1 hz1;have hzb:(w.alloc (.cells #[.slice none 0 0] 30)).heap.size=w.heap.size+1:=by simp
 rw[hzb] at HM2;clear hzb
 go_enter Tryz.func77,Tryz.ntmps77
 go_wp2_with fail
 refine(wS HS2.o zM zM).mono ?_;rintro e w1 ⟨x,a1,rfl,hx,ha1,hs⟩;obtain⟨HM3,HS3,hz3⟩:=(yU HM2 HS2 hz2).S hs;clear hs HM2 HS2 hz2;obtain⟨n,hn⟩: ∃ q:Nat,1+x=(q:Int):=⟨(1+x).toNat,by omega⟩;have hw:IntKind.i64.wrap (1+x)=(n:Int):=by rw[hn];exact IntWalk.i64_in _ zM
 have hn1:1≤n∧n≤5:=by omega
 clear hn hx;replace HM3:=xN (show FM _ _ [Item.own (T.sl 74 3 (([]:List xP).map xP.t)) [] (.slice none 0 0),Item.bk (w.heap.size+1) 30 #[.slice none 0 0],Item.bk w.heap.size 30 #[.slice none 0 0]] from HM3.o.ins (it:=Item.own (T.sl 74 3 (([]:List xP).map xP.t)) [] (.slice none 0 0)) (by exact(Own.nil 0 _ _ _).ow) rfl);obtain⟨HM4,HS4,hz4⟩:=(yU HM3 HS3 hz3).B 9 #[.string { data:= #[100,114,117,109,115] },.string { data:= #[98,97,115,115] },.string { data:= #[98,117,115] },.string { data:= #[101,99,104,111] },.string { data:= #[107,101,121,115] },.string { data:= #[99,104,111,105,114] }];clear HM3 HS3 hz3;go_wp2;clear hw;replace HM4:=xN ((((HM4.o.F 3).F 1).F 2).F 3)
 go_loopw [6] (fun ii wr=> ∃ (i c:Nat) (ms:List xP) (A:Option Addr) (L C:Nat) (F:List Nat),i<n∧ii= .int .i64 (i:Int)∧ms.length=i∧(∀ s ∈ ms,OkS4 s)∧c≤a1+70 * i∧Sx w wr g cv bs c∧FM w.heap.size wr [Item.bk (w.heap.size+1) 30 #[.slice A L C],Item.own (T.sl 74 3 (ms.map xP.t)) F (.slice A L C),Item.bk w1.heap.size 9 #[.string { data:= #[100,114,117,109,115] },.string { data:= #[98,97,115,115] },.string { data:= #[98,117,115] },.string { data:= #[101,99,104,111] },.string { data:= #[107,101,121,115] },.string { data:= #[99,104,111,105,114] }],Item.bk w.heap.size 30 #[.slice none 0 0]]∧w.heap.size≤wr.heap.size) (fun ii _=>n - (intOf ii).toNat)
 case atStart=>exact⟨0,a1,[],none,0,0,[],by omega,rfl,rfl,by simp,by omega,HS4.o,HM4.o,hz4⟩
 case round=>
  obtain⟨i,c,ms,A,L,C,F,hin,rfl,hml,hms,hc,hs,hm,hz5⟩:=hrel;have HS5:=xN hs;have HM5:=xN hm;have HML:=xN hml;have HMS:=xN hms;clear hs hm hml hms HS4 HM4 hz4;have hwi:IntKind.i64.wrap ((i:Int)+1)=(i:Int)+1:=IntWalk.i64_in _ zM;by_cases hi:(i:Int)+1<(n:Int)
  ·
   obtain⟨nm,hnm,hnz⟩: ∃ nm:ByteArray,(#[.string { data:= #[100,114,117,109,115] },.string { data:= #[98,97,115,115] },.string { data:= #[98,117,115] },.string { data:= #[101,99,104,111] },.string { data:= #[107,101,121,115] },.string { data:= #[99,104,111,105,114] }]:Array Value)[i]?=some (.string nm)∧nm.size≤10:=by
    have h5:i=0∨i=1∨i=2∨i=3:=by omega
    rcases h5 with rfl|rfl|rfl|rfl<;>exact⟨_,rfl,by decide⟩
   have kN:wr.cell? ⟨w1.heap.size,i,none⟩=some (.string nm):=(Bk.cell (HM5.o.get 2 rfl) i).trans hnm;have lN:=Bk.lt (HM5.o.get 2 rfl);clear hnm;obtain⟨HM6,HS6,hz6⟩:=(yU HM5 HS5 hz5).B 74 #[.string nm,.int .i64 0,.slice none 0 0];clear HM5 HS5 hz5;go_wp2_with fail
   rename_i K2 hK2 K1 hK1 K0 hK0;have HK2:=xN hK2;clear hK2
   have TAIL: ∀ (lat:Int) (c2:Nat) {v8 v15 v16 v17 v18 v19 v20 v21 v22 v23 v24 v25 v26 v27 v28 v29 v30 v31 v32 v33 v34 v35 v36 v37 v38 v39 v40 v41 v42 v43 v44 v45 v46 v47 v48 v49 v50 v51 v52 v53 v54 v55 v56 v57 v58 v59 v60 v61 v62 v63 v64 v65 v66 v67 v68 v69 v70 v71 v72 v73:Value} (W7:World),I64 lat→c2≤c+4→Sx w W7 g cv bs c2→FM w.heap.size W7 [Item.bk wr.heap.size 74 #[.string nm,.int .i64 lat,.slice none 0 0],Item.bk (w.heap.size+1) 30 #[.slice A L C],Item.own (T.sl 74 3 (ms.map xP.t)) F (.slice A L C),Item.bk w1.heap.size 9 #[.string { data:= #[100,114,117,109,115] },.string { data:= #[98,97,115,115] },.string { data:= #[98,117,115] },.string { data:= #[101,99,104,111] },.string { data:= #[107,101,121,115] },.string { data:= #[99,104,111,105,114] }],Item.bk w.heap.size 30 #[.slice none 0 0]]→w.heap.size≤W7.heap.size→wr.heap.size<W7.heap.size→K2 { tmps:= #[.pointer (some ⟨g,0,none⟩),undef,.pointer (some ⟨w.heap.size,0,none⟩),.pointer (some ⟨w.heap.size+1,0,none⟩),.int .i64 (n:Int),.slice (some ⟨w1.heap.size,0,none⟩) 6 6,.int .i64 (i:Int),.pointer (some ⟨wr.heap.size,0,none⟩),v8,undef,.agg #[.slice none 0 0],.pointer (some ⟨g,0,none⟩),.int .i64 x,.int .i64 (n:Int),.slice (some ⟨w1.heap.size,0,none⟩) 6 6,v15,v16,v17,v18,v19,v20,v21,v22,v23,v24,v25,v26,v27,v28,v29,v30,v31,v32,v33,v34,v35,v36,v37,v38,v39,v40,v41,v42,v43,v44,v45,v46,v47,v48,v49,v50,v51,v52,v53,v54,v55,v56,v57,v58,v59,v60,v61,v62,v63,v64,v65,v66,v67,v68,v69,v70,v71,v72,v73,undef,undef,undef,undef,undef,undef,undef,undef,undef,undef,undef,undef,undef],defers:= [] } W7:=by
    clear HS6 HM6 hz6;intro lat c2 v8 v15 v16 v17 v18 v19 v20 v21 v22 v23 v24 v25 v26 v27 v28 v29 v30 v31 v32 v33 v34 v35 v36 v37 v38 v39 v40 v41 v42 v43 v44 v45 v46 v47 v48 v49 v50 v51 v52 v53 v54 v55 v56 v57 v58 v59 v60 v61 v62 v63 v64 v65 v66 v67 v68 v69 v70 v71 v72 v73 W7 hlat hc2 hs hm hz7 hwr;have HS7:=xN hs;have HM7:=xN hm;clear hs hm;refine HK2.o _ _ ?_;clear hK0 K0 hK1 K1 HK2 K2 kN lN;replace HM7:=xN (show FM _ _ [Item.own (T.sl 71 2 (([]:List xV).map xV.t)) [] (.slice none 0 0),Item.bk wr.heap.size 74 #[.string nm,.int .i64 lat,.slice none 0 0],Item.bk (w.heap.size+1) 30 #[.slice A L C],Item.own (T.sl 74 3 (ms.map xP.t)) F (.slice A L C),Item.bk w1.heap.size 9 #[.string { data:= #[100,114,117,109,115] },.string { data:= #[98,97,115,115] },.string { data:= #[98,117,115] },.string { data:= #[101,99,104,111] },.string { data:= #[107,101,121,115] },.string { data:= #[99,104,111,105,114] }],Item.bk w.heap.size 30 #[.slice none 0 0]] from HM7.o.ins (it:=Item.own (T.sl 71 2 (([]:List xV).map xV.t)) [] (.slice none 0 0)) (by exact(Own.nil 0 _ _ _).ow) rfl);generalize wr.heap.size=xb at *;go_wp2
    go_loopw [8] (fun tt wt=> ∃ (t c3:Nat) (ss:List xV) (eA:Option Addr) (eL eC:Nat) (FE:List Nat),i+1≤t∧t≤n∧tt= .int .i64 (t:Int)∧(∀ s ∈ ss,xV.good s)∧ss.length≤4∧c3≤c2+12 * (t - (i+1))∧Sx w wt g cv bs c3∧FM w.heap.size wt [Item.own (T.sl 71 2 (ss.map xV.t)) FE (.slice eA eL eC),Item.bk xb 74 #[.string nm,.int .i64 lat,.slice eA eL eC],Item.bk (w.heap.size+1) 30 #[.slice A L C],Item.own (T.sl 74 3 (ms.map xP.t)) F (.slice A L C),Item.bk w1.heap.size 9 #[.string { data:= #[100,114,117,109,115] },.string { data:= #[98,97,115,115] },.string { data:= #[98,117,115] },.string { data:= #[101,99,104,111] },.string { data:= #[107,101,121,115] },.string { data:= #[99,104,111,105,114] }],Item.bk w.heap.size 30 #[.slice none 0 0]]∧w.heap.size≤wt.heap.size∧xb<wt.heap.size) (fun tt _=>n - (intOf tt).toNat)
    case atStart=>exact⟨i+1,c2,[],none,0,0,[],zJ,by omega,by simp,by simp,by simp,by omega,HS7.o,HM7.o,hz7,hwr⟩
    case round=>
     obtain⟨t,c3,ss,eA,eL,eC,FE,ht1,htn,rfl,hsg,hsl,hc3,hs,hm,hz8,hwt⟩:=hrel;have HS8:=xN hs;have HM8:=xN hm;have HSG:=xN hsg;clear hs hm hsg HS7 HM7 hz7 hwr;have hel:eL=ss.length:=(by rw[vKz (HM8.o.ownAt 0 rfl).ow,List.length_map]);have HEL:=xN hel;have heL:eL≤4:=by omega
     have HSL:=xN hsl;clear hel hsl;have hzx:w.heap.size≤xb:=HM8.o.lo xb (by simp[Item.bk]);have hwt1:IntKind.i64.wrap ((t:Int)+1)=(t:Int)+1:=IntWalk.i64_in _ zM;have hwt2:IntKind.i64.wrap ((n:Int) - 1)=(n:Int) - 1:=IntWalk.i64_in _ zM;obtain⟨kX,lX,fX⟩:=yL HM8 1 rfl
     cases b1:decide (t<n)
     ·
      have hmb:ms.length≤5:=by have:=HML.o;omega
      clear kX lX fX;obtain⟨kX,lX,fX⟩:=yL HM8 1 rfl;obtain⟨kM,lM,fM⟩:=yL HM8 2 rfl;replace HM8:=xN (show FM _ _ [Item.own (T.sl 74 3 (ms.map xP.t)) F (.slice A L C),Item.own (T.sl 71 2 (ss.map xV.t)) FE (.slice eA eL eC),Item.bk xb 74 #[.string nm,.int .i64 lat,.slice eA eL eC],Item.bk (w.heap.size+1) 30 #[.slice A L C],Item.bk w1.heap.size 9 #[.string { data:= #[100,114,117,109,115] },.string { data:= #[98,97,115,115] },.string { data:= #[98,117,115] },.string { data:= #[101,99,104,111] },.string { data:= #[107,101,121,115] },.string { data:= #[99,104,111,105,114] }],Item.bk w.heap.size 30 #[.slice none 0 0]] from(FM.front (FM.front (FM.front (FM.front (FM.front (FM.front HM8.o 5 (by simp)) 5 (by simp)) 4 (by simp)) 4 (by simp)) 4 (by simp)) 5 (by simp)));have HO:=xN HM8.o.own;have HI:=xN HM8.o.tail.own;go_wp2_with (at_builtin;(refine yJz rfl _ _ _ rfl w.heap.size _ _ 3 48 Tryz.underlying28 wPz rfl zM rfl HO.o (x:=(⟨nm,lat,ss⟩:xP).t) (T.ow_st (xP.ow_mk (x:=(⟨nm,lat,ss⟩:xP)) HI.o.ow)) (by rw[List.append_nil];exact HI.o.nodup) (fun b hb=>HI.o.lo b (by rw[List.append_nil] at hb;exact hb)) (fun b hb hb2=>HM8.o.apart hb (by rw[List.append_nil] at hb2;rw[List.flatMap_cons];exact List.mem_append_left _ hb2)) rfl (by first|rfl|(show Value.slice _ _ _=_;simp)) (by rw[List.length_map];omega) (by rw[List.length_map];omega) hz8 ?_;intro v8 w9 F9 ho8 hg8 hv8;have ho9:Own w.heap.size w9 (T.sl 74 3 ((ms++ [(⟨nm,lat,ss⟩:xP)]).map xP.t)) F9 v8:=(by rw[List.map_append];exact ho8);obtain⟨uA,uL,uC,rfl⟩:=T.xE ho9.ow;have HM9:=xN (show FM w.heap.size w9 [Item.own (T.sl 74 3 ((ms++ [(⟨nm,lat,ss⟩:xP)]).map xP.t)) F9 (.slice uA uL uC),Item.bk xb 74 #[.string nm,.int .i64 lat,.slice eA eL eC],Item.bk (w.heap.size+1) 30 #[.slice A L C],Item.bk w1.heap.size 9 #[.string { data:= #[100,114,117,109,115] },.string { data:= #[98,97,115,115] },.string { data:= #[98,117,115] },.string { data:= #[101,99,104,111] },.string { data:= #[107,101,121,115] },.string { data:= #[99,104,111,105,114] }],Item.bk w.heap.size 30 #[.slice none 0 0]] from HM8.o.app hg8 ho9 (fun b hb=>by have h2:=hv8 b hb;rw[List.append_nil] at h2;exact h2) hz8);have HS9:=xN (HS8.o.grown hg8 (fun b e=>HO.o.row b e));have hz9:w.heap.size≤w9.heap.size:=Nat.le_trans hz8 hg8.size;clear ho8 hg8 hv8 ho9 kX lX fX kM lM fM;obtain⟨kM,lM,fM⟩:=yL HM9 2 rfl))
      have hoks:OkS4 (⟨nm,lat,ss⟩:xP):=⟨⟨by show nm.size≤_;omega,hlat,HSG.o⟩,hnz,by show ss.length≤4;have:=HSL.o;omega⟩;obtain⟨HM10,HS10,hz10⟩:=(yU HM9 HS9 hz9).E 2 rfl 0 (.slice uA uL uC) #[.slice uA uL uC] rfl;clear HM9 HS9 hz9;replace HM10:=xN (show FM _ _ [Item.bk (w.heap.size+1) 30 #[.slice uA uL uC],Item.own (T.sl 74 3 ((ms++ [(⟨nm,lat,ss⟩:xP)]).map xP.t)) F9 (.slice uA uL uC),Item.bk w1.heap.size 9 #[.string { data:= #[100,114,117,109,115] },.string { data:= #[98,97,115,115] },.string { data:= #[98,117,115] },.string { data:= #[101,99,104,111] },.string { data:= #[107,101,121,115] },.string { data:= #[99,104,111,105,114] }],Item.bk w.heap.size 30 #[.slice none 0 0]] from(FM.drop (FM.front (FM.front (FM.front (FM.front HM10.o 4 (by simp)) 4 (by simp)) 2 (by simp)) 4 (by simp)) 4 (by simp)))
      go_roundw
      case rel=>exact⟨i+1,c3,ms++ [⟨nm,lat,ss⟩],uA,uL,uC,F9,by omega,by go_num,by rw[List.length_append,HML.o];rfl,vS HMS.o hoks,by omega,HS10.o,HM10.o,hz10⟩
      case measure=>first|(simp[intOf];done)|(simp[intOf];omega)
     have ht3:t<n:=of_decide_eq_true b1
     cases b2:decide ((eL:Int)<4)
     ·
      have hmb:ms.length≤5:=by have:=HML.o;omega
      clear kX lX fX;obtain⟨kX,lX,fX⟩:=yL HM8 1 rfl;obtain⟨kM,lM,fM⟩:=yL HM8 2 rfl;replace HM8:=xN (show FM _ _ [Item.own (T.sl 74 3 (ms.map xP.t)) F (.slice A L C),Item.own (T.sl 71 2 (ss.map xV.t)) FE (.slice eA eL eC),Item.bk xb 74 #[.string nm,.int .i64 lat,.slice eA eL eC],Item.bk (w.heap.size+1) 30 #[.slice A L C],Item.bk w1.heap.size 9 #[.string { data:= #[100,114,117,109,115] },.string { data:= #[98,97,115,115] },.string { data:= #[98,117,115] },.string { data:= #[101,99,104,111] },.string { data:= #[107,101,121,115] },.string { data:= #[99,104,111,105,114] }],Item.bk w.heap.size 30 #[.slice none 0 0]] from(FM.front (FM.front (FM.front (FM.front (FM.front (FM.front HM8.o 5 (by simp)) 5 (by simp)) 4 (by simp)) 4 (by simp)) 4 (by simp)) 5 (by simp)));have HO:=xN HM8.o.own;have HI:=xN HM8.o.tail.own;go_wp2_with (at_builtin;(refine yJz rfl _ _ _ rfl w.heap.size _ _ 3 48 Tryz.underlying28 wPz rfl zM rfl HO.o (x:=(⟨nm,lat,ss⟩:xP).t) (T.ow_st (xP.ow_mk (x:=(⟨nm,lat,ss⟩:xP)) HI.o.ow)) (by rw[List.append_nil];exact HI.o.nodup) (fun b hb=>HI.o.lo b (by rw[List.append_nil] at hb;exact hb)) (fun b hb hb2=>HM8.o.apart hb (by rw[List.append_nil] at hb2;rw[List.flatMap_cons];exact List.mem_append_left _ hb2)) rfl (by first|rfl|(show Value.slice _ _ _=_;simp)) (by rw[List.length_map];omega) (by rw[List.length_map];omega) hz8 ?_;intro v8 w9 F9 ho8 hg8 hv8;have ho9:Own w.heap.size w9 (T.sl 74 3 ((ms++ [(⟨nm,lat,ss⟩:xP)]).map xP.t)) F9 v8:=(by rw[List.map_append];exact ho8);obtain⟨uA,uL,uC,rfl⟩:=T.xE ho9.ow;have HM9:=xN (show FM w.heap.size w9 [Item.own (T.sl 74 3 ((ms++ [(⟨nm,lat,ss⟩:xP)]).map xP.t)) F9 (.slice uA uL uC),Item.bk xb 74 #[.string nm,.int .i64 lat,.slice eA eL eC],Item.bk (w.heap.size+1) 30 #[.slice A L C],Item.bk w1.heap.size 9 #[.string { data:= #[100,114,117,109,115] },.string { data:= #[98,97,115,115] },.string { data:= #[98,117,115] },.string { data:= #[101,99,104,111] },.string { data:= #[107,101,121,115] },.string { data:= #[99,104,111,105,114] }],Item.bk w.heap.size 30 #[.slice none 0 0]] from HM8.o.app hg8 ho9 (fun b hb=>by have h2:=hv8 b hb;rw[List.append_nil] at h2;exact h2) hz8);have HS9:=xN (HS8.o.grown hg8 (fun b e=>HO.o.row b e));have hz9:w.heap.size≤w9.heap.size:=Nat.le_trans hz8 hg8.size;clear ho8 hg8 hv8 ho9 kX lX fX kM lM fM;obtain⟨kM,lM,fM⟩:=yL HM9 2 rfl))
      have hoks:OkS4 (⟨nm,lat,ss⟩:xP):=⟨⟨by show nm.size≤_;omega,hlat,HSG.o⟩,hnz,by show ss.length≤4;have:=HSL.o;omega⟩;obtain⟨HM10,HS10,hz10⟩:=(yU HM9 HS9 hz9).E 2 rfl 0 (.slice uA uL uC) #[.slice uA uL uC] rfl;clear HM9 HS9 hz9;replace HM10:=xN (show FM _ _ [Item.bk (w.heap.size+1) 30 #[.slice uA uL uC],Item.own (T.sl 74 3 ((ms++ [(⟨nm,lat,ss⟩:xP)]).map xP.t)) F9 (.slice uA uL uC),Item.bk w1.heap.size 9 #[.string { data:= #[100,114,117,109,115] },.string { data:= #[98,97,115,115] },.string { data:= #[98,117,115] },.string { data:= #[101,99,104,111] },.string { data:= #[107,101,121,115] },.string { data:= #[99,104,111,105,114] }],Item.bk w.heap.size 30 #[.slice none 0 0]] from(FM.drop (FM.front (FM.front (FM.front (FM.front HM10.o 4 (by simp)) 4 (by simp)) 2 (by simp)) 4 (by simp)) 4 (by simp)))
      go_roundw
      case rel=>exact⟨i+1,c3,ms++ [⟨nm,lat,ss⟩],uA,uL,uC,F9,by omega,by go_num,by rw[List.length_append,HML.o];rfl,vS HMS.o hoks,by omega,HS10.o,HM10.o,hz10⟩
      case measure=>first|(simp[intOf];done)|(simp[intOf];omega)
     have he3:eL<4:=by have:=of_decide_eq_true b2;omega
     go_wp2_with fail
     refine(x_one HS8.o zM zM).mono ?_;rintro e w4 ⟨bb,c4,rfl,hc4,hs⟩;obtain⟨HM9,HS9,hz9⟩:=(yU HM8 HS8 hz8).S hs;clear hs HM8 HS8 hz8;clear kX lX fX
     cases bb
     rotate_left
     ·
      obtain⟨kX,lX,fX⟩:=yL HM9 1 rfl;go_wp2;clear kX lX fX;obtain⟨HM10,HS10,hz10⟩:=(yU HM9 HS9 hz9).D;clear HS9 HM9 hz9;refine wG (fun w'=>(∀ i,w'.cell? ⟨xb,i,none⟩= #[.string nm,.int .i64 lat,.slice eA eL eC][i]?)) [8,9] (by kernel_rfl) ?_ (fun hS0=>?_)
      ·exact Bk.cell (HM10.o.get 1 rfl)
      generalize w4.drew=we10 at *;refine zN 0 hS0 ?_;refine zN 1 hS0 ?_;refine zN 2 hS0 ?_;refine zN 3 hS0 ?_;refine pN 4 (fun K hK=>?_);go_simp;go_wp2_with (go_at_call 42;refine(yIz HS10.o zM).mono ?_;rintro e w5 ⟨y,c5,rfl,hy,hc5,hs⟩)
      obtain⟨HM11,HS11,hz11⟩:=(yU HM10 HS10 hz10).S hs;clear hs HM10 HS10 hz10;refine uN hK ?_ (fun hS1=>?_)
      ·exact Bk.cell (HM11.o.get 1 rfl)
      clear hK K hS0;refine zN 5 hS1 ?_;have ha:=(show Below w5.heap.size w5 (w5.alloc (.cells #[.int .i64 (t:Int),.int .i64 y] 71)) from zR.alloc zJ _);have HLB:=xN (Bk.born w5 71 #[.int .i64 (t:Int),.int .i64 y]);have HM12:=xN (HM11.o.below ha);have HS12:=xN (HS11.o.below ha);have hz12:w.heap.size≤(w5.alloc (.cells #[.int .i64 (t:Int),.int .i64 y] 71)).heap.size:=Nat.le_trans hz11 ha.size;have hp12:w5.heap.size<(w5.alloc (.cells #[.int .i64 (t:Int),.int .i64 y] 71)).heap.size:=(by simp);clear ha HM11 HS11;generalize hw_:(w5.alloc (.cells #[.int .i64 (t:Int),.int .i64 y] 71))=w6 at *;refine pN 6 (fun K hK=>?_);go_simp
      try rw[hw_]
      refine uN hK ?_ (fun hS2=>?_)
      ·exact Bk.cell (HM12.o.get 1 rfl)
      clear hK K hS1;have HW12:=xN hw_;clear hw_;have hsb:ss.length≤4:=HSL.o;have HO:=xN (HM12.o.ownAt 0 rfl);refine pN 7 (fun K hK=>?_);refine wBz rfl _ _ _ rfl w.heap.size _ _ 2 16 Tryz.underlying72 uNz rfl zM rfl HO.o rfl HLB.o (x:=(⟨(t:Int),y⟩:xV).t) (Fx:= []) (T.ow_st xV.ow_mk) List.nodup_nil (by simp) (by simp) rfl (by rw[List.length_map];omega) (by rw[List.length_map];unfold maxLen;omega) hz12 ?_;intro v8 w8 F9 ho8 hg8 hv8;have ho9:Own w.heap.size w8 (T.sl 71 2 ((ss++ [(⟨(t:Int),y⟩:xV)]).map xV.t)) F9 v8:=(by rw[List.map_append];exact ho8);obtain⟨fA,fL,fC,rfl⟩:=T.xE ho9.ow;have HM13:=xN (show FM w.heap.size w8 [Item.own (T.sl 71 2 ((ss++ [(⟨(t:Int),y⟩:xV)]).map xV.t)) F9 (.slice fA fL fC),Item.bk xb 74 #[.string nm,.int .i64 lat,.slice eA eL eC],Item.bk (w.heap.size+1) 30 #[.slice A L C],Item.own (T.sl 74 3 (ms.map xP.t)) F (.slice A L C),Item.bk w1.heap.size 9 #[.string { data:= #[100,114,117,109,115] },.string { data:= #[98,97,115,115] },.string { data:= #[98,117,115] },.string { data:= #[101,99,104,111] },.string { data:= #[107,101,121,115] },.string { data:= #[99,104,111,105,114] }],Item.bk w.heap.size 30 #[.slice none 0 0]] from HM12.o.appAt 0 rfl hg8 ho9 (fun b hb=>(hv8 b hb).elim .inl (fun q=>q.elim (fun q=>by simp at q) .inr)) hz12);have HS13:=xN (HS12.o.grown hg8 (fun b e=>HO.o.row b e));have hz13:w.heap.size≤w8.heap.size:=Nat.le_trans hz12 hg8.size;clear ho8 hg8 hv8 ho9 HO HLB HM12 HS12;refine uN hK ?_ (fun hS3=>?_)
      ·exact Bk.cell (HM13.o.get 1 rfl)
      clear hK K hS2;refine q2N 8 9 ?_;obtain⟨kX,lX,fX⟩:=yL HM13 1 rfl;go_wp2;obtain⟨HM14,HS14,hz14⟩:=(yU HM13 HS13 hz13).E 1 rfl 2 (.slice fA fL fC) #[.string nm,.int .i64 lat,.slice fA fL fC] rfl;clear HM13 HS13 hz13
      go_roundw
      case rel=>exact⟨t+1,c5,ss++ [(⟨(t:Int),y⟩:xV)],fA,fL,fC,F9,by omega,by omega,by go_num,vS HSG.o ⟨vQ (by dsimp only;omega),smp_i64 hy⟩,by rw[List.length_append];simp;have:=HEL.o;omega,by omega,HS14.o,HM14.o,hz14,by simpa only[World.size_setCell] using(FM.lt HM14.o xb (by simp[Item.bk]))⟩
      case measure=>first|(simp[intOf];done)|(simp[intOf];omega)
     obtain⟨kX,lX,fX⟩:=yL HM9 1 rfl
     cases e1:((t:Int) == (n:Int) - 1)<;>cases e2:((eL:Int) == 0)
     ·
      go_wp2
      go_roundw
      case rel=>exact⟨t+1,c4,ss,eA,eL,eC,FE,by omega,by omega,by go_num,HSG.o,HSL.o,by omega,HS9.o,HM9.o,hz9,FM.lt HM9.o xb (by simp[Item.bk])⟩
      case measure=>first|(simp[intOf];done)|(simp[intOf];omega)
     ·
      go_wp2
      go_roundw
      case rel=>exact⟨t+1,c4,ss,eA,eL,eC,FE,by omega,by omega,by go_num,HSG.o,HSL.o,by omega,HS9.o,HM9.o,hz9,FM.lt HM9.o xb (by simp[Item.bk])⟩
      case measure=>first|(simp[intOf];done)|(simp[intOf];omega)
     ·
      go_wp2
      go_roundw
      case rel=>exact⟨t+1,c4,ss,eA,eL,eC,FE,by omega,by omega,by go_num,HSG.o,HSL.o,by omega,HS9.o,HM9.o,hz9,FM.lt HM9.o xb (by simp[Item.bk])⟩
      case measure=>first|(simp[intOf];done)|(simp[intOf];omega)
     clear kX lX fX;obtain⟨kX,lX,fX⟩:=yL HM9 1 rfl;go_wp2;clear kX lX fX;obtain⟨HM10,HS10,hz10⟩:=(yU HM9 HS9 hz9).D;clear HS9 HM9 hz9;refine wG (fun w'=>(∀ i,w'.cell? ⟨xb,i,none⟩= #[.string nm,.int .i64 lat,.slice eA eL eC][i]?)) [8,9] (by kernel_rfl) ?_ (fun hS0=>?_)
     ·exact Bk.cell (HM10.o.get 1 rfl)
     generalize w4.drew=we10 at *;refine zN 0 hS0 ?_;refine zN 1 hS0 ?_;refine zN 2 hS0 ?_;refine zN 3 hS0 ?_;refine pN 4 (fun K hK=>?_);go_simp;go_wp2_with (go_at_call 42;refine(yIz HS10.o zM).mono ?_;rintro e w5 ⟨y,c5,rfl,hy,hc5,hs⟩)
     obtain⟨HM11,HS11,hz11⟩:=(yU HM10 HS10 hz10).S hs;clear hs HM10 HS10 hz10;refine uN hK ?_ (fun hS1=>?_)
     ·exact Bk.cell (HM11.o.get 1 rfl)
     clear hK K hS0;refine zN 5 hS1 ?_;have ha:=(show Below w5.heap.size w5 (w5.alloc (.cells #[.int .i64 (t:Int),.int .i64 y] 71)) from zR.alloc zJ _);have HLB:=xN (Bk.born w5 71 #[.int .i64 (t:Int),.int .i64 y]);have HM12:=xN (HM11.o.below ha);have HS12:=xN (HS11.o.below ha);have hz12:w.heap.size≤(w5.alloc (.cells #[.int .i64 (t:Int),.int .i64 y] 71)).heap.size:=Nat.le_trans hz11 ha.size;have hp12:w5.heap.size<(w5.alloc (.cells #[.int .i64 (t:Int),.int .i64 y] 71)).heap.size:=(by simp);clear ha HM11 HS11;generalize hw_:(w5.alloc (.cells #[.int .i64 (t:Int),.int .i64 y] 71))=w6 at *;refine pN 6 (fun K hK=>?_);go_simp
     try rw[hw_]
     refine uN hK ?_ (fun hS2=>?_)
     ·exact Bk.cell (HM12.o.get 1 rfl)
     clear hK K hS1;have HW12:=xN hw_;clear hw_;have hsb:ss.length≤4:=HSL.o;have HO:=xN (HM12.o.ownAt 0 rfl);refine pN 7 (fun K hK=>?_);refine wBz rfl _ _ _ rfl w.heap.size _ _ 2 16 Tryz.underlying72 uNz rfl zM rfl HO.o rfl HLB.o (x:=(⟨(t:Int),y⟩:xV).t) (Fx:= []) (T.ow_st xV.ow_mk) List.nodup_nil (by simp) (by simp) rfl (by rw[List.length_map];omega) (by rw[List.length_map];unfold maxLen;omega) hz12 ?_;intro v8 w8 F9 ho8 hg8 hv8;have ho9:Own w.heap.size w8 (T.sl 71 2 ((ss++ [(⟨(t:Int),y⟩:xV)]).map xV.t)) F9 v8:=(by rw[List.map_append];exact ho8);obtain⟨fA,fL,fC,rfl⟩:=T.xE ho9.ow;have HM13:=xN (show FM w.heap.size w8 [Item.own (T.sl 71 2 ((ss++ [(⟨(t:Int),y⟩:xV)]).map xV.t)) F9 (.slice fA fL fC),Item.bk xb 74 #[.string nm,.int .i64 lat,.slice eA eL eC],Item.bk (w.heap.size+1) 30 #[.slice A L C],Item.own (T.sl 74 3 (ms.map xP.t)) F (.slice A L C),Item.bk w1.heap.size 9 #[.string { data:= #[100,114,117,109,115] },.string { data:= #[98,97,115,115] },.string { data:= #[98,117,115] },.string { data:= #[101,99,104,111] },.string { data:= #[107,101,121,115] },.string { data:= #[99,104,111,105,114] }],Item.bk w.heap.size 30 #[.slice none 0 0]] from HM12.o.appAt 0 rfl hg8 ho9 (fun b hb=>(hv8 b hb).elim .inl (fun q=>q.elim (fun q=>by simp at q) .inr)) hz12);have HS13:=xN (HS12.o.grown hg8 (fun b e=>HO.o.row b e));have hz13:w.heap.size≤w8.heap.size:=Nat.le_trans hz12 hg8.size;clear ho8 hg8 hv8 ho9 HO HLB HM12 HS12;refine uN hK ?_ (fun hS3=>?_)
     ·exact Bk.cell (HM13.o.get 1 rfl)
     clear hK K hS2;refine q2N 8 9 ?_;obtain⟨kX,lX,fX⟩:=yL HM13 1 rfl;go_wp2;obtain⟨HM14,HS14,hz14⟩:=(yU HM13 HS13 hz13).E 1 rfl 2 (.slice fA fL fC) #[.string nm,.int .i64 lat,.slice fA fL fC] rfl;clear HM13 HS13 hz13
     go_roundw
     case rel=>exact⟨t+1,c5,ss++ [(⟨(t:Int),y⟩:xV)],fA,fL,fC,F9,by omega,by omega,by go_num,vS HSG.o ⟨vQ (by dsimp only;omega),smp_i64 hy⟩,by rw[List.length_append];simp;have:=HEL.o;omega,by omega,HS14.o,HM14.o,hz14,by simpa only[World.size_setCell] using(FM.lt HM14.o xb (by simp[Item.bk]))⟩
     case measure=>first|(simp[intOf];done)|(simp[intOf];omega)
   have HTA:=xN TAIL;clear TAIL HK2;refine(x_one HS6.o zM zM).mono ?_;rintro e w4 ⟨bb,c1,rfl,hc1,hs⟩;obtain⟨HM7,HS7,hz7⟩:=(yU HM6 HS6 hz6).S hs;clear hs HM6 HS6 hz6
   cases bb
   ·
    go_wp2;exact HTA.o 0 c1 _ (vQ zM) zM HS7.o HM7.o hz7 (FM.lt HM7.o wr.heap.size (by simp[Item.bk]))
   obtain⟨kX,lX,fX⟩:=yL HM7 0 rfl;have HLI:=xN (OwI.rd (show OwI 2 (w4.alloc (.cells #[.int .i64 1,.int .i64 2,.int .i64 5,.int .i64 9,.int .i64 3] 2)) w4.heap.size (.slice (some ⟨w4.heap.size,0,none⟩) 5 5) [1,2,5,9,3] from World.ownsRow_lit (base:=w4.heap.size) (e:=2) (size:=1) w4 #[.int .i64 1,.int .i64 2,.int .i64 5,.int .i64 9,.int .i64 3] 5 zJ (by decide) rfl));have hga:g<w4.heap.size:=zW HGL.o hz7;obtain⟨HM8,HS8,hz8⟩:=(yU HM7 HS7 hz7).A (.cells #[.int .i64 1,.int .i64 2,.int .i64 5,.int .i64 9,.int .i64 3] 2);clear HM7 HS7 hz7;go_wp2_with fail
   refine(uP HS8.o zM HLI.o (by decide) (fun b e=>by injection e with e;(try simp at e);(try simp at hga);omega)).mono ?_;rintro e w5 ⟨lat,c2,rfl,hlat,hc2,hs⟩;obtain⟨HM9,HS9,hz9⟩:=(yU HM8 HS8 hz8).S hs;clear hs HM8 HS8 hz8;clear kX lX fX;clear HLI hga;have hlat2:I64 lat:=vQ (by simp at hlat;omega);clear hlat;obtain⟨kX,lX,fX⟩:=yL HM9 0 rfl;go_wp2;obtain⟨HM10,HS10,hz10⟩:=(yU HM9 HS9 hz9).E 0 rfl 1 (.int .i64 lat) #[.string nm,.int .i64 lat,.slice none 0 0] rfl;clear HM9 HS9 hz9;exact HTA.o lat c2 _ hlat2 zM HS10.o HM10.o hz10 (FM.lt HM10.o wr.heap.size (by simp[Item.bk]))
  obtain⟨HM6,HS6,hz6⟩:=(yU HM5 HS5 hz5).B 74 #[.string { data:= #[109,97,115,116,101,114] },.int .i64 0,.slice none 0 0];clear HM5 HS5 hz5;have hmb:ms.length≤5:=by have:=HML.o;omega
  go_wp2_with fail
  refine(x_one HS6.o zM zM).mono ?_;rintro e w4 ⟨bb,c1,rfl,hc1,hs⟩;obtain⟨HM7,HS7,hz7⟩:=(yU HM6 HS6 hz6).S hs;clear hs HM6 HS6 hz6
  cases bb<;>clear hwi
  ·
   obtain⟨kX,lX,fX⟩:=yL HM7 0 rfl;replace HM7:=xN (show FM _ _ [Item.own (T.sl 71 2 (([]:List xV).map xV.t)) [] (.slice none 0 0),Item.bk wr.heap.size 74 #[.string { data:= #[109,97,115,116,101,114] },.int .i64 0,.slice none 0 0],Item.bk (w.heap.size+1) 30 #[.slice A L C],Item.own (T.sl 74 3 (ms.map xP.t)) F (.slice A L C),Item.bk w1.heap.size 9 #[.string { data:= #[100,114,117,109,115] },.string { data:= #[98,97,115,115] },.string { data:= #[98,117,115] },.string { data:= #[101,99,104,111] },.string { data:= #[107,101,121,115] },.string { data:= #[99,104,111,105,114] }],Item.bk w.heap.size 30 #[.slice none 0 0]] from HM7.o.ins (it:=Item.own (T.sl 71 2 (([]:List xV).map xV.t)) [] (.slice none 0 0)) (by exact(Own.nil 0 _ _ _).ow) rfl);clear kX lX fX;obtain⟨kX,lX,fX⟩:=yL HM7 1 rfl;obtain⟨kM,lM,fM⟩:=yL HM7 2 rfl;replace HM7:=xN (show FM _ _ [Item.own (T.sl 74 3 (ms.map xP.t)) F (.slice A L C),Item.own (T.sl 71 2 (([]:List xV).map xV.t)) [] (.slice none 0 0),Item.bk wr.heap.size 74 #[.string { data:= #[109,97,115,116,101,114] },.int .i64 0,.slice none 0 0],Item.bk (w.heap.size+1) 30 #[.slice A L C],Item.bk w1.heap.size 9 #[.string { data:= #[100,114,117,109,115] },.string { data:= #[98,97,115,115] },.string { data:= #[98,117,115] },.string { data:= #[101,99,104,111] },.string { data:= #[107,101,121,115] },.string { data:= #[99,104,111,105,114] }],Item.bk w.heap.size 30 #[.slice none 0 0]] from(FM.front (FM.front (FM.front (FM.front (FM.front (FM.front HM7.o 5 (by simp)) 5 (by simp)) 4 (by simp)) 4 (by simp)) 4 (by simp)) 5 (by simp)));have HO:=xN HM7.o.own;have HI:=xN HM7.o.tail.own;go_wp2_with (at_builtin;(refine yJz rfl _ _ _ rfl w.heap.size _ _ 3 48 Tryz.underlying28 wPz rfl zM rfl HO.o (x:=(⟨⟨#[109,97,115,116,101,114]⟩,0,[]⟩:xP).t) (T.ow_st (xP.ow_mk (x:=(⟨⟨#[109,97,115,116,101,114]⟩,0,[]⟩:xP)) HI.o.ow)) (by rw[List.append_nil];exact HI.o.nodup) (fun b hb=>HI.o.lo b (by rw[List.append_nil] at hb;exact hb)) (fun b hb hb2=>HM7.o.apart hb (by rw[List.append_nil] at hb2;rw[List.flatMap_cons];exact List.mem_append_left _ hb2)) rfl (by first|rfl|(show Value.slice _ _ _=_;simp)) (by rw[List.length_map];omega) (by rw[List.length_map];omega) hz7 ?_;intro v8 w9 F9 ho8 hg8 hv8;have ho9:Own w.heap.size w9 (T.sl 74 3 ((ms++ [(⟨⟨#[109,97,115,116,101,114]⟩,0,[]⟩:xP)]).map xP.t)) F9 v8:=(by rw[List.map_append];exact ho8);obtain⟨uA,uL,uC,rfl⟩:=T.xE ho9.ow;have HM8:=xN (show FM w.heap.size w9 [Item.own (T.sl 74 3 ((ms++ [(⟨⟨#[109,97,115,116,101,114]⟩,0,[]⟩:xP)]).map xP.t)) F9 (.slice uA uL uC),Item.bk wr.heap.size 74 #[.string { data:= #[109,97,115,116,101,114] },.int .i64 0,.slice none 0 0],Item.bk (w.heap.size+1) 30 #[.slice A L C],Item.bk w1.heap.size 9 #[.string { data:= #[100,114,117,109,115] },.string { data:= #[98,97,115,115] },.string { data:= #[98,117,115] },.string { data:= #[101,99,104,111] },.string { data:= #[107,101,121,115] },.string { data:= #[99,104,111,105,114] }],Item.bk w.heap.size 30 #[.slice none 0 0]] from HM7.o.app hg8 ho9 (fun b hb=>by have h2:=hv8 b hb;rw[List.append_nil] at h2;exact h2) hz7);have HS8:=xN (HS7.o.grown hg8 (fun b e=>HO.o.row b e));have hz8:w.heap.size≤w9.heap.size:=Nat.le_trans hz7 hg8.size;clear ho8 hg8 hv8 ho9 kX lX fX kM lM fM;obtain⟨kM,lM,fM⟩:=yL HM8 2 rfl;obtain⟨kR,lR,fR⟩:=yL HM8 4 rfl))
   have hoks:OkS4 (⟨⟨#[109,97,115,116,101,114]⟩,0,[]⟩:xP):=⟨⟨by show (6:Nat)≤_;omega,vQ (by dsimp only;omega),by simp⟩,by show (6:Nat)≤10;omega,by simp⟩;refine bodyPost_ret (v:= .agg #[.slice uA uL uC]) (by simp[results,Tryz.results77,go_sem,kR,fR,lR]) rfl ?_;obtain⟨HM9,HS9,hz9⟩:=(yU HM8 HS8 hz8).E 2 rfl 0 (.slice uA uL uC) #[.slice uA uL uC] rfl;clear HM8 HS8 hz8;obtain⟨HM10,HS10,hz10⟩:=(yU HM9 HS9 hz9).E 4 rfl 0 (.slice uA uL uC) #[.slice uA uL uC] rfl;clear HM9 HS9 hz9;replace HM10:=xN (show FM _ _ [Item.own (T.sl 74 3 ((ms++ [(⟨⟨#[109,97,115,116,101,114]⟩,0,[]⟩:xP)]).map xP.t)) F9 (.slice uA uL uC)] from(FM.drop (FM.drop (FM.drop (FM.drop (FM.front HM10.o 0 (by simp)) 4 (by simp)) 3 (by simp)) 2 (by simp)) 1 (by simp)));exact⟨ms++ [⟨⟨#[109,97,115,116,101,114]⟩,0,[]⟩],uA,uL,uC,c1,F9,rfl,(fun z hz=>(vS HMS.o hoks z hz).up),by rw[List.length_append];simp;omega,⟨by simp,vS HMS.o hoks⟩,HM10.o,by omega,HS10.o⟩
  obtain⟨kX,lX,fX⟩:=yL HM7 0 rfl;go_wp2_with fail
  refine(wS HS7.o zM zM).mono ?_;rintro e w5 ⟨y,c2,rfl,hy,hc2,hs⟩;obtain⟨HM8,HS8,hz8⟩:=(yU HM7 HS7 hz7).S hs;clear hs HM7 HS7 hz7;clear kX lX fX;obtain⟨kX,lX,fX⟩:=yL HM8 0 rfl;replace HM8:=xN (show FM _ _ [Item.own (T.sl 71 2 (([]:List xV).map xV.t)) [] (.slice none 0 0),Item.bk wr.heap.size 74 #[.string { data:= #[109,97,115,116,101,114] },.int .i64 0,.slice none 0 0],Item.bk (w.heap.size+1) 30 #[.slice A L C],Item.own (T.sl 74 3 (ms.map xP.t)) F (.slice A L C),Item.bk w1.heap.size 9 #[.string { data:= #[100,114,117,109,115] },.string { data:= #[98,97,115,115] },.string { data:= #[98,117,115] },.string { data:= #[101,99,104,111] },.string { data:= #[107,101,121,115] },.string { data:= #[99,104,111,105,114] }],Item.bk w.heap.size 30 #[.slice none 0 0]] from HM8.o.ins (it:=Item.own (T.sl 71 2 (([]:List xV).map xV.t)) [] (.slice none 0 0)) (by exact(Own.nil 0 _ _ _).ow) rfl);clear kX lX fX;obtain⟨kX,lX,fX⟩:=yL HM8 1 rfl;obtain⟨kM,lM,fM⟩:=yL HM8 2 rfl;obtain⟨HM9,HS9,hz9⟩:=(yU HM8 HS8 hz8).E 1 rfl 1 (.int .i64 y) #[.string { data:= #[109,97,115,116,101,114] },.int .i64 y,.slice none 0 0] rfl;clear HM8 HS8 hz8;replace HM9:=xN (show FM _ _ [Item.own (T.sl 74 3 (ms.map xP.t)) F (.slice A L C),Item.own (T.sl 71 2 (([]:List xV).map xV.t)) [] (.slice none 0 0),Item.bk wr.heap.size 74 #[.string { data:= #[109,97,115,116,101,114] },.int .i64 y,.slice none 0 0],Item.bk (w.heap.size+1) 30 #[.slice A L C],Item.bk w1.heap.size 9 #[.string { data:= #[100,114,117,109,115] },.string { data:= #[98,97,115,115] },.string { data:= #[98,117,115] },.string { data:= #[101,99,104,111] },.string { data:= #[107,101,121,115] },.string { data:= #[99,104,111,105,114] }],Item.bk w.heap.size 30 #[.slice none 0 0]] from(FM.front (FM.front (FM.front (FM.front (FM.front (FM.front HM9.o 5 (by simp)) 5 (by simp)) 4 (by simp)) 4 (by simp)) 4 (by simp)) 5 (by simp)));have HO:=xN HM9.o.own;have HI:=xN HM9.o.tail.own;go_wp2_with (at_builtin;(refine yJz rfl _ _ _ rfl w.heap.size _ _ 3 48 Tryz.underlying28 wPz rfl zM rfl HO.o (x:=(⟨⟨#[109,97,115,116,101,114]⟩,y,[]⟩:xP).t) (T.ow_st (xP.ow_mk (x:=(⟨⟨#[109,97,115,116,101,114]⟩,y,[]⟩:xP)) HI.o.ow)) (by rw[List.append_nil];exact HI.o.nodup) (fun b hb=>HI.o.lo b (by rw[List.append_nil] at hb;exact hb)) (fun b hb hb2=>HM9.o.apart hb (by rw[List.append_nil] at hb2;rw[List.flatMap_cons];exact List.mem_append_left _ hb2)) rfl (by first|rfl|(show Value.slice _ _ _=_;simp)) (by rw[List.length_map];omega) (by rw[List.length_map];omega) hz9 ?_;intro v8 w9 F9 ho8 hg8 hv8;have ho9:Own w.heap.size w9 (T.sl 74 3 ((ms++ [(⟨⟨#[109,97,115,116,101,114]⟩,y,[]⟩:xP)]).map xP.t)) F9 v8:=(by rw[List.map_append];exact ho8);obtain⟨uA,uL,uC,rfl⟩:=T.xE ho9.ow;have HM10:=xN (show FM w.heap.size w9 [Item.own (T.sl 74 3 ((ms++ [(⟨⟨#[109,97,115,116,101,114]⟩,y,[]⟩:xP)]).map xP.t)) F9 (.slice uA uL uC),Item.bk wr.heap.size 74 #[.string { data:= #[109,97,115,116,101,114] },.int .i64 y,.slice none 0 0],Item.bk (w.heap.size+1) 30 #[.slice A L C],Item.bk w1.heap.size 9 #[.string { data:= #[100,114,117,109,115] },.string { data:= #[98,97,115,115] },.string { data:= #[98,117,115] },.string { data:= #[101,99,104,111] },.string { data:= #[107,101,121,115] },.string { data:= #[99,104,111,105,114] }],Item.bk w.heap.size 30 #[.slice none 0 0]] from HM9.o.app hg8 ho9 (fun b hb=>by have h2:=hv8 b hb;rw[List.append_nil] at h2;exact h2) hz9);have HS10:=xN (HS9.o.grown hg8 (fun b e=>HO.o.row b e));have hz10:w.heap.size≤w9.heap.size:=Nat.le_trans hz9 hg8.size;clear ho8 hg8 hv8 ho9 kX lX fX kM lM fM;obtain⟨kM,lM,fM⟩:=yL HM10 2 rfl;obtain⟨kR,lR,fR⟩:=yL HM10 4 rfl))
  have hoks:OkS4 (⟨⟨#[109,97,115,116,101,114]⟩,y,[]⟩:xP):=⟨⟨by show (6:Nat)≤_;omega,vQ (by dsimp only;omega),by simp⟩,by show (6:Nat)≤10;omega,by simp⟩;refine bodyPost_ret (v:= .agg #[.slice uA uL uC]) (by simp[results,Tryz.results77,go_sem,kR,fR,lR]) rfl ?_;obtain⟨HM11,HS11,hz11⟩:=(yU HM10 HS10 hz10).E 2 rfl 0 (.slice uA uL uC) #[.slice uA uL uC] rfl;clear HM10 HS10 hz10;obtain⟨HM12,HS12,hz12⟩:=(yU HM11 HS11 hz11).E 4 rfl 0 (.slice uA uL uC) #[.slice uA uL uC] rfl;clear HM11 HS11 hz11;replace HM12:=xN (show FM _ _ [Item.own (T.sl 74 3 ((ms++ [(⟨⟨#[109,97,115,116,101,114]⟩,y,[]⟩:xP)]).map xP.t)) F9 (.slice uA uL uC)] from(FM.drop (FM.drop (FM.drop (FM.drop (FM.front HM12.o 0 (by simp)) 4 (by simp)) 3 (by simp)) 2 (by simp)) 1 (by simp)));exact⟨ms++ [⟨⟨#[109,97,115,116,101,114]⟩,y,[]⟩],uA,uL,uC,c2,F9,rfl,(fun z hz=>(vS HMS.o hoks z hz).up),by rw[List.length_append];simp;omega,⟨by simp,vS HMS.o hoks⟩,HM12.o,by omega,HS12.o⟩
end
section
open Go.RowKit
theorem Own.open_ {B:Nat} {w:World} {E:TypeId} {sz:Nat} {xs:List T} {F:List Nat} {g n cap k:Nat} {x:T} (h:Own B w (.sl E sz xs) F (.slice (some ⟨g,0,none⟩) n cap)) (hk:xs[k]?=some x):
  ∃ Fx cx,T.ow w x Fx cx∧cx.length=sz∧(∀ j u,cx[j]?=some u→w.cell? ⟨g,k * sz+j,none⟩=some u)∧(∀ j,w.frozen? ⟨g,j,none⟩=false)∧g<w.heap.size∧B≤g∧Fx.Nodup∧(∀ b ∈ Fx,b ∈ F)∧g ∉ Fx∧
   ∀ w' Fy y j u,Trn Fx w w'→T.ow w' y Fy (cx.set j u)→T.wide y=sz→j<sz→Fy.Nodup→(∀ b ∈ Fy,b ∈ Fx∨w.heap.size≤b)→B≤w.heap.size→
    ∃ F',Own B (w'.setCell ⟨g,k * sz+j,none⟩ u) (.sl E sz (xs.set k y)) F' (.slice (some ⟨g,0,none⟩) n cap)∧(∀ b ∈ F',b ∈ F∨w.heap.size≤b):=by
 have hm:=h.mem g rfl;have hglt:=h.lt g hm;have hglo:=h.lo g hm;have hlt:=h.lt;obtain⟨pre,post,hx,hl,hs⟩:=zQy hk;obtain⟨ho,hn,hlo⟩:=h;rw[hx] at ho;obtain⟨n',g',cap',G1,Fx,G2,c1,cx,c2,e1,e2,M⟩:=T.mid ho hn;injection e1 with e1 e3 e4;injection e1 with e1;injection e1 with e1;subst e1 e3 e4 e2;have hc1:=M.c1;rw[hl] at hc1;have hcl:cx.length=sz:=by rw[T.rd_len _ _ (T.ow_rd _ _ _ M.el)];exact M.wd x (by simp)
 refine⟨Fx,cx,M.el,hcl,fun j u hj=>uUz j M.own hc1 hj,fun j=>World.ownsRow.frozenAt M.own j,hglt,hglo,M.fx,fun b hb=>by simp[hb],M.gx,?_⟩;intro w' Fy y j u kt hy hw hj nFy hFy hB;have hg:=(List.nodup_cons.1 M.nd).1;have h2:=(List.nodup_cons.1 M.nd).2;have hgy:g ∉ Fy:=fun hq=>by rcases hFy g hq with h3|h3;exact M.gx h3;omega
 have d1: ∀ b ∈ G1,b ∉ Fx:=fun b hb hm2=>yYz h2 b hb (by simp[hm2])
 have d2: ∀ b ∈ G2,b ∉ Fx:=fun b hb hm2=>nodup_dj' (yY h2) b hb hm2
 have e1: ∀ b ∈ G1,b ∉ Fy:=fun b hb hm2=>by
  rcases hFy b hm2 with h3|h3
  ·exact d1 b hb h3
  ·have:=hlt b (by simp[hb]);omega
 have e2: ∀ b ∈ G2,b ∉ Fy:=fun b hb hm2=>by
  rcases hFy b hm2 with h3|h3
  ·exact d2 b hb h3
  ·have:=hlt b (by simp[hb]);omega
 have g1: ∀ b ∈ G1,b ∉ [g]:=fun b hb hm2=>by rw[List.mem_singleton] at hm2;subst hm2;exact hg (by simp[hb])
 have g2: ∀ b ∈ G2,b ∉ [g]:=fun b hb hm2=>by rw[List.mem_singleton] at hm2;subst hm2;exact hg (by simp[hb])
 have kg:Trn [g] w' (w'.setCell ⟨g,k * sz+j,none⟩ u):=Trn.set_ (by simp) _ _;have hrow:=uTz j (own_trn M.own kt M.gx) hc1 zM (u:=u);refine⟨g :: (G1++(Fy++G2)),⟨?_,?_,?_⟩,?_⟩
 ·rw[hs]
  simp only[T.ow];refine⟨_,c1++(cx.set j u++c2),G1++(Fy++G2),rfl,by simp[Value.ownBlock],?_,?_,?_⟩
  ·intro z hz
   rcases List.mem_append.1 hz with hz|hz
   ·exact M.wd z (by simp[hz])
   ·rcases List.mem_cons.1 hz with rfl|hz
    ·exact hw
    ·exact M.wd z (by simp[hz])
  ·have:(pre++y :: post).length=n:=by rw[M.ln];simp
   rw[this];exact hrow
  ·refine(T.ows_app _ _ _ _).2 ⟨G1,Fy++G2,c1,cx.set j u++c2,rfl,rfl,T.ows_trn (T.ows_trn M.pr kt d1) kg g1,?_⟩
   simp only[T.ows];exact⟨Fy,G2,cx.set j u,c2,rfl,rfl,T.ow_far hy hgy _ u,T.ows_trn (T.ows_trn M.po kt d2) kg g2⟩
 ·rw[List.nodup_cons]
  refine⟨fun hq=>?_,vY (xWz h2) (vY nFy (yY (yY h2)) (fun b hb hq=>e2 b hq hb)) (fun b hb hq=>?_)⟩
  ·rcases List.mem_append.1 hq with hq|hq
   ·exact hg (by simp[hq])
   ·rcases List.mem_append.1 hq with hq|hq
    ·exact hgy hq
    ·exact hg (by simp[hq])
  ·rcases List.mem_append.1 hq with hq|hq
   ·exact e1 b hb hq
   ·exact yYz h2 b hb (by simp[hq])
 ·intro b hb
  rcases List.mem_cons.1 hb with rfl|hb
  ·exact hglo
  ·rcases List.mem_append.1 hb with hb|hb
   ·exact hlo b (by simp[hb])
   ·rcases List.mem_append.1 hb with hb|hb
    ·rcases hFy b hb with h3|h3
     ·exact hlo b (by simp[h3])
     ·omega
    ·exact hlo b (by simp[hb])
 ·intro b hb
  rcases List.mem_cons.1 hb with rfl|hb
  ·exact .inl (by simp)
  ·rcases List.mem_append.1 hb with hb|hb
   ·exact .inl (by simp[hb])
   ·rcases List.mem_append.1 hb with hb|hb
    ·rcases hFy b hb with h3|h3
     ·exact .inl (by simp[h3])
     ·exact .inr h3
    ·exact .inl (by simp[hb])
theorem FM.open_ {B:Nat} {w:World} {L:List Item} {E:TypeId} {sz:Nat} {xs:List T} {F:List Nat} {g n cap k:Nat} {x:T} (h:FM B w L) (i:Nat) (hi:L[i]?=some (Item.own (.sl E sz xs) F (.slice (some ⟨g,0,none⟩) n cap))) (hk:xs[k]?=some x) (hB:B≤w.heap.size):
  ∃ Fx cx,T.ow w x Fx cx∧cx.length=sz∧(∀ j u,cx[j]?=some u→w.cell? ⟨g,k * sz+j,none⟩=some u)∧(∀ j,w.frozen? ⟨g,j,none⟩=false)∧g<w.heap.size∧B≤g∧Fx.Nodup∧(∀ b ∈ Fx,b ∈ F)∧g ∉ Fx∧
   ∀ w' Fy y j u,Trn Fx w w'→T.ow w' y Fy (cx.set j u)→T.wide y=sz→j<sz→Fy.Nodup→(∀ b ∈ Fy,b ∈ Fx∨w.heap.size≤b)→
    ∃ F',FM B (w'.setCell ⟨g,k * sz+j,none⟩ u) (L.set i (Item.own (.sl E sz (xs.set k y)) F' (.slice (some ⟨g,0,none⟩) n cap))):=by
 have hO:=h.ownAt i hi;obtain⟨Fx,cx,h1,h2,h3,h4,h5,h6,h7,h8,h9,h10⟩:=Own.open_ hO hk;refine⟨Fx,cx,h1,h2,h3,h4,h5,h6,h7,h8,h9,fun w' Fy y j u kt hy hw hj nFy hFy=>?_⟩;obtain⟨F',q1,q2⟩:=h10 w' Fy y j u kt hy hw hj nFy hFy hB;exact⟨F',h.vE (it':=Item.own (.sl E sz (xs.set k y)) F' (.slice (some ⟨g,0,none⟩) n cap)) i hi ((kt.mono h8).trans (Trn.set_ (hO.mem g rfl) _ _)) q1.ow q1.nodup q2 hB⟩
end
end Go.Proofs.YtdcofkabaigjpaaGreat
