/- Contract: a clip is put into a list (reference). Draws: a track. -/
import Derived.Test.YtdcofkabaigjpaaGreatQAuEdits
set_option linter.unusedVariables false
set_option linter.unusedSimpArgs false
set_option maxHeartbeats 4000000
set_option maxRecDepth 100000
namespace Go.Proofs.YtdcofkabaigjpaaGreat
section
open Go.RowKit
theorem yXy {w:World} {sz n j cap:Nat} {A:Option Addr} {es:List Value} (h:Rd w (.slice A n cap) sz n es) (hj:j≤n):Rd w (.slice A j cap) sz j (es.take (j * sz)):=by
 obtain⟨hl,A',c',e,h1,h2,h3⟩:=h;injection e with e1 e2 e3;subst e1 e3;have hm:=Nat.mul_le_mul_right sz hj;refine⟨by rw[List.length_take,hl];omega,A,cap,rfl,by omega,h2,fun hp=>?_⟩;obtain⟨b,off,e,hb,hc⟩:=h3 zM;exact⟨b,off,e,hb,fun i u hi=>hc i u (by rw[List.getElem?_take] at hi;split at hi;exact hi;cases hi)⟩
theorem rd_none2 {w:World} {sz n c:Nat} {A:Option Addr} {es:List Value} (hn:n=0) (hc:c=0) (h:es= []):Rd w (.slice A n c) sz n es:=by
 subst h hn hc;exact⟨by simp,A,0,rfl,zJ,by decide,fun hp=>absurd hp zM⟩
theorem rd_drop2 {w:World} {sz n j cap b o:Nat} {es:List Value} (h:Rd w (.slice (some ⟨b,o,none⟩) n cap) sz n es) (hj:j≤n):Rd w (.slice (some ⟨b,o+j * sz,none⟩) (n - j) (cap - j)) sz (n - j) (es.drop (j * sz)):=by
 obtain⟨hl,A',c',e,h1,h2,h3⟩:=h;injection e with e1 e2 e3;subst e1 e3;refine⟨by rw[List.length_drop,hl,Nat.sub_mul],_,cap - j,rfl,by omega,by omega,fun hp=>?_⟩;obtain⟨b',off,e,hb,hc⟩:=h3 zM;injection e with e;injection e with e1 e2;subst e1 e2;exact⟨b,o+j * sz,rfl,hb,fun i u hi=>by rw[Nat.add_assoc];exact hc _ u (by rw[List.getElem?_drop] at hi;exact hi)⟩
def RowC (w:World) (v:Value) (cl:List xU):Prop:=T.rd w (T.sl 39 5 (cl.map xU.t)) [v]∧(v= .slice none 0 0∨ ∃ g cap,v= .slice (some ⟨g,0,none⟩) cl.length cap∧g<w.heap.size∧cl.length≤cap)
theorem c_l23Put (cl:List xU) (v:Value) (c:xU) (w:World) (hr:RowC w v cl) (hl:cl.length≤1000):Calls Tryz.prog 146 #[v,.agg #[.int .i64 c.zV,.int .i64 c.zO,.int .i64 c.zB,.int .i64 c.yE,.int .i64 c.yB]] w fun e w'=> ∃ (v':Value) (j:Nat) (F:List Nat),e= .returned (.tuple #[v',.int .i64 (j:Int)])∧j≤cl.length∧Own w.heap.size w' (T.sl 39 5 ((cl.take j++c :: cl.drop j).map xU.t)) F v'∧Below w.heap.size w w':=by
 have HR:=xN hr;obtain⟨A,cap,rfl,hln,hm,hx⟩:=T.yS hr.1;have HX:=xN hx;obtain⟨es,hrd,hrs⟩:=T.rd_row hr.1;rw[List.length_map] at hrd;have H1C:=xN (T.rds_cell _ _ hrs);have HRD:=xN hrd;have HRS:=xN hrs;have HVS:=xN (show T.rds w (xU.fs c) #[.int .i64 c.zV,.int .i64 c.zO,.int .i64 c.zB,.int .i64 c.yE,.int .i64 c.yB].toList from xU.rd_mk (x:=c));have HOR:=xN hr.2;clear hr hx hrd hrs;obtain⟨HB0,HK0⟩:=aK w 39 #[.int .i64 c.zV,.int .i64 c.zO,.int .i64 c.zB,.int .i64 c.yE,.int .i64 c.yB]
 rcases HOR.o with e|⟨g0,cap0,e,hgl0,hcap0⟩<;>clear HOR
 ·
  injection e with e1 e2 e3;have hcl0:cl.length≤0:=Nat.le_of_eq e2;subst e1 e3;clear e2;have kb:=HK0.o.cell;have lb:=HK0.o.lt
  go_enter Tryz.func146,Tryz.ntmps146
  go_wp2;clear kb lb
  go_loopw [6] (fun kk wr=> ∃ k:Nat,k≤cl.length∧kk= .int .i64 (k:Int)∧Below w.heap.size w wr∧Bk wr w.heap.size 39 #[.int .i64 c.zV,.int .i64 c.zO,.int .i64 c.zB,.int .i64 c.yE,.int .i64 c.yB]) (fun kk _=>(intOf kk).toNat)
  case atStart=>exact⟨cl.length,zJ,rfl,HB0.o,HK0.o⟩
  case round=>
   obtain⟨k,hk,rfl,hb,hbk⟩:=hrel;have HB:=xN hb;have HK:=xN hbk;clear hb hbk HB0 HK0;have kb:=HK.o.cell;have lb:=HK.o.lt;by_cases hk0:0<k
   ·
    have b0:decide (0<k)=true:=decide_eq_true hk0
    exfalso;omega
   have b0:decide (0<k)=false:=decide_eq_false hk0;clear kb lb;have g1:=xM HK.o;go_wp2;refine rB ?_
   repeat(first|go_big_quiet_skip|(go_big_quiet_want;go_big_quiet_op;go_big_quiet_on))
   refine wpQuiet_nil ?_;rintro w9 ⟨uu,rfl⟩;have hb9:=yM wr uu;generalize bel wr uu=w9 at *;have HB9:=xN (yO HB.o HB.o.size hb9);have HK9:=xN (HK.o.below hb9 HK.o.lt);clear hb9 g1;have HBa:=xN (show Below w.heap.size w (w9.alloc (.cells #[] 39)) from HB9.o.alloc HB9.o.size _);have HMa:=xN (zGz (World.ownsRow_made w9 #[] 0 zJ (by decide) rfl:(w9.alloc (.cells #[] 39)).ownsRow w9.heap.size 39 5 (.slice (some ⟨w9.heap.size,0,none⟩) 0 0) 0 []) HB9.o.size);have kb:=HK9.o.cell;have lb:=HK9.o.lt;have NIL:=xN (show es.drop (k * 5)= [] by rw[List.drop_eq_nil_iff,HRD.o.1];omega);obtain rfl:k=0:=by omega
   have h0i:(cl.length:Int)=0:=by omega
   go_wp2_with ((at_builtin;(refine uAz (news:= #[.int .i64 c.zV,.int .i64 c.zO,.int .i64 c.zB,.int .i64 c.yE,.int .i64 c.yB]) rfl _ _ _ rfl w.heap.size _ _ 5 40 Tryz.underlying67 vM rfl zM (.slice (some ⟨w9.heap.size,0,none⟩) 0 0) 0 [] rfl HMa.o (by first|rfl|(show Value.slice _ _ _=_;simp)) rfl (T.rds_cell _ _ HVS.o) zM zM HBa.o.size ?_;intro vX wX hrX hgX hvX;obtain⟨bX,capX,rfl,hcX⟩: ∃ b c,vX= .slice (some ⟨b,0,none⟩) 1 c∧1≤c:=(by rcases hrX.2 with ⟨_,h0⟩|⟨b,c,_,e,_,_,h1,_⟩;(· exact absurd h0 (by simp));(· exact⟨b,c,e,h1⟩));have HBX:=xN (uQ HBa.o hgX (fun q hq=>(HMa.o.lt q hq).1));have HMY:=xN (show wX.ownsRow w.heap.size 39 5 (.slice (some ⟨bX,0,none⟩) 1 capX) 1 [.int .i64 c.zV,.int .i64 c.zO,.int .i64 c.zB,.int .i64 c.yE,.int .i64 c.yB] from hrX);clear hrX hgX hvX kb lb)))
   have hec:cl= []:=List.eq_nil_of_length_eq_zero zM;subst hec;refine bodyPost_ret (v:= .tuple #[.slice (some ⟨bX,0,none⟩) 1 capX,.int .i64 (0:Int)]) (by simp[results,Tryz.results146,go_sem]) rfl ?_;exact⟨_,0,_,rfl,zJ,Own.of_flat (w':=w) (xU.flat _) xU.wide_t HMY.o (show T.rds w [c.t] _ by have h1:=HVS.o;simpa[xU.t,T.rds,T.rd] using h1) rfl,HBX.o⟩
 ·
  injection e with e1 e2 e3;subst e1 e3;clear e2;have kb:=HK0.o.cell;have lb:=HK0.o.lt
  go_enter Tryz.func146,Tryz.ntmps146
  go_wp2;clear kb lb
  go_loopw [6] (fun kk wr=> ∃ k:Nat,k≤cl.length∧kk= .int .i64 (k:Int)∧Below w.heap.size w wr∧Bk wr w.heap.size 39 #[.int .i64 c.zV,.int .i64 c.zO,.int .i64 c.zB,.int .i64 c.yE,.int .i64 c.yB]) (fun kk _=>(intOf kk).toNat)
  case atStart=>exact⟨cl.length,zJ,rfl,HB0.o,HK0.o⟩
  case round=>
   obtain⟨k,hk,rfl,hb,hbk⟩:=hrel;have HB:=xN hb;have HK:=xN hbk;clear hb hbk HB0 HK0;have kb:=HK.o.cell;have lb:=HK.o.lt;by_cases hk0:0<k
   ·
    have b0:decide (0<k)=true:=decide_eq_true hk0;obtain⟨y,hy⟩: ∃ y,cl[k - 1]?=some y:=⟨cl[k - 1]'zM,gE _⟩;obtain⟨b,off,cs,eA,hbl,hcr,hcc⟩:=HX.o (k - 1) y hy;injection eA with eA;injection eA with eA1 eA2;subst eA1 eA2;obtain rfl:=xU.yT (show T.rds w y.fs cs from by simpa[xU.t,T.rd] using hcr);have kc:wr.cell? ⟨g0,(k - 1) * 5+3,none⟩=some (.int .i64 y.yE):=(HB.o.cell hbl).trans (by have h3:=hcc 3 _ rfl;rwa [Nat.zero_add] at h3);have lc:=zW hbl HB.o.size;have hw:IntKind.i64.wrap ((k:Int) - 1)=((k - 1:Nat):Int):=by rw[IntWalk.i64_in _ zM];omega
    have hix:((k - 1:Nat):Int)<(cl.length:Int):=by omega
    have hiy:(0:Int)≤((k - 1:Nat):Int):=by omega
    clear hcc hcr
    cases bt:decide (c.yE<y.yE)
    rotate_left
    ·
     go_wp2;have g0:=yK kc;have g1:=xM HK.o;clear kb lb kc;refine rB ?_
     repeat(first|go_big_quiet_skip|(go_big_quiet_want;go_big_quiet_op;go_big_quiet_on))
     refine wpQuiet_nil ?_;rintro w9 ⟨uu,rfl⟩;have hb9:=yM wr uu;generalize bel wr uu=w9 at *;have HB9:=xN (yO HB.o HB.o.size hb9);have HK9:=xN (HK.o.below hb9 HK.o.lt);clear hb9 g0 g1;go_wp2
     go_roundw
     case rel=>exact⟨k - 1,by omega,by go_num,HB9.o,HK9.o⟩
     case measure=>first|(simp[intOf];done)|(simp[intOf];omega)
    go_wp2;have g0:=yK kc;have g1:=xM HK.o;clear kb lb kc;refine rB ?_
    repeat(first|go_big_quiet_skip|(go_big_quiet_want;go_big_quiet_op;go_big_quiet_on))
    refine wpQuiet_nil ?_;rintro w9 ⟨uu,rfl⟩;have hb9:=yM wr uu;generalize bel wr uu=w9 at *;have HB9:=xN (yO HB.o HB.o.size hb9);have HK9:=xN (HK.o.below hb9 HK.o.lt);clear hb9 g0 g1;have HBa:=xN (show Below w.heap.size w (w9.alloc (.cells #[] 39)) from HB9.o.alloc HB9.o.size _);have HMa:=xN (zGz (World.ownsRow_made w9 #[] 0 zJ (by decide) rfl:(w9.alloc (.cells #[] 39)).ownsRow w9.heap.size 39 5 (.slice (some ⟨w9.heap.size,0,none⟩) 0 0) 0 []) HB9.o.size);have kb:=HK9.o.cell;have lb:=HK9.o.lt;have hin:(k:Int)≤(cl.length:Int):=by omega
    by_cases hkc:k=cap
    ·
     have NIL:=xN (show es.drop (k * 5)= [] by rw[List.drop_eq_nil_iff,HRD.o.1];omega);subst hkc;go_wp2_with (first|(at_builtin;(refine yFz rfl _ _ _ rfl w.heap.size _ _ 5 40 Tryz.underlying67 vM rfl zM v8 (k+1) (es.take (k * 5)++ [.int .i64 c.zV,.int .i64 c.zO,.int .i64 c.zB,.int .i64 c.yE,.int .i64 c.yB]) rfl HM8.o _ _ (es.drop (k * 5)) rfl (rd_none2 zM zM NIL.o) (fun u hu=>H1C.o u (List.mem_of_mem_drop hu)) zM zM HB8.o.size ?_;intro vX wX hrX hgX hvX;have HBX:=xN (uQ HB8.o hgX (fun q hq=>(HM8.o.lt q hq).1));have HMX:=xN hrX;clear hrX hgX hvX))|(at_builtin;(refine uAz (news:= #[.int .i64 c.zV,.int .i64 c.zO,.int .i64 c.zB,.int .i64 c.yE,.int .i64 c.yB]) rfl _ _ _ rfl w.heap.size _ _ 5 40 Tryz.underlying67 vM rfl zM v7 k (es.take (k * 5)) rfl HM7.o rfl rfl (T.rds_cell _ _ HVS.o) zM zM HB7.o.size ?_;intro v8 w8 hr8 hg8 hv8;have HB8:=xN (uQ HB7.o hg8 (fun q hq=>(HM7.o.lt q hq).1));have HM8:=xN (show w8.ownsRow w.heap.size 39 5 v8 (k+1) (es.take (k * 5)++ [.int .i64 c.zV,.int .i64 c.zO,.int .i64 c.zB,.int .i64 c.yE,.int .i64 c.yB]) from hr8);clear hr8 hg8 hv8 kb lb))|(at_builtin;(refine yFz rfl _ _ _ rfl w.heap.size _ _ 5 40 Tryz.underlying67 vM rfl zM (.slice (some ⟨w9.heap.size,0,none⟩) 0 0) 0 [] rfl HMa.o _ k (es.take (k * 5)) rfl ((yXy HRD.o hk).below HBa.o) (fun u hu=>H1C.o u (List.mem_of_mem_take hu)) zM zM (Nat.le_trans HB9.o.size (by simp)) ?_;intro v7 w7 hr7 hg7 hv7;have HB7:=xN (uQ HBa.o hg7 (fun q hq=>(HMa.o.lt q hq).1));have HM7:=xN (show w7.ownsRow w.heap.size 39 5 v7 k (es.take (k * 5)) by simpa using hr7);have HK7:=xN ((HK9.o.alloc (.cells #[] 39)).grown hg7 (fun e=>by injection e with e;(try dsimp only at e);have:=HK9.o.lt;omega));clear hr7 hg7 hv7 kb lb;have kb:=HK7.o.cell;have lb:=HK7.o.lt)))
     refine bodyPost_ret (v:= .tuple #[vX,.int .i64 (k:Int)]) (by simp[results,Tryz.results146,go_sem]) rfl ?_;have hL:T.rds w ((cl.take k++c :: cl.drop k).map xU.t) (es.take (k * 5)++ [.int .i64 c.zV,.int .i64 c.zO,.int .i64 c.zB,.int .i64 c.yE,.int .i64 c.yB]++es.drop (k * 5)):=by have:=zWy (k:=k) (j:=k) HRS.o hk hk HVS.o;rw[List.append_assoc];exact this
     exact⟨_,k,_,rfl,hk,Own.of_flat (w':=w) (xU.flat _) xU.wide_t HMX.o hL (by simp only[List.length_append,List.length_take,List.length_cons,List.length_drop];omega),HBX.o⟩
    have hci:(k:Int)<(cap:Int):=by omega
    have HRDD:=xN (show Rd w (.slice (some ⟨g0,k * 5,none⟩) (cl.length - k) (cap - k)) 5 (cl.length - k) (es.drop (k * 5)) by have:=rd_drop2 HRD.o hk;rwa [Nat.zero_add] at this);go_wp2_with (first|(at_builtin;(refine yFz rfl _ _ _ rfl w.heap.size _ _ 5 40 Tryz.underlying67 vM rfl zM v8 (k+1) (es.take (k * 5)++ [.int .i64 c.zV,.int .i64 c.zO,.int .i64 c.zB,.int .i64 c.yE,.int .i64 c.yB]) rfl HM8.o _ _ (es.drop (k * 5)) rfl (HRDD.o.below HB8.o) (fun u hu=>H1C.o u (List.mem_of_mem_drop hu)) zM zM HB8.o.size ?_;intro vX wX hrX hgX hvX;have HBX:=xN (uQ HB8.o hgX (fun q hq=>(HM8.o.lt q hq).1));have HMX:=xN hrX;clear hrX hgX hvX))|(at_builtin;(refine uAz (news:= #[.int .i64 c.zV,.int .i64 c.zO,.int .i64 c.zB,.int .i64 c.yE,.int .i64 c.yB]) rfl _ _ _ rfl w.heap.size _ _ 5 40 Tryz.underlying67 vM rfl zM v7 k (es.take (k * 5)) rfl HM7.o rfl rfl (T.rds_cell _ _ HVS.o) zM zM HB7.o.size ?_;intro v8 w8 hr8 hg8 hv8;have HB8:=xN (uQ HB7.o hg8 (fun q hq=>(HM7.o.lt q hq).1));have HM8:=xN (show w8.ownsRow w.heap.size 39 5 v8 (k+1) (es.take (k * 5)++ [.int .i64 c.zV,.int .i64 c.zO,.int .i64 c.zB,.int .i64 c.yE,.int .i64 c.yB]) from hr8);clear hr8 hg8 hv8 kb lb))|(at_builtin;(refine yFz rfl _ _ _ rfl w.heap.size _ _ 5 40 Tryz.underlying67 vM rfl zM (.slice (some ⟨w9.heap.size,0,none⟩) 0 0) 0 [] rfl HMa.o _ k (es.take (k * 5)) rfl ((yXy HRD.o hk).below HBa.o) (fun u hu=>H1C.o u (List.mem_of_mem_take hu)) zM zM (Nat.le_trans HB9.o.size (by simp)) ?_;intro v7 w7 hr7 hg7 hv7;have HB7:=xN (uQ HBa.o hg7 (fun q hq=>(HMa.o.lt q hq).1));have HM7:=xN (show w7.ownsRow w.heap.size 39 5 v7 k (es.take (k * 5)) by simpa using hr7);have HK7:=xN ((HK9.o.alloc (.cells #[] 39)).grown hg7 (fun e=>by injection e with e;(try dsimp only at e);have:=HK9.o.lt;omega));clear hr7 hg7 hv7 kb lb;have kb:=HK7.o.cell;have lb:=HK7.o.lt)))
    refine bodyPost_ret (v:= .tuple #[vX,.int .i64 (k:Int)]) (by simp[results,Tryz.results146,go_sem]) rfl ?_;have hL:T.rds w ((cl.take k++c :: cl.drop k).map xU.t) (es.take (k * 5)++ [.int .i64 c.zV,.int .i64 c.zO,.int .i64 c.zB,.int .i64 c.yE,.int .i64 c.yB]++es.drop (k * 5)):=by have:=zWy (k:=k) (j:=k) HRS.o hk hk HVS.o;rw[List.append_assoc];exact this
    exact⟨_,k,_,rfl,hk,Own.of_flat (w':=w) (xU.flat _) xU.wide_t HMX.o hL (by simp only[List.length_append,List.length_take,List.length_cons,List.length_drop];omega),HBX.o⟩
   have b0:decide (0<k)=false:=decide_eq_false hk0;clear kb lb;have g1:=xM HK.o;go_wp2;refine rB ?_
   repeat(first|go_big_quiet_skip|(go_big_quiet_want;go_big_quiet_op;go_big_quiet_on))
   refine wpQuiet_nil ?_;rintro w9 ⟨uu,rfl⟩;have hb9:=yM wr uu;generalize bel wr uu=w9 at *;have HB9:=xN (yO HB.o HB.o.size hb9);have HK9:=xN (HK.o.below hb9 HK.o.lt);clear hb9 g1;have HBa:=xN (show Below w.heap.size w (w9.alloc (.cells #[] 39)) from HB9.o.alloc HB9.o.size _);have HMa:=xN (zGz (World.ownsRow_made w9 #[] 0 zJ (by decide) rfl:(w9.alloc (.cells #[] 39)).ownsRow w9.heap.size 39 5 (.slice (some ⟨w9.heap.size,0,none⟩) 0 0) 0 []) HB9.o.size);have kb:=HK9.o.cell;have lb:=HK9.o.lt;have hin:(k:Int)≤(cl.length:Int):=by omega
   by_cases hkc:k=cap
   ·
    have NIL:=xN (show es.drop (k * 5)= [] by rw[List.drop_eq_nil_iff,HRD.o.1];omega);subst hkc;go_wp2_with (first|(at_builtin;(refine yFz rfl _ _ _ rfl w.heap.size _ _ 5 40 Tryz.underlying67 vM rfl zM v8 (k+1) (es.take (k * 5)++ [.int .i64 c.zV,.int .i64 c.zO,.int .i64 c.zB,.int .i64 c.yE,.int .i64 c.yB]) rfl HM8.o _ _ (es.drop (k * 5)) rfl (rd_none2 zM zM NIL.o) (fun u hu=>H1C.o u (List.mem_of_mem_drop hu)) zM zM HB8.o.size ?_;intro vX wX hrX hgX hvX;have HBX:=xN (uQ HB8.o hgX (fun q hq=>(HM8.o.lt q hq).1));have HMX:=xN hrX;clear hrX hgX hvX))|(at_builtin;(refine uAz (news:= #[.int .i64 c.zV,.int .i64 c.zO,.int .i64 c.zB,.int .i64 c.yE,.int .i64 c.yB]) rfl _ _ _ rfl w.heap.size _ _ 5 40 Tryz.underlying67 vM rfl zM v7 k (es.take (k * 5)) rfl HM7.o rfl rfl (T.rds_cell _ _ HVS.o) zM zM HB7.o.size ?_;intro v8 w8 hr8 hg8 hv8;have HB8:=xN (uQ HB7.o hg8 (fun q hq=>(HM7.o.lt q hq).1));have HM8:=xN (show w8.ownsRow w.heap.size 39 5 v8 (k+1) (es.take (k * 5)++ [.int .i64 c.zV,.int .i64 c.zO,.int .i64 c.zB,.int .i64 c.yE,.int .i64 c.yB]) from hr8);clear hr8 hg8 hv8 kb lb))|(at_builtin;(refine yFz rfl _ _ _ rfl w.heap.size _ _ 5 40 Tryz.underlying67 vM rfl zM (.slice (some ⟨w9.heap.size,0,none⟩) 0 0) 0 [] rfl HMa.o _ k (es.take (k * 5)) rfl ((yXy HRD.o hk).below HBa.o) (fun u hu=>H1C.o u (List.mem_of_mem_take hu)) zM zM (Nat.le_trans HB9.o.size (by simp)) ?_;intro v7 w7 hr7 hg7 hv7;have HB7:=xN (uQ HBa.o hg7 (fun q hq=>(HMa.o.lt q hq).1));have HM7:=xN (show w7.ownsRow w.heap.size 39 5 v7 k (es.take (k * 5)) by simpa using hr7);have HK7:=xN ((HK9.o.alloc (.cells #[] 39)).grown hg7 (fun e=>by injection e with e;(try dsimp only at e);have:=HK9.o.lt;omega));clear hr7 hg7 hv7 kb lb;have kb:=HK7.o.cell;have lb:=HK7.o.lt)))
    refine bodyPost_ret (v:= .tuple #[vX,.int .i64 (k:Int)]) (by simp[results,Tryz.results146,go_sem]) rfl ?_;have hL:T.rds w ((cl.take k++c :: cl.drop k).map xU.t) (es.take (k * 5)++ [.int .i64 c.zV,.int .i64 c.zO,.int .i64 c.zB,.int .i64 c.yE,.int .i64 c.yB]++es.drop (k * 5)):=by have:=zWy (k:=k) (j:=k) HRS.o hk hk HVS.o;rw[List.append_assoc];exact this
    exact⟨_,k,_,rfl,hk,Own.of_flat (w':=w) (xU.flat _) xU.wide_t HMX.o hL (by simp only[List.length_append,List.length_take,List.length_cons,List.length_drop];omega),HBX.o⟩
   have hci:(k:Int)<(cap:Int):=by omega
   have HRDD:=xN (show Rd w (.slice (some ⟨g0,k * 5,none⟩) (cl.length - k) (cap - k)) 5 (cl.length - k) (es.drop (k * 5)) by have:=rd_drop2 HRD.o hk;rwa [Nat.zero_add] at this);go_wp2_with (first|(at_builtin;(refine yFz rfl _ _ _ rfl w.heap.size _ _ 5 40 Tryz.underlying67 vM rfl zM v8 (k+1) (es.take (k * 5)++ [.int .i64 c.zV,.int .i64 c.zO,.int .i64 c.zB,.int .i64 c.yE,.int .i64 c.yB]) rfl HM8.o _ _ (es.drop (k * 5)) rfl (HRDD.o.below HB8.o) (fun u hu=>H1C.o u (List.mem_of_mem_drop hu)) zM zM HB8.o.size ?_;intro vX wX hrX hgX hvX;have HBX:=xN (uQ HB8.o hgX (fun q hq=>(HM8.o.lt q hq).1));have HMX:=xN hrX;clear hrX hgX hvX))|(at_builtin;(refine uAz (news:= #[.int .i64 c.zV,.int .i64 c.zO,.int .i64 c.zB,.int .i64 c.yE,.int .i64 c.yB]) rfl _ _ _ rfl w.heap.size _ _ 5 40 Tryz.underlying67 vM rfl zM v7 k (es.take (k * 5)) rfl HM7.o rfl rfl (T.rds_cell _ _ HVS.o) zM zM HB7.o.size ?_;intro v8 w8 hr8 hg8 hv8;have HB8:=xN (uQ HB7.o hg8 (fun q hq=>(HM7.o.lt q hq).1));have HM8:=xN (show w8.ownsRow w.heap.size 39 5 v8 (k+1) (es.take (k * 5)++ [.int .i64 c.zV,.int .i64 c.zO,.int .i64 c.zB,.int .i64 c.yE,.int .i64 c.yB]) from hr8);clear hr8 hg8 hv8 kb lb))|(at_builtin;(refine yFz rfl _ _ _ rfl w.heap.size _ _ 5 40 Tryz.underlying67 vM rfl zM (.slice (some ⟨w9.heap.size,0,none⟩) 0 0) 0 [] rfl HMa.o _ k (es.take (k * 5)) rfl ((yXy HRD.o hk).below HBa.o) (fun u hu=>H1C.o u (List.mem_of_mem_take hu)) zM zM (Nat.le_trans HB9.o.size (by simp)) ?_;intro v7 w7 hr7 hg7 hv7;have HB7:=xN (uQ HBa.o hg7 (fun q hq=>(HMa.o.lt q hq).1));have HM7:=xN (show w7.ownsRow w.heap.size 39 5 v7 k (es.take (k * 5)) by simpa using hr7);have HK7:=xN ((HK9.o.alloc (.cells #[] 39)).grown hg7 (fun e=>by injection e with e;(try dsimp only at e);have:=HK9.o.lt;omega));clear hr7 hg7 hv7 kb lb;have kb:=HK7.o.cell;have lb:=HK7.o.lt)))
   refine bodyPost_ret (v:= .tuple #[vX,.int .i64 (k:Int)]) (by simp[results,Tryz.results146,go_sem]) rfl ?_;have hL:T.rds w ((cl.take k++c :: cl.drop k).map xU.t) (es.take (k * 5)++ [.int .i64 c.zV,.int .i64 c.zO,.int .i64 c.zB,.int .i64 c.yE,.int .i64 c.yB]++es.drop (k * 5)):=by have:=zWy (k:=k) (j:=k) HRS.o hk hk HVS.o;rw[List.append_assoc];exact this
   exact⟨_,k,_,rfl,hk,Own.of_flat (w':=w) (xU.flat _) xU.wide_t HMX.o hL (by simp only[List.length_append,List.length_take,List.length_cons,List.length_drop];omega),HBX.o⟩
end
section
open Go.RowKit
def AddX (cl:List xU) (c:xU) (w:World) (e:Ending) (w':World):Prop:= ∃ (cl':List xU) (v':Value) (k code:Int) (F:List Nat),e= .returned (.tuple #[.agg #[v'],.int .i64 k,.int .i64 code])∧cl'.length≤cl.length+1∧(∀ x ∈ cl',x ∈ cl∨x=c)∧Own w.heap.size w' (T.sl 39 5 (cl'.map xU.t)) F v'∧Below w.heap.size w w'
theorem c_AddClip (cl:List xU) (v:Value) (c:xU) (w:World) (hr:RowC w v cl) (hl:cl.length≤1000):Calls Tryz.prog 117 #[.agg #[v],.agg #[.int .i64 c.zV,.int .i64 c.zO,.int .i64 c.zB,.int .i64 c.yE,.int .i64 c.yB]] w fun e w'=>AddX cl c w e w':=by
 have HRC:=xN hr;obtain⟨A,cap,rfl,hln,hm,hx⟩:=T.yS hr.1;clear hr hx;have HB:=xN (show Below w.heap.size w (((w.alloc (.cells #[.slice A cl.length cap] 69)).alloc (.cells #[.int .i64 c.zV,.int .i64 c.zO,.int .i64 c.zB,.int .i64 c.yE,.int .i64 c.yB] 39)).alloc (.cells #[.slice none 0 0] 69)) from((zR.alloc zJ _).alloc (by simp) (.cells #[.int .i64 c.zV,.int .i64 c.zO,.int .i64 c.zB,.int .i64 c.yE,.int .i64 c.yB] 39)).alloc (by simp;omega) (.cells #[.slice none 0 0] 69));have HP:=xN (((Bk.born w 69 #[.slice A cl.length cap]).alloc (.cells #[.int .i64 c.zV,.int .i64 c.zO,.int .i64 c.zB,.int .i64 c.yE,.int .i64 c.yB] 39)).alloc (.cells #[.slice none 0 0] 69));have HE:=xN ((Bk.born1' w (.cells #[.slice A cl.length cap] 69) 39 #[.int .i64 c.zV,.int .i64 c.zO,.int .i64 c.zB,.int .i64 c.yE,.int .i64 c.yB]).alloc (.cells #[.slice none 0 0] 69));have HR:Sec (Bk _ (w.heap.size+1+1) 69 #[.slice none 0 0]):=xN (Bk.born2 w (.cells #[.slice A cl.length cap] 69) (.cells #[.int .i64 c.zV,.int .i64 c.zO,.int .i64 c.zB,.int .i64 c.yE,.int .i64 c.yB] 39) 69 #[.slice none 0 0]);obtain⟨W,hW⟩: ∃ W',W'=(((w.alloc (.cells #[.slice A cl.length cap] 69)).alloc (.cells #[.int .i64 c.zV,.int .i64 c.zO,.int .i64 c.zB,.int .i64 c.yE,.int .i64 c.yB] 39)).alloc (.cells #[.slice none 0 0] 69)):=⟨_,rfl⟩;rw[←hW] at HB HP HE HR;have HW:=xN hW;clear hW;have HAT:=xN (show T.at W (xS.fs ⟨cl⟩) w.heap.size 0 from⟨HP.o.lt,[.slice A cl.length cap],xS.rd_mk (T.yJ HRC.o.1 HB.o),fun i u hi=>by rw[Nat.zero_add];exact(HP.o.cell i).trans (by simpa using hi)⟩);have HEAT:=xN (show T.at W (xU.fs c) (w.heap.size+1) 0 from⟨HE.o.lt,_,xU.rd_mk,fun i u hi=>by rw[Nat.zero_add];exact(HE.o.cell i).trans (by simpa using hi)⟩)
 go_enter Tryz.func117,Tryz.ntmps117
 go_wp2_with fail
 rw[←HW.o];refine(c_l23Ok ⟨cl⟩ w.heap.size 0 _ HAT.o).mono ?_;rintro e wA ⟨rfl,hb⟩;have HB1:=xN (yO HB.o HB.o.size hb);have HP1:=xN (HP.o.below hb HP.o.lt);have HE1:=xN (HE.o.below hb HE.o.lt);have HR1:=xN (HR.o.below hb HR.o.lt);have HT1:=xN hb;clear hb;by_cases ok1:zAz ⟨cl⟩
 rotate_left
 ·
  have q1:=xH ok1;clear ok1;have kr:=HR1.o.cell;have fr:=HR1.o.free;have lr:=HR1.o.lt;have kp:=HP1.o.cell;have lp:=HP1.o.lt;have ke:=HE1.o.cell;have le:=HE1.o.lt;go_wp2;refine bodyPost_ret (v:= .tuple #[.agg #[.slice none 0 0],.int .i64 0,.int .i64 1]) (by simp[results,Tryz.results117,go_sem,kr,fr,lr]) rfl ?_;have hb:=HB1.o;exact⟨[],_,_,_,[],rfl,by simp,by simp,Own.nil _ _ _ _,ba⟩
 have q1:=xI ok1;clear ok1;go_wp2_with fail
 refine(wWz c (w.heap.size+1) 0 _ (T.at_below HEAT.o HT1.o)).mono ?_;rintro e wB ⟨rfl,hb⟩;have HB2:=xN (yO HB1.o HB1.o.size hb);have HP2:=xN (HP1.o.below hb HP1.o.lt);have HE2:=xN (HE1.o.below hb HE1.o.lt);have HR2:=xN (HR1.o.below hb HR1.o.lt);have HT2:=xN hb;clear hb;by_cases ok2:zLz c
 rotate_left
 ·
  have q2:=xH ok2;clear ok2;have kr:=HR2.o.cell;have fr:=HR2.o.free;have lr:=HR2.o.lt;have kp:=HP2.o.cell;have lp:=HP2.o.lt;have ke:=HE2.o.cell;have le:=HE2.o.lt;go_wp2;refine bodyPost_ret (v:= .tuple #[.agg #[.slice none 0 0],.int .i64 0,.int .i64 1]) (by simp[results,Tryz.results117,go_sem,kr,fr,lr]) rfl ?_;have hb:=HB2.o;exact⟨[],_,_,_,[],rfl,by simp,by simp,Own.nil _ _ _ _,ba⟩
 have q2:=xI ok2;clear ok2;have hli:(cl.length:Int)≤1000:=by omega
 cases bl:decide (12≤(cl.length:Int))
 rotate_left
 ·
  have kr:=HR2.o.cell;have fr:=HR2.o.free;have lr:=HR2.o.lt;have kp:=HP2.o.cell;have lp:=HP2.o.lt;have ke:=HE2.o.cell;have le:=HE2.o.lt;go_wp2;refine bodyPost_ret (v:= .tuple #[.agg #[.slice none 0 0],.int .i64 0,.int .i64 5]) (by simp[results,Tryz.results117,go_sem,kr,fr,lr]) rfl ?_;have hb:=HB2.o;exact⟨[],_,_,_,[],rfl,by simp,by simp,Own.nil _ _ _ _,ba⟩
 have kr:=HR2.o.cell;have fr:=HR2.o.free;have lr:=HR2.o.lt;have kp:=HP2.o.cell;have lp:=HP2.o.lt;have ke:=HE2.o.cell;have le:=HE2.o.lt;have hrc:RowC wB (.slice A cl.length cap) cl:=⟨T.yJ HRC.o.1 HB2.o,HRC.o.2.imp id (fun⟨g,cp,e,h1,h2⟩=>⟨g,cp,e,zW h1 HB2.o.size,h2⟩)⟩;have HRR:=xN hrc;clear hrc;go_wp2_with fail
 refine(c_l23Put cl _ c _ HRR.o hl).mono ?_;rintro e wC ⟨v',j,F,rfl,hj,ho,hb⟩;have HO:=xN ho;clear ho kr fr lr kp lp ke le;have HB3:=xN (yO HB2.o HB2.o.size hb);have HP3:=xN (HP2.o.below hb HP2.o.lt);have HE3:=xN (HE2.o.below hb HE2.o.lt);have HR3:=xN (HR2.o.below hb HR2.o.lt);have HT3:=xN hb;clear hb;obtain⟨oA,oL,oC,rfl⟩:=T.xE HO.o.ow;have kr:=HR3.o.cell;have fr:=HR3.o.free;have lr:=HR3.o.lt;have kp:=HP3.o.cell;have lp:=HP3.o.lt;have ke:=HE3.o.cell;have le:=HE3.o.lt;go_wp2;refine bodyPost_ret (v:= .tuple #[.agg #[.slice oA oL oC],.int .i64 (j:Int),.int .i64 0]) (by simp[results,Tryz.results117,go_sem,kr,fr,lr]) rfl ?_;have hb:=HB3.o;have HOW:Own w.heap.size wC (T.sl 39 5 ((cl.take j++c :: cl.drop j).map xU.t)) F (.slice oA oL oC):=⟨HO.o.ow,HO.o.nodup,fun b hb=>Nat.le_trans HB2.o.size (HO.o.lo b hb)⟩;refine⟨cl.take j++c :: cl.drop j,_,_,_,F,rfl,?_,?_,?_,ba⟩
 ·rw[List.length_append,List.length_take,List.length_cons,List.length_drop];omega
 ·intro x hx;rw[List.mem_append,List.mem_cons] at hx;rcases hx with h|h|h;exact .inl (List.mem_of_mem_take h);exact .inr h;exact .inl (List.mem_of_mem_drop h)
 ·exact HOW.trn (Trn.set_ (show w.heap.size+1+1 ∈ [w.heap.size+1+1] by simp) _ _) (fun b hb hm=>by simp at hm;have h1:=HO.o.lo b hb;have h2:=HR2.o.lt;omega)
theorem RowC.of_own {B:Nat} {w:World} {cl:List xU} {F:List Nat} {v:Value} (h:Own B w (T.sl 39 5 (cl.map xU.t)) F v):RowC w v cl:=by
 refine⟨T.ow_rd _ _ _ h.ow,?_⟩;have h0:=h.ow;simp only[T.ow] at h0;obtain⟨v',es,G,hv,_,_,ho,_⟩:=h0;obtain rfl:v=v':=by simpa using hv
 rw[List.length_map] at ho
 rcases ho.2 with ⟨hv2,_⟩|⟨g,cap,cur,hv2,_,hb,h1,_⟩
 ·exact .inl hv2
 ·exact .inr ⟨g,cap,hv2,(Array.getElem?_eq_some_iff.1 hb).1,h1⟩
theorem src_cell {w:World} {A:Option Addr} {n cap k:Nat} {ss:List (List Int)} {l:List Int} (h:T.rd w (T.sl 26 1 (ss.map (T.ints 2))) [.slice A n cap]) (hk:ss[k]?=some l): ∃ b off lA lc,A=some ⟨b,off,none⟩∧b<w.heap.size∧w.cell? ⟨b,off+k,none⟩=some (.slice lA l.length lc):=by
 obtain⟨A',cap',e,hl,hc,hx⟩:=T.yS h;injection e with e1 e2 e3;subst e1 e3;obtain⟨b,off,cs,rfl,hb,hcs,hcell⟩:=hx k l hk;obtain⟨v3,rfl⟩:=T.rd_one hcs;have d0:=hcell 0 v3 rfl;rw[Nat.mul_one,Nat.add_zero] at d0;obtain⟨A3,c3,rfl,l3,m3,x3⟩:=(T.xB.1 hcs).open_;exact⟨b,off,A3,c3,rfl,hb,d0⟩
def TrackX (w:World) (g:Nat) (cv:Value) (bs:List UInt8) (a c:Nat) (e:Ending) (w':World):Prop:= ∃ (cl:List xU) (A:Option Addr) (L C a2:Nat) (F:List Nat),e= .returned (.agg #[.slice A L C])∧(∀ c ∈ cl,xU.good c)∧cl.length≤4∧FM w.heap.size w' [Item.own (T.sl 39 5 (cl.map xU.t)) F (.slice A L C)]∧a2≤a+c∧Sx w w' g cv bs a2
theorem x_l00Max (x y:Int) (w:World):Calls Tryz.prog 116 #[.int .i64 x,.int .i64 y] w fun e w'=>e= .returned (.int .i64 (max x y))∧w=w':=by
 by_cases h:y<x
 ·have hm:max x y=x:=by omega
  rw[hm]
  go_enter Tryz.func116,Tryz.ntmps116
  go_wp2;go_ret
  exact⟨rfl,rfl⟩
 ·have hm:max x y=y:=by omega
  rw[hm]
  go_enter Tryz.func116,Tryz.ntmps116
  go_wp2;go_ret
  exact⟨rfl,rfl⟩
theorem x_l27DrawTrack {w:World} {g a:Nat} {cv:Value} {bs:List UInt8} {ss:List (List Int)} {sv:Value} (h:Sx w w g cv bs a) (ha:a≤1060000000) (hn:ss.length≤1000) (hl: ∀ l ∈ ss,l.length≤1000) (hr: ∀ w',Trn [g] w w'→T.rd w' (T.sl 26 1 (ss.map (T.ints 2))) [sv]):Calls Tryz.prog 78 #[.pointer (some ⟨g,0,none⟩),sv] w fun e w'=>TrackX w g cv bs a 50 e w':=by
 have HS0:=xN h;have HGL:=xN h.gin;have HM0:=xN (FM.nil w.heap.size w);have hz0:w.heap.size≤w.heap.size:=zJ;clear h;obtain⟨sA,scap,rfl,-,-,-⟩:=T.yS (hr w (Trn.refl _ _));have HR:=xN hr;have HSL:=xN hl;have hni:(ss.length:Int)≤1000:=by omega
 clear hr hl;obtain⟨HM1,HS1,hz1⟩:=(yU HM0 HS0 hz0).B 69 #[.slice none 0 0];clear HM0 HS0 hz0;obtain⟨HM2,HS2,hz2⟩:=(yU HM1 HS1 hz1).B 69 #[.slice none 0 0];clear HM1 HS1 hz1;have hzb:(w.alloc (.cells #[.slice none 0 0] 69)).heap.size=w.heap.size+1:=by simp
 rw[hzb] at HM2;clear hzb
 go_enter Tryz.func78,Tryz.ntmps78
 go_wp2_with fail
 refine(wS HS2.o zM zM).mono ?_;rintro e w1 ⟨x,a1,rfl,hx,ha1,hs⟩;obtain⟨HM3,HS3,hz3⟩:=(yU HM2 HS2 hz2).S hs;clear hs HM2 HS2 hz2;obtain⟨n,rfl⟩: ∃ q:Nat,x=(q:Int):=⟨x.toNat,by omega⟩;have hn3:n≤3:=by omega
 clear hx;replace HM3:=xN (show FM _ _ [Item.own (T.sl 39 5 (([]:List xU).map xU.t)) [] (.slice none 0 0),Item.bk (w.heap.size+1) 69 #[.slice none 0 0],Item.bk w.heap.size 69 #[.slice none 0 0]] from HM3.o.ins (it:=Item.own (T.sl 39 5 (([]:List xU).map xU.t)) [] (.slice none 0 0)) (by exact(Own.nil 0 _ _ _).ow) rfl);replace HM3:=xN (((HM3.o.F 2).F 1).F 2);obtain⟨kT,lT,fT⟩:=yL HM3 0 rfl;obtain⟨kR,lR,fR⟩:=yL HM3 2 rfl;go_wp2;clear kT lT fT kR lR fR
 go_loopw [6] (fun kk wr=> ∃ (k c:Nat) (cl:List xU) (A:Option Addr) (L C:Nat) (F:List Nat),k≤n∧kk= .int .i64 (k:Int)∧cl.length+k≤n∧(∀ c ∈ cl,xU.good c)∧c≤a1+12 * (n - k)∧Sx w wr g cv bs c∧FM w.heap.size wr [Item.bk (w.heap.size+1) 69 #[.slice A L C],Item.own (T.sl 39 5 (cl.map xU.t)) F (.slice A L C),Item.bk w.heap.size 69 #[.slice none 0 0]]∧w.heap.size≤wr.heap.size) (fun kk _=>(intOf kk).toNat)
 case atStart=>exact⟨n,a1,[],none,0,0,[],zJ,rfl,by simp,by simp,by omega,HS3.o,HM3.o,hz3⟩
 case round=>
  obtain⟨k,c,cl,A,L,C,F,hkn,rfl,hcl,hgd,hc,hs,hm,hz4⟩:=hrel;have HS4:=xN hs;have HM4:=xN hm;have HCL:=xN hcl;have HGD:=xN hgd;have hcl4:cl.length≤3:=zM;clear hs hm hcl hgd HS3 HM3 hz3;by_cases hk0:0<k
  rotate_left
  ·
   obtain rfl:k=0:=by omega
   obtain⟨kT,lT,fT⟩:=yL HM4 0 rfl;obtain⟨kR,lR,fR⟩:=yL HM4 2 rfl;go_wp2;refine bodyPost_ret (v:= .agg #[.slice A L C]) (by simp[results,Tryz.results78,go_sem,kR,fR,lR]) rfl ?_;clear kT lT fT kR lR fR;obtain⟨HM5,HS5,hz5⟩:=(yU HM4 HS4 hz4).E 2 rfl 0 (.slice A L C) #[.slice A L C] rfl;clear HM4 HS4 hz4;replace HM5:=xN (((HM5.o.F 1).X 2).X 1);exact⟨cl,A,L,C,c,F,rfl,HGD.o,by omega,HM5.o,by omega,HS5.o⟩
  have b0:decide (0<k)=true:=decide_eq_true hk0;by_cases hs0:0<ss.length
  rotate_left
  ·
   have b1:decide (0<ss.length)=false:=decide_eq_false hs0;obtain⟨kT,lT,fT⟩:=yL HM4 0 rfl;obtain⟨kR,lR,fR⟩:=yL HM4 2 rfl;go_wp2;refine bodyPost_ret (v:= .agg #[.slice A L C]) (by simp[results,Tryz.results78,go_sem,kR,fR,lR]) rfl ?_;clear kT lT fT kR lR fR;obtain⟨HM5,HS5,hz5⟩:=(yU HM4 HS4 hz4).E 2 rfl 0 (.slice A L C) #[.slice A L C] rfl;clear HM4 HS4 hz4;replace HM5:=xN (((HM5.o.F 1).X 2).X 1);exact⟨cl,A,L,C,c,F,rfl,HGD.o,by omega,HM5.o,by omega,HS5.o⟩
  have b1:decide (0<ss.length)=true:=decide_eq_true hs0;have hwk:IntKind.i64.wrap ((k:Int) - 1)=((k - 1:Nat):Int):=by rw[IntWalk.i64_in _ zM];omega
  go_wp2_with fail
  refine(wS HS4.o zM zM).mono ?_;rintro e w2 ⟨y1,a2,rfl,hy1,ha2,hs⟩;obtain⟨HM5,HS5,hz5⟩:=(yU HM4 HS4 hz4).S hs;clear hs HM4 HS4 hz4;obtain⟨j,rfl⟩: ∃ q:Nat,y1=(q:Int):=⟨y1.toNat,by omega⟩;have hj:j<ss.length:=by omega
  have hji:(j:Int)<(ss.length:Int):=by omega
  clear hy1;obtain⟨l,hlj⟩: ∃ l,ss[j]?=some l:=⟨ss[j]'hj,gE hj⟩;have hll:=HSL.o l (List.mem_of_getElem? hlj);obtain⟨sb,so,lA,lc,eA,lSb,kSb⟩:=src_cell (HR.o w2 HS5.o.trn) hlj;subst eA;have HLJ:=xN hlj;clear hlj;have hlli:(l.length:Int)≤1000:=by omega
  have hTX:w.heap.size+1<w2.heap.size:=Bk.lt (HM5.o.get 0 rfl);have hTX1: ¬ w.heap.size+1=w2.heap.size:=zM;have hTX2: ¬ w2.heap.size=w.heap.size+1:=zM;obtain⟨HM6,HS6,hz6⟩:=(yU HM5 HS5 hz5).B 39 #[.int .i64 (j:Int),.int .i64 0,.int .i64 0,.int .i64 0,.int .i64 0];clear HM5 HS5 hz5;go_wp2_with fail
  refine(wS HS6.o zM zM).mono ?_;rintro e w3 ⟨y2,a3,rfl,hy2,ha3,hs⟩;obtain⟨HM7,HS7,hz7⟩:=(yU HM6 HS6 hz6).S hs;clear hs HM6 HS6 hz6;have hz3:w2.heap.size<w3.heap.size:=Bk.lt (HM7.o.get 0 rfl);have hw3:IntKind.i64.wrap ((l.length:Int) - y2)=(l.length:Int) - y2:=IntWalk.i64_in _ zM;obtain⟨kX,lX,fX⟩:=yL HM7 0 rfl;go_wp2_with fail
  refine(x_l00Max _ _ _).mono ?_;rintro e w_ ⟨rfl,rfl⟩;obtain⟨HM8,HS8,hz8⟩:=(yU HM7 HS7 hz7).E 0 rfl 1 (.int .i64 y2) #[.int .i64 (j:Int),.int .i64 y2,.int .i64 0,.int .i64 0,.int .i64 0] rfl;clear HM7 HS7 hz7;go_wp2_with fail
  refine(wS HS8.o zM zM).mono ?_;rintro e w4 ⟨y3,a4,rfl,hy3,ha4,hs⟩;obtain⟨HM9,HS9,hz9⟩:=(yU HM8 HS8 hz8).S hs;clear hs HM8 HS8 hz8;clear kX lX fX;have hw4:IntKind.i64.wrap (1+y3)=1+y3:=IntWalk.i64_in _ zM;have hi3:I64 (1+y3):=vQ zM;obtain⟨kX,lX,fX⟩:=yL HM9 0 rfl;obtain⟨HM10,HS10,hz10⟩:=(yU HM9 HS9 hz9).E 0 rfl 2 (.int .i64 (1+y3)) #[.int .i64 (j:Int),.int .i64 y2,.int .i64 (1+y3),.int .i64 0,.int .i64 0] rfl;clear HM9 HS9 hz9;go_wp2_with fail
  refine(wS HS10.o zM zM).mono ?_;rintro e w5 ⟨y4,a5,rfl,hy4,ha5,hs⟩;obtain⟨HM11,HS11,hz11⟩:=(yU HM10 HS10 hz10).S hs;clear hs HM10 HS10 hz10;clear kX lX fX;obtain⟨kX,lX,fX⟩:=yL HM11 0 rfl;obtain⟨HM12,HS12,hz12⟩:=(yU HM11 HS11 hz11).E 0 rfl 3 (.int .i64 y4) #[.int .i64 (j:Int),.int .i64 y2,.int .i64 (1+y3),.int .i64 y4,.int .i64 0] rfl;clear HM11 HS11 hz11;have hli:=OwI.rd (show OwI 2 ((w5.setCell ⟨w2.heap.size,3,none⟩ (.int .i64 y4)).alloc (.cells #[.int .i64 1,.int .i64 1,.int .i64 2,.int .i64 (-1),.int .i64 3,.int .i64 65536] 2)) (w5.setCell ⟨w2.heap.size,3,none⟩ (.int .i64 y4)).heap.size (.slice (some ⟨(w5.setCell ⟨w2.heap.size,3,none⟩ (.int .i64 y4)).heap.size,0,none⟩) 6 6) [1,1,2,-1,3,65536] from World.ownsRow_lit (base:=(w5.setCell ⟨w2.heap.size,3,none⟩ (.int .i64 y4)).heap.size) (e:=2) (size:=1) (w5.setCell ⟨w2.heap.size,3,none⟩ (.int .i64 y4)) #[.int .i64 1,.int .i64 1,.int .i64 2,.int .i64 (-1),.int .i64 3,.int .i64 65536] 6 zJ (by decide) rfl);simp only[World.size_setCell] at hli;have HLI:=xN hli;clear hli;have hga:g<(w5.setCell ⟨w2.heap.size,3,none⟩ (.int .i64 y4)).heap.size:=zW HGL.o hz12;obtain⟨HM13,HS13,hz13⟩:=(yU HM12 HS12 hz12).A (.cells #[.int .i64 1,.int .i64 1,.int .i64 2,.int .i64 (-1),.int .i64 3,.int .i64 65536] 2);clear HM12 HS12 hz12;go_wp2_with fail
  refine(uP HS13.o zM HLI.o (by decide) (fun b e=>by injection e with e;(try simp at e);(try simp at hga);omega)).mono ?_;rintro e w6 ⟨y5,a6,rfl,hy5,ha6,hs⟩;obtain⟨HM14,HS14,hz14⟩:=(yU HM13 HS13 hz13).S hs;clear hs HM13 HS13 hz13;clear kX lX fX;clear HLI hga;have hi5:I64 y5:=vQ (by simp at hy5;omega);have hi4:I64 y4:=vQ zM;have hi2:I64 y2:=vQ zM;clear hy5 hy4 hy3 hy2 hw4 hw3;obtain⟨kX,lX,fX⟩:=yL HM14 0 rfl;obtain⟨kT,lT,fT⟩:=yL HM14 1 rfl;go_wp2_with fail
  obtain⟨HM15,HS15,hz15⟩:=(yU HM14 HS14 hz14).E 0 rfl 4 (.int .i64 y5) #[.int .i64 (j:Int),.int .i64 y2,.int .i64 (1+y3),.int .i64 y4,.int .i64 y5] rfl;clear HM14 HS14 hz14;refine(c_AddClip cl _ (⟨(j:Int),y2,1+y3,y4,y5⟩:xU) _ (RowC.of_own (HM15.o.ownAt 2 rfl)) zM).mono ?_;rintro e w7 ⟨cl',v',k7,code,F',rfl,hl7,hin7,ho7,hb7⟩;obtain⟨nA,nL,nC,rfl⟩:=T.xE ho7.ow;clear kX lX fX kT lT fT;obtain⟨HM16,HS16,hz16⟩:=yV (W:=w7) (L:= [Item.own (T.sl 39 5 (cl'.map xU.t)) F' (.slice nA nL nC),Item.bk w2.heap.size 39 #[.int .i64 (j:Int),.int .i64 y2,.int .i64 (1+y3),.int .i64 y4,.int .i64 y5],Item.bk (w.heap.size+1) 69 #[.slice A L C],Item.own (T.sl 39 5 (cl.map xU.t)) F (.slice A L C),Item.bk w.heap.size 69 #[.slice none 0 0]]) (HM15.o.add (it:=Item.own (T.sl 39 5 (cl'.map xU.t)) F' (.slice nA nL nC)) hb7 ho7.ow ho7.nodup ho7.lo hz15) (HS15.o.below hb7) (Nat.le_trans hz15 hb7.size);clear HM15 HS15 hz15;have hgd7: ∀ c ∈ cl',xU.good c:=fun c hc=>(hin7 c hc).elim (HGD.o c) (fun e=>e ▸ ⟨vQ (by dsimp only;omega),hi2,hi3,hi4,hi5⟩)
  have HG7:=xN hgd7;clear hgd7 hin7 ho7 hb7;obtain⟨kT,lT,fT⟩:=yL HM16 2 rfl;by_cases q7:code=0
  rotate_left
  ·
   have b7:(code == 0)=false:=by simpa using q7
   go_wp2;obtain⟨HM17,HS17,hz17⟩:=(yU HM16 HS16 hz16).B 69 #[.slice nA nL nC];clear HM16 HS16 hz16;replace HM17:=xN ((((((HM17.o.F 5).F 5).F 5).X 5).X 4).X 3)
   go_roundw
   case rel=>exact⟨k - 1,a6,cl,A,L,C,F,by omega,by go_num,by have:=HCL.o;omega,HGD.o,by omega,HS17.o,HM17.o,hz17⟩
   case measure=>first|(simp[intOf];done)|(simp[intOf];omega)
  have b7:(code == 0)=true:=by simpa using q7
  go_wp2;obtain⟨HM17,HS17,hz17⟩:=(yU HM16 HS16 hz16).E 2 rfl 0 (.slice nA nL nC) #[.slice nA nL nC] rfl;clear HM16 HS16 hz16;obtain⟨HM18,HS18,hz18⟩:=(yU HM17 HS17 hz17).B 69 #[.slice nA nL nC];clear HM17 HS17 hz17;replace HM18:=xN ((((((HM18.o.F 5).F 2).F 4).X 5).X 4).X 3)
  go_roundw
  case rel=>exact⟨k - 1,a6,cl',nA,nL,nC,F',by omega,by go_num,by have:=HCL.o;omega,HG7.o,by omega,HS18.o,HM18.o,hz18⟩
  case measure=>first|(simp[intOf];done)|(simp[intOf];omega)
end
end Go.Proofs.YtdcofkabaigjpaaGreat
