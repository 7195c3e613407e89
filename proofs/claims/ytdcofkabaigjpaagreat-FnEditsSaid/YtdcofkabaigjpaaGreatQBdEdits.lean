/- The session after an edit is small. Contract: the program's ApplyEdits. Contract: l31Range, reference. Contract: l31Do, reference. Contracts: the reference's copies. Contract: the reference's copy of a session. Contract: the reference's ApplyEdit. Draws: a session and edits. Draws: a session and an edit. Contracts: which nested data are the same, by the reference. -/
import Derived.Test.YtdcofkabaigjpaaGreatQAxEdits
import Derived.Test.YtdcofkabaigjpaaGreatQAzEdits
set_option linter.unusedVariables false
set_option linter.unusedSimpArgs false
set_option maxHeartbeats 4000000
set_option maxRecDepth 100000
namespace Go.Proofs.YtdcofkabaigjpaaGreat
section
open Go.RowKit
theorem turnAt_mem {α:Type} {l:List α} {k:Nat} {f:α→α} {y:α} (h:y ∈ vE l k f):y ∈ l∨ ∃ x ∈ l,y=f x:=by
 unfold vE at h
 split at h
 ·next x hx=>
  rcases List.mem_or_eq_of_mem_set h with h|h
  ·exact .inl h
  ·exact .inr ⟨x,List.mem_of_getElem? hx,h⟩
 ·exact .inl h
theorem editL_len (l:List xU) (e:wV):(vJ l e).length≤l.length+1:=by
 unfold vJ
 split
 ·simp;omega
 ·split
  ·simp;omega
  ·simp;omega
theorem doE_small {s:xO} {e:wV} (h:s.small) (hv:xW s):(doE s e).small:=by
 obtain⟨h1,h2,h3,h4,h5⟩:=h;unfold doE
 split
 ·exact⟨h1,h2,by simpa using h3,h4,h5⟩
 split
 ·refine⟨h1,h2,h3,h4,⟨by rw[vO];exact h5.1,fun y hy=>?_⟩⟩
  rcases turnAt_mem hy with hy|⟨x,hx,rfl⟩
  ·exact h5.2 y hy
  ·exact⟨(h5.2 x hx).1,by show (vE x.zT _ _).length≤_;rw[vO];exact(h5.2 x hx).2⟩
 ·refine⟨h1,⟨by rw[vO];exact h2.1,fun y hy=>?_⟩,h3,h4,h5⟩
  rcases turnAt_mem hy with hy|⟨x,hx,rfl⟩
  ·exact h2.2 y hy
  ·obtain⟨k,hk⟩:=List.mem_iff_getElem?.1 hx
   have h6:=(hv.tracks k x hk).1.few;have h7:=editL_len x.zS e
   show (vJ x.zS e).length≤1048576
   omega
end
section
open Go.RowKit
theorem applyF_small {s:xO} {e:wV} (h:s.small) (hc:(wQ s e).2=0):(wQ s e).1.small∧xW (wQ s e).1:=by
 obtain⟨h1,_,_,_,h5,h6⟩:=xIz hc;rw[h6];exact⟨doE_small h h1,h5⟩
end
section
open Go.RowKit
end
section
open Go.RowKit
end
section
open Go.RowKit
end
section
open Go.RowKit
end
section
open Go.RowKit
end
section
open Go.RowKit
theorem OkX.small {x:xO} (h:OkX x):x.small:=by
 refine⟨⟨by have:=h.src.1;omega,fun l hl=>by have:=h.src.2 l hl;omega⟩,⟨by have:=h.trk.1;omega,fun t ht=>by have:=h.trk.2 t ht;show t.zS.length≤_;omega⟩,by have:=h.fd;omega,⟨by have:=h.eff.1;omega,fun p hp=>?_⟩,⟨by have:=h.str.1;omega,fun s hs=>by have h1:=(h.str.2 s hs).2;exact⟨by omega,by omega⟩⟩⟩;have k:=h.eff.2 p hp;exact⟨⟨by have:=k.tabs.1;omega,fun l hl=>by have:=k.tabs.2 l hl;omega⟩,⟨by have:=k.nodes.1;omega,fun n hn=>by have:=k.nodes.2 n hn;show n.zO.length≤_;omega⟩,by have:=k.outs;omega⟩
theorem OkX.len {x:xO} (h:OkX x):LenX x:=
 ⟨by have:=h.src.1;omega,⟨by have:=h.trk.1;omega,fun t ht=>by have:=h.trk.2 t ht;omega⟩,by have:=h.str.1;omega,fun s hs=>by have h1:=(h.str.2 s hs).2;omega⟩
end
section
open Go.RowKit
theorem Below.setsW2 {B b:Nat} : ∀ (us:List Value) (p:Nat) (w w':World),Below B w w'→B≤b→Below B w (setsW w' b p us)
 | [],_,_,_,h,_=>h
 |u :: us,p,_,w',h,hb=>Below.setsW2 us (p+1) _ _ (h.setCell hb u) hb
def DrwE (w:World) (e:Ending) (w':World):Prop:= ∃ (x:xO) (ed:wV) (A1:Option Addr) (L1 C1:Nat) (A2:Option Addr) (L2 C2:Nat) (A3:Option Addr) (L3 C3:Nat) (A4:Option Addr) (L4 C4:Nat) (A5:Option Addr) (L5 C5:Nat) (F:List Nat),e= .returned (.tuple #[.agg #[.int .i64 x.zB,.slice A1 L1 C1,.slice A2 L2 C2,.slice A3 L3 C3,.slice A4 L4 C4,.slice A5 L5 C5],.agg #[.int .i64 ed.zD,.int .i64 ed.yD,.int .i64 ed.yG,.int .i64 ed.yF,.int .i64 ed.yC.zV,.int .i64 ed.yC.zO,.int .i64 ed.yC.zB,.int .i64 ed.yC.yE,.int .i64 ed.yC.yB]])∧OkX x∧(∀ W,(∀ b ∈ F,W.heap[b]?=w'.heap[b]?)→T.rds W x.fs [.int .i64 x.zB,.slice A1 L1 C1,.slice A2 L2 C2,.slice A3 L3 C3,.slice A4 L4 C4,.slice A5 L5 C5])∧(∀ b ∈ F,w.heap.size≤b∧b<w'.heap.size)∧Below w.heap.size w w'
theorem c_l31Draw (v:Value) (bs:List UInt8) (w0:World) (hr:RdY w0 v bs) (hbs:bs.length≤1048576):Calls Tryz.prog 31 #[v] w0 fun e w'=>DrwE w0 e w':=by
 have HLT:=hr.lt;have HR:=xN hr;obtain⟨_,A,cap,rfl,_,_,_⟩:=hr;have hsz:(((w0.alloc (.cells #[.int .i64 0,.slice none 0 0,.slice none 0 0,.slice none 0 0,.slice none 0 0,.slice none 0 0] 32)).alloc (.cells #[.int .i64 0,.int .i64 0,.int .i64 0,.int .i64 0,.int .i64 0,.int .i64 0,.int .i64 0,.int .i64 0,.int .i64 0] 41)).alloc (.cells #[.slice A bs.length cap,.int .i64 0,.int .u64 0] 88)).heap.size=w0.heap.size+3:=by simp
 have h:Sx (((w0.alloc (.cells #[.int .i64 0,.slice none 0 0,.slice none 0 0,.slice none 0 0,.slice none 0 0,.slice none 0 0] 32)).alloc (.cells #[.int .i64 0,.int .i64 0,.int .i64 0,.int .i64 0,.int .i64 0,.int .i64 0,.int .i64 0,.int .i64 0,.int .i64 0] 41)).alloc (.cells #[.slice A bs.length cap,.int .i64 0,.int .u64 0] 88)) (((w0.alloc (.cells #[.int .i64 0,.slice none 0 0,.slice none 0 0,.slice none 0 0,.slice none 0 0,.slice none 0 0] 32)).alloc (.cells #[.int .i64 0,.int .i64 0,.int .i64 0,.int .i64 0,.int .i64 0,.int .i64 0,.int .i64 0,.int .i64 0,.int .i64 0] 41)).alloc (.cells #[.slice A bs.length cap,.int .i64 0,.int .u64 0] 88)) (w0.heap.size+2) (.slice A bs.length cap) bs 0:=⟨⟨0,by decide,Bk.born2 w0 (.cells #[.int .i64 0,.slice none 0 0,.slice none 0 0,.slice none 0 0,.slice none 0 0,.slice none 0 0] 32) (.cells #[.int .i64 0,.int .i64 0,.int .i64 0,.int .i64 0,.int .i64 0,.int .i64 0,.int .i64 0,.int .i64 0,.int .i64 0] 41) _ _⟩,(Rd.alloc (Rd.alloc (Rd.alloc HR.o (.cells #[.int .i64 0,.slice none 0 0,.slice none 0 0,.slice none 0 0,.slice none 0 0,.slice none 0 0] 32)) (.cells #[.int .i64 0,.int .i64 0,.int .i64 0,.int .i64 0,.int .i64 0,.int .i64 0,.int .i64 0,.int .i64 0,.int .i64 0] 41)) (.cells #[.slice A bs.length cap,.int .i64 0,.int .u64 0] 88)),by omega,by omega,fun h0 b e=>by have:=HLT h0 b e;omega,fun h0 b e=>by have:=HLT h0 b e;omega,Trn.refl _ _⟩;have HB:=xN (show Below w0.heap.size w0 (((w0.alloc (.cells #[.int .i64 0,.slice none 0 0,.slice none 0 0,.slice none 0 0,.slice none 0 0,.slice none 0 0] 32)).alloc (.cells #[.int .i64 0,.int .i64 0,.int .i64 0,.int .i64 0,.int .i64 0,.int .i64 0,.int .i64 0,.int .i64 0,.int .i64 0] 41)).alloc (.cells #[.slice A bs.length cap,.int .i64 0,.int .u64 0] 88)) from((((Below.refl w0.heap.size w0).alloc (by simp<;>omega) (.cells #[.int .i64 0,.slice none 0 0,.slice none 0 0,.slice none 0 0,.slice none 0 0,.slice none 0 0] 32)).alloc (by simp<;>omega) (.cells #[.int .i64 0,.int .i64 0,.int .i64 0,.int .i64 0,.int .i64 0,.int .i64 0,.int .i64 0,.int .i64 0,.int .i64 0] 41)).alloc (by simp<;>omega) (.cells #[.slice A bs.length cap,.int .i64 0,.int .u64 0] 88)));have HR0:=xN (show Bk (((w0.alloc (.cells #[.int .i64 0,.slice none 0 0,.slice none 0 0,.slice none 0 0,.slice none 0 0,.slice none 0 0] 32)).alloc (.cells #[.int .i64 0,.int .i64 0,.int .i64 0,.int .i64 0,.int .i64 0,.int .i64 0,.int .i64 0,.int .i64 0,.int .i64 0] 41)).alloc (.cells #[.slice A bs.length cap,.int .i64 0,.int .u64 0] 88)) w0.heap.size 32 #[.int .i64 0,.slice none 0 0,.slice none 0 0,.slice none 0 0,.slice none 0 0,.slice none 0 0] from(((Bk.born w0 32 #[.int .i64 0,.slice none 0 0,.slice none 0 0,.slice none 0 0,.slice none 0 0,.slice none 0 0]).alloc (.cells #[.int .i64 0,.int .i64 0,.int .i64 0,.int .i64 0,.int .i64 0,.int .i64 0,.int .i64 0,.int .i64 0,.int .i64 0] 41)).alloc (.cells #[.slice A bs.length cap,.int .i64 0,.int .u64 0] 88)));have HR1:=xN (show Bk (((w0.alloc (.cells #[.int .i64 0,.slice none 0 0,.slice none 0 0,.slice none 0 0,.slice none 0 0,.slice none 0 0] 32)).alloc (.cells #[.int .i64 0,.int .i64 0,.int .i64 0,.int .i64 0,.int .i64 0,.int .i64 0,.int .i64 0,.int .i64 0,.int .i64 0] 41)).alloc (.cells #[.slice A bs.length cap,.int .i64 0,.int .u64 0] 88)) (w0.heap.size+1) 41 #[.int .i64 0,.int .i64 0,.int .i64 0,.int .i64 0,.int .i64 0,.int .i64 0,.int .i64 0,.int .i64 0,.int .i64 0] from((Bk.born1' w0 (.cells #[.int .i64 0,.slice none 0 0,.slice none 0 0,.slice none 0 0,.slice none 0 0,.slice none 0 0] 32) 41 #[.int .i64 0,.int .i64 0,.int .i64 0,.int .i64 0,.int .i64 0,.int .i64 0,.int .i64 0,.int .i64 0,.int .i64 0]).alloc (.cells #[.slice A bs.length cap,.int .i64 0,.int .u64 0] 88)))
 go_enter Tryz.func31,Tryz.ntmps31
 go_wp2_with fail
 refine(c_l00From _ _ _ _).mono ?_;rintro e w1 ⟨rfl,rfl⟩;rw[show ((w0.alloc (.cells #[.int .i64 0,.slice none 0 0,.slice none 0 0,.slice none 0 0,.slice none 0 0,.slice none 0 0] 32)).alloc (.cells #[.int .i64 0,.int .i64 0,.int .i64 0,.int .i64 0,.int .i64 0,.int .i64 0,.int .i64 0,.int .i64 0,.int .i64 0] 41)).heap.size=w0.heap.size+2 by simp];generalize (((w0.alloc (.cells #[.int .i64 0,.slice none 0 0,.slice none 0 0,.slice none 0 0,.slice none 0 0,.slice none 0 0] 32)).alloc (.cells #[.int .i64 0,.int .i64 0,.int .i64 0,.int .i64 0,.int .i64 0,.int .i64 0,.int .i64 0,.int .i64 0,.int .i64 0] 41)).alloc (.cells #[.slice A bs.length cap,.int .i64 0,.int .u64 0] 88))=w at *;generalize hgg:w0.heap.size+2=g at *;generalize (Value.slice A bs.length cap)=cv at *;have hRg:w0.heap.size<g:=by omega
 have hRw:w0.heap.size<w.heap.size:=by omega
 clear HLT HR;have HS0:=xN h;have HGL:=xN h.gin;have HM0:=xN (FM.nil w.heap.size w);have hz0:w.heap.size≤w.heap.size:=zJ;clear h;go_wp2_with fail
 refine(x_l27Bent HS0.o zM).mono ?_;rintro e w1 ⟨x,A1,L1,C1,A2,L2,C2,A3,L3,C3,A4,L4,C4,A5,L5,C5,a1,F0,rfl,hok,hfm,ha1,hs⟩;have HM1:=xN (show FM w.heap.size w1 [Item.rds x.fs F0 [.int .i64 x.zB,.slice A1 L1 C1,.slice A2 L2 C2,.slice A3 L3 C3,.slice A4 L4 C4,.slice A5 L5 C5]] from FM.glue HM0.o hs.trn HGL.o hfm hz0);have HS1:=xN (HS0.o.next hs);have hz1:w.heap.size≤w1.heap.size:=Nat.le_trans hz0 hs.size;have HOK:=xN hok;clear hs hfm hok HM0 HS0 hz0;obtain⟨HM2,HS2,hz2⟩:=(yU HM1 HS1 hz1).B 32 #[.int .i64 x.zB,.slice A1 L1 C1,.slice A2 L2 C2,.slice A3 L3 C3,.slice A4 L4 C4,.slice A5 L5 C5];clear HM1 HS1 hz1;go_wp2;have HLO:=xN (fun b (hb:b ∈ F0)=>HM2.o.lo b (List.mem_flatMap.2 ⟨Item.rds x.fs F0 [.int .i64 x.zB,.slice A1 L1 C1,.slice A2 L2 C2,.slice A3 L3 C3,.slice A4 L4 C4,.slice A5 L5 C5],by simp,hb⟩));obtain⟨HM3,HS3,hz3⟩:=(yU HM2 HS2 hz2).D;clear HS2 HM2 hz2;refine wG (fun w'=>(∀ i,w'.cell? ⟨w1.heap.size,i,none⟩= #[.int .i64 x.zB,.slice A1 L1 C1,.slice A2 L2 C2,.slice A3 L3 C3,.slice A4 L4 C4,.slice A5 L5 C5][i]?)) [3,4] (by kernel_rfl) ?_ (fun hS0=>?_)
 ·exact Bk.cell (HM3.o.get 0 rfl)
 generalize (w1.alloc (.cells #[.int .i64 x.zB,.slice A1 L1 C1,.slice A2 L2 C2,.slice A3 L3 C3,.slice A4 L4 C4,.slice A5 L5 C5] 32)).drew=we3 at *;refine zN 0 hS0 ?_;refine zN 1 hS0 ?_;refine pN 2 (fun K hK=>?_);go_simp;go_wp2_with (go_at_call 21;refine(x_l31BentEdit HS3.o.base zM (Bk.lt (HM3.o.get 0 rfl)) (by have h1:=HM3.o.lo w1.heap.size (by simp[Item.bk]);have:=HGL.o;omega) HOK.o.len (fun j u hj=>(Bk.cell (HM3.o.get 0 rfl) j).trans (by simpa using hj)) (fun w' k'=>(HM3.o.get 1 rfl).1 w' (fun b hb=>k'.block b ((HM3.o.get 1 rfl).2 b hb) (fun hm=>by have h1:=HLO.o b hb;have:=HGL.o;simp at hm;omega)))).mono ?_;rintro e w2 ⟨⟨ek,et,ec,ev,ns,nf,nl,na,ng⟩,a2,rfl,ha2,hs⟩)
 obtain⟨HM4,HS4,hz4⟩:=(yU HM3 HS3 hz3).S hs;clear hs HM3 HS3 hz3;refine uN hK ?_ (fun hS1=>?_)
 ·exact Bk.cell (HM4.o.get 0 rfl)
 clear hK K hS0;refine q2N 3 4 ?_;have BR0:=xN (Sx.bk HR0.o zM HS4.o.trn);have kR0:=BR0.o.cell;have fR0:=BR0.o.free;have lR0:=BR0.o.lt;have BR1:=xN (Sx.bk HR1.o zM HS4.o.trn);have kR1:=BR1.o.cell;have fR1:=BR1.o.free;have lR1:=BR1.o.lt;have hr1: ¬ w0.heap.size=w0.heap.size+1:=zM;have hr2: ¬ w0.heap.size+1=w0.heap.size:=zM;go_wp2;refine bodyPost_ret (v:= .tuple #[.agg #[.int .i64 x.zB,.slice A1 L1 C1,.slice A2 L2 C2,.slice A3 L3 C3,.slice A4 L4 C4,.slice A5 L5 C5],.agg #[.int .i64 ek,.int .i64 et,.int .i64 ec,.int .i64 ev,.int .i64 ns,.int .i64 nf,.int .i64 nl,.int .i64 na,.int .i64 ng]]) (by simp[results,Tryz.results31,go_sem,kR0,fR0,lR0,kR1,fR1,lR1,hr1,hr2]) rfl ?_;have hT:Trn [w0.heap.size,(w0.heap.size+1)] w2 (((((((((((((((w2.setCell ⟨w0.heap.size,0,none⟩ (.int .i64 x.zB)).setCell ⟨w0.heap.size,1,none⟩ (.slice A1 L1 C1)).setCell ⟨w0.heap.size,2,none⟩ (.slice A2 L2 C2)).setCell ⟨w0.heap.size,3,none⟩ (.slice A3 L3 C3)).setCell ⟨w0.heap.size,4,none⟩ (.slice A4 L4 C4)).setCell ⟨w0.heap.size,5,none⟩ (.slice A5 L5 C5)).setCell ⟨(w0.heap.size+1),0,none⟩ (.int .i64 ek)).setCell ⟨(w0.heap.size+1),1,none⟩ (.int .i64 et)).setCell ⟨(w0.heap.size+1),2,none⟩ (.int .i64 ec)).setCell ⟨(w0.heap.size+1),3,none⟩ (.int .i64 ev)).setCell ⟨(w0.heap.size+1),4,none⟩ (.int .i64 ns)).setCell ⟨(w0.heap.size+1),5,none⟩ (.int .i64 nf)).setCell ⟨(w0.heap.size+1),6,none⟩ (.int .i64 nl)).setCell ⟨(w0.heap.size+1),7,none⟩ (.int .i64 na)).setCell ⟨(w0.heap.size+1),8,none⟩ (.int .i64 ng)):=(Trn.sets (by simp) [.int .i64 x.zB,.slice A1 L1 C1,.slice A2 L2 C2,.slice A3 L3 C3,.slice A4 L4 C4,.slice A5 L5 C5] w2 0).trans (Trn.sets (by simp) [.int .i64 ek,.int .i64 et,.int .i64 ec,.int .i64 ev,.int .i64 ns,.int .i64 nf,.int .i64 nl,.int .i64 na,.int .i64 ng] ((((((w2.setCell ⟨w0.heap.size,0,none⟩ (.int .i64 x.zB)).setCell ⟨w0.heap.size,1,none⟩ (.slice A1 L1 C1)).setCell ⟨w0.heap.size,2,none⟩ (.slice A2 L2 C2)).setCell ⟨w0.heap.size,3,none⟩ (.slice A3 L3 C3)).setCell ⟨w0.heap.size,4,none⟩ (.slice A4 L4 C4)).setCell ⟨w0.heap.size,5,none⟩ (.slice A5 L5 C5)) 0);have hrw: ∀ b ∈ F0,w.heap.size≤b∧b<w2.heap.size:=fun b hb=>⟨HLO.o b hb,(HM4.o.get 1 rfl).2 b hb⟩;have hrd: ∀ W,(∀ b ∈ F0,W.heap[b]?=w2.heap[b]?)→T.rds W x.fs [.int .i64 x.zB,.slice A1 L1 C1,.slice A2 L2 C2,.slice A3 L3 C3,.slice A4 L4 C4,.slice A5 L5 C5]:=(HM4.o.get 1 rfl).1
 exact⟨x,⟨ek,et,ec,ev,⟨ns,nf,nl,na,ng⟩⟩,A1,L1,C1,A2,L2,C2,A3,L3,C3,A4,L4,C4,A5,L5,C5,F0,rfl,HOK.o,fun W hW=>hrd W (fun b hb=>(hW b hb).trans (hT.block b (hrw b hb).2 (fun hm=>by have h1:=(hrw b hb).1;simp at hm;omega))),fun b hb=>⟨by have h1:=(hrw b hb).1;omega,zW (hrw b hb).2 hT.size⟩,Below.setsW2 [.int .i64 ek,.int .i64 et,.int .i64 ec,.int .i64 ev,.int .i64 ns,.int .i64 nf,.int .i64 nl,.int .i64 na,.int .i64 ng] 0 _ _ (Below.setsW2 [.int .i64 x.zB,.slice A1 L1 C1,.slice A2 L2 C2,.slice A3 L3 C3,.slice A4 L4 C4,.slice A5 L5 C5] 0 _ _ (Trn.below HB.o HS4.o.trn (by simp;omega) zM) zJ) zM⟩
theorem xEy (v:Value) (bs:List UInt8) (w0:World) (hr:RdY w0 v bs) (hbs:bs.length≤1048576):Calls Tryz.prog 11 #[v] w0 fun e w'=>DrwE w0 e w':=by
 have HR:=xN (Rd.alloc (Rd.alloc hr (.cells #[.int .i64 0,.slice none 0 0,.slice none 0 0,.slice none 0 0,.slice none 0 0,.slice none 0 0] 32)) (.cells #[.int .i64 0,.int .i64 0,.int .i64 0,.int .i64 0,.int .i64 0,.int .i64 0,.int .i64 0,.int .i64 0,.int .i64 0] 41));have HB:=xN (show Below w0.heap.size w0 ((w0.alloc (.cells #[.int .i64 0,.slice none 0 0,.slice none 0 0,.slice none 0 0,.slice none 0 0,.slice none 0 0] 32)).alloc (.cells #[.int .i64 0,.int .i64 0,.int .i64 0,.int .i64 0,.int .i64 0,.int .i64 0,.int .i64 0,.int .i64 0,.int .i64 0] 41)) from(zR.alloc zJ _).alloc (by simp) _);have BR0:=xN (show Bk ((w0.alloc (.cells #[.int .i64 0,.slice none 0 0,.slice none 0 0,.slice none 0 0,.slice none 0 0,.slice none 0 0] 32)).alloc (.cells #[.int .i64 0,.int .i64 0,.int .i64 0,.int .i64 0,.int .i64 0,.int .i64 0,.int .i64 0,.int .i64 0,.int .i64 0] 41)) w0.heap.size 32 #[.int .i64 0,.slice none 0 0,.slice none 0 0,.slice none 0 0,.slice none 0 0,.slice none 0 0] from(Bk.born w0 32 #[.int .i64 0,.slice none 0 0,.slice none 0 0,.slice none 0 0,.slice none 0 0,.slice none 0 0]).alloc (.cells #[.int .i64 0,.int .i64 0,.int .i64 0,.int .i64 0,.int .i64 0,.int .i64 0,.int .i64 0,.int .i64 0,.int .i64 0] 41));have BR1:=xN (Bk.born1' w0 (.cells #[.int .i64 0,.slice none 0 0,.slice none 0 0,.slice none 0 0,.slice none 0 0,.slice none 0 0] 32) 41 #[.int .i64 0,.int .i64 0,.int .i64 0,.int .i64 0,.int .i64 0,.int .i64 0,.int .i64 0,.int .i64 0,.int .i64 0]);clear hr
 go_enter Tryz.func11,Tryz.ntmps11
 go_wp2_with fail
 refine(c_l31Draw _ bs _ HR.o hbs).mono ?_;rintro e w2 ⟨x,⟨ek,et,ec,ev,ns,nf,nl,na,ng⟩,A1,L1,C1,A2,L2,C2,A3,L3,C3,A4,L4,C4,A5,L5,C5,F0,rfl,hok,hrd,hlo,hb⟩;have HB2:=xN (yO HB.o HB.o.size hb);have BR0:=xN (BR0.o.below hb BR0.o.lt);have BR1:=xN (BR1.o.below hb BR1.o.lt);have HRD:=xN hrd;have HLO:=xN hlo;have HOK:=xN hok;clear hrd hlo hok;have kR0:=BR0.o.cell;have fR0:=BR0.o.free;have lR0:=BR0.o.lt;have kR1:=BR1.o.cell;have fR1:=BR1.o.free;have lR1:=BR1.o.lt;have hr1: ¬ w0.heap.size=w0.heap.size+1:=zM;have hr2: ¬ w0.heap.size+1=w0.heap.size:=zM;clear hb;go_wp2;refine bodyPost_ret (v:= .tuple #[.agg #[.int .i64 x.zB,.slice A1 L1 C1,.slice A2 L2 C2,.slice A3 L3 C3,.slice A4 L4 C4,.slice A5 L5 C5],.agg #[.int .i64 ek,.int .i64 et,.int .i64 ec,.int .i64 ev,.int .i64 ns,.int .i64 nf,.int .i64 nl,.int .i64 na,.int .i64 ng]]) (by simp[results,Tryz.results11,go_sem,kR0,fR0,lR0,kR1,fR1,lR1,hr1,hr2]) rfl ?_;have hT:Trn [w0.heap.size,(w0.heap.size+1)] w2 (((((((((((((((w2.setCell ⟨w0.heap.size,0,none⟩ (.int .i64 x.zB)).setCell ⟨w0.heap.size,1,none⟩ (.slice A1 L1 C1)).setCell ⟨w0.heap.size,2,none⟩ (.slice A2 L2 C2)).setCell ⟨w0.heap.size,3,none⟩ (.slice A3 L3 C3)).setCell ⟨w0.heap.size,4,none⟩ (.slice A4 L4 C4)).setCell ⟨w0.heap.size,5,none⟩ (.slice A5 L5 C5)).setCell ⟨(w0.heap.size+1),0,none⟩ (.int .i64 ek)).setCell ⟨(w0.heap.size+1),1,none⟩ (.int .i64 et)).setCell ⟨(w0.heap.size+1),2,none⟩ (.int .i64 ec)).setCell ⟨(w0.heap.size+1),3,none⟩ (.int .i64 ev)).setCell ⟨(w0.heap.size+1),4,none⟩ (.int .i64 ns)).setCell ⟨(w0.heap.size+1),5,none⟩ (.int .i64 nf)).setCell ⟨(w0.heap.size+1),6,none⟩ (.int .i64 nl)).setCell ⟨(w0.heap.size+1),7,none⟩ (.int .i64 na)).setCell ⟨(w0.heap.size+1),8,none⟩ (.int .i64 ng)):=(Trn.sets (by simp) [.int .i64 x.zB,.slice A1 L1 C1,.slice A2 L2 C2,.slice A3 L3 C3,.slice A4 L4 C4,.slice A5 L5 C5] w2 0).trans (Trn.sets (by simp) [.int .i64 ek,.int .i64 et,.int .i64 ec,.int .i64 ev,.int .i64 ns,.int .i64 nf,.int .i64 nl,.int .i64 na,.int .i64 ng] ((((((w2.setCell ⟨w0.heap.size,0,none⟩ (.int .i64 x.zB)).setCell ⟨w0.heap.size,1,none⟩ (.slice A1 L1 C1)).setCell ⟨w0.heap.size,2,none⟩ (.slice A2 L2 C2)).setCell ⟨w0.heap.size,3,none⟩ (.slice A3 L3 C3)).setCell ⟨w0.heap.size,4,none⟩ (.slice A4 L4 C4)).setCell ⟨w0.heap.size,5,none⟩ (.slice A5 L5 C5)) 0);have hrw: ∀ b ∈ F0,w0.heap.size+2≤b∧b<w2.heap.size:=fun b hb=>(by have h1:=HLO.o b hb;simp at h1;omega)
 have hrd:=HRD.o;exact⟨x,⟨ek,et,ec,ev,⟨ns,nf,nl,na,ng⟩⟩,A1,L1,C1,A2,L2,C2,A3,L3,C3,A4,L4,C4,A5,L5,C5,F0,rfl,HOK.o,fun W hW=>hrd W (fun b hb=>(hW b hb).trans (hT.block b (hrw b hb).2 (fun hm=>by have h1:=(hrw b hb).1;simp at hm;omega))),fun b hb=>⟨by have h1:=(hrw b hb).1;omega,zW (hrw b hb).2 hT.size⟩,Below.setsW2 [.int .i64 ek,.int .i64 et,.int .i64 ec,.int .i64 ev,.int .i64 ns,.int .i64 nf,.int .i64 nl,.int .i64 na,.int .i64 ng] 0 _ _ (Below.setsW2 [.int .i64 x.zB,.slice A1 L1 C1,.slice A2 L2 C2,.slice A3 L3 C3,.slice A4 L4 C4,.slice A5 L5 C5] 0 _ _ HB2.o zJ) zM⟩
end
section
open Go.RowKit
theorem yEy (a b:xR) (b1 o1 b2 o2:Nat) (v3 u3:Value) (w:World) (hb1:b1<w.heap.size) (hb2:b2<w.heap.size)
  (d0:w.cell? ⟨b1,o1,none⟩=some (.int .i64 a.zD)) (d1:w.cell? ⟨b1,o1+1,none⟩=some (.int .i64 a.fA)) (d2:w.cell? ⟨b1,o1+2,none⟩=some (.int .i64 a.fB)) (d3:w.cell? ⟨b1,o1+3,none⟩=some v3)
  (g0:w.cell? ⟨b2,o2,none⟩=some (.int .i64 b.zD)) (g1:w.cell? ⟨b2,o2+1,none⟩=some (.int .i64 b.fA)) (g2:w.cell? ⟨b2,o2+2,none⟩=some (.int .i64 b.fB)) (g3:w.cell? ⟨b2,o2+3,none⟩=some u3)
  (r3:T.rd w (T.ints 2 a.zO) [v3]) (t3:T.rd w (T.ints 2 b.zO) [u3]):
  Calls Tryz.prog 63 #[.pointer (some ⟨b1,o1,none⟩),.pointer (some ⟨b2,o2,none⟩)] w fun e w'=>e= .returned (.bool (decide (a=b)))∧Dr w w':=by
 have hab:decide (a=b)=(decide (a.zD=b.zD) && (decide (a.fA=b.fA) && (decide (a.fB=b.fB) && decide (a.zO=b.zO)))):=by
  obtain⟨x0,x1,x2,x3⟩:=a;obtain⟨y0,y1,y2,y3⟩:=b;rw[Bool.eq_iff_iff];simp only[xR.mk.injEq,decide_eq_true_eq,Bool.and_eq_true]
 have HAB:=xN hab;clear hab;have R3:=xN (T.xB.1 r3);have Q3:=xN (T.xB.1 t3);clear r3 t3;by_cases h0:a.zD=b.zD
 ·have e0:(a.zD == b.zD)=true:=by simp[h0]
  have H0:=xN h0;clear h0;by_cases h1:a.fA=b.fA
  ·have e1:(a.fA == b.fA)=true:=by simp[h1]
   have H1:=xN h1;clear h1;by_cases h2:a.fB=b.fB
   ·have e2:(a.fB == b.fB)=true:=by simp[h2]
    have H2:=xN h2;clear h2
    go_enter Tryz.func63,Tryz.ntmps63
    go_wp2
    go_quiet ((go_at_call 27;exact Calls.quiet_of ((zXz _ _ a.zO b.zO _ (Rd.drewN R3.o _) (Rd.drewN Q3.o _)).mono (fun e w' h=>h))))
    go_wp2;go_ret
    exact⟨yN (by rw[HAB.o];simp[H0.o,H1.o,H2.o]),dz⟩
   ·have e2:(a.fB == b.fB)=false:=by simp[h2]
    have H2:=xN h2;clear h2
    go_enter Tryz.func63,Tryz.ntmps63
    go_wp2
    go_quiet (fail)
    go_wp2;go_ret
    exact⟨yN (by rw[HAB.o];simp[H0.o,H1.o,H2.o]),dz⟩
  ·have e1:(a.fA == b.fA)=false:=by simp[h1]
   have H1:=xN h1;clear h1
   go_enter Tryz.func63,Tryz.ntmps63
   go_wp2
   go_quiet (fail)
   go_wp2;go_ret
   exact⟨yN (by rw[HAB.o];simp[H0.o,H1.o]),dz⟩
 ·have e0:(a.zD == b.zD)=false:=by simp[h0]
  have H0:=xN h0;clear h0
  go_enter Tryz.func63,Tryz.ntmps63
  go_wp2
  go_quiet (fail)
  go_wp2;go_ret
  exact⟨yN (by rw[HAB.o];simp[H0.o]),dz⟩
theorem yYy (a b:xQ) (v1:Value) (v2:Value) (v3:Value) (u1:Value) (u2:Value) (u3:Value) (w:World) (r1:T.rd w (T.sl 26 1 (a.zY.map (T.ints 2))) [v1]) (r2:T.rd w (T.sl 120 4 (a.zF.map xR.t)) [v2]) (r3:T.rd w (T.ints 2 a.zX) [v3]) (t1:T.rd w (T.sl 26 1 (b.zY.map (T.ints 2))) [u1]) (t2:T.rd w (T.sl 120 4 (b.zF.map xR.t)) [u2]) (t3:T.rd w (T.ints 2 b.zX) [u3]):
  Calls Tryz.prog 30 #[.agg #[.int .i64 a.zU,v1,v2,v3],.agg #[.int .i64 b.zU,u1,u2,u3]] w fun e w'=>e= .returned (.bool (decide (a=b)))∧Below w.heap.size w w':=by
 have hab:decide (a=b)=(decide (a.zU=b.zU) && (decide (a.zY=b.zY) && (decide (a.zF=b.zF) && (decide (a.zX=b.zX))))):=by
  obtain⟨x0,x1,x2,x3⟩:=a;obtain⟨y0,y1,y2,y3⟩:=b;rw[Bool.eq_iff_iff];simp only[xQ.mk.injEq,decide_eq_true_eq,Bool.and_eq_true]
  try (constructor<;>(intro h;simp[h]))
 have R1:=xN r1;have Q1:=xN t1;have R2:=xN r2;have Q2:=xN t2;have R3:=xN r3;have Q3:=xN t3;obtain⟨va1,vc1,rfl,hla1,hca1,hxa1⟩:=T.yT r1;obtain⟨ua1,uc1,rfl,hlb1,hcb1,hxb1⟩:=T.yT t1;rw[List.length_map] at hla1 hlb1 R1 Q1 ⊢;rw[List.length_map];have HXA1:=xN hxa1;have HXB1:=xN hxb1;clear hxa1 hxb1;obtain⟨va2,vc2,rfl,hla2,hca2,hxa2⟩:=T.yT r2;obtain⟨ua2,uc2,rfl,hlb2,hcb2,hxb2⟩:=T.yT t2;rw[List.length_map] at hla2 hlb2 R2 Q2 ⊢;rw[List.length_map];have HXA2:=xN hxa2;have HXB2:=xN hxb2;clear hxa2 hxb2;obtain⟨va3,vl3,vc3,rfl⟩:=T.xD r3;obtain⟨ua3,ul3,uc3,rfl⟩:=T.xD t3;clear r1 t1 r2 t2 r3 t3;have HAB:=xN hab;clear hab;have HB0:=xN (show Below w.heap.size w ((w.alloc (.cells #[.int .i64 a.zU,(.slice va1 a.zY.length vc1),(.slice va2 a.zF.length vc2),(.slice va3 vl3 vc3)] 81)).alloc (.cells #[.int .i64 b.zU,(.slice ua1 b.zY.length uc1),(.slice ua2 b.zF.length uc2),(.slice ua3 ul3 uc3)] 81)) from(zR.alloc zJ _).alloc zQ _);have HKA0:=xN ((Bk.born w 81 #[.int .i64 a.zU,(.slice va1 a.zY.length vc1),(.slice va2 a.zF.length vc2),(.slice va3 vl3 vc3)]).alloc (.cells #[.int .i64 b.zU,(.slice ua1 b.zY.length uc1),(.slice ua2 b.zF.length uc2),(.slice ua3 ul3 uc3)] 81));have HKB0:=xN (Bk.born1' w (.cells #[.int .i64 a.zU,(.slice va1 a.zY.length vc1),(.slice va2 a.zF.length vc2),(.slice va3 vl3 vc3)] 81) 81 #[.int .i64 b.zU,(.slice ua1 b.zY.length uc1),(.slice ua2 b.zF.length uc2),(.slice ua3 ul3 uc3)]);by_cases h0:a.zU=b.zU
 ·have e0:(a.zU != b.zU)=false:=by simp[h0]
  have H0:=xN h0;clear h0;by_cases h1:a.zY.length=b.zY.length
  ·have e1:((a.zY.length:Int) != (b.zY.length:Int))=false:=by simp;omega
   have HL1:=xN h1;clear h1;by_cases h2:a.zF.length=b.zF.length
   ·have e2:((a.zF.length:Int) != (b.zF.length:Int))=false:=by simp;omega
    have HL2:=xN h2;clear h2;by_cases h3:a.zX=b.zX
    ·have c3:decide (a.zX=b.zX)=true:=by simp[h3]
     have H3:=xN h3;clear h3
     go_enter Tryz.func30,Tryz.ntmps30
     go_wp2_with fail
     refine(zXz _ _ a.zX b.zX _ (T.xB.1 (T.yJ R3.o HB0.o)) (T.xB.1 (T.yJ Q3.o HB0.o))).mono ?_;rintro e w1 ⟨rfl,hd⟩;rw[c3];have hb:Below ((w.alloc (.cells #[.int .i64 a.zU,(.slice va1 a.zY.length vc1),(.slice va2 a.zF.length vc2),(.slice va3 vl3 vc3)] 81)).alloc (.cells #[.int .i64 b.zU,(.slice ua1 b.zY.length uc1),(.slice ua2 b.zF.length uc2),(.slice ua3 ul3 uc3)] 81)).heap.size ((w.alloc (.cells #[.int .i64 a.zU,(.slice va1 a.zY.length vc1),(.slice va2 a.zF.length vc2),(.slice va3 vl3 vc3)] 81)).alloc (.cells #[.int .i64 b.zU,(.slice ua1 b.zY.length uc1),(.slice ua2 b.zF.length uc2),(.slice ua3 ul3 uc3)] 81)) w1:=by first|exact hd.to_below _|exact hd
     have HKA1:=xN (HKA0.o.below hb HKA0.o.lt);have HKB1:=xN (HKB0.o.below hb HKB0.o.lt);have HB1:=xN (yO HB0.o HB0.o.size hb);clear hb hd;have ka1:=HKA1.o.cell;have kb1:=HKB1.o.cell;go_wp2
     go_loopw [5] (fun i wr=> ∃ k:Nat,k≤a.zY.length∧i= .int .i64 k∧a.zY.take k=b.zY.take k∧Below w1.heap.size w1 wr) (fun i _=>a.zY.length - (intOf i).toNat)
     case atStart=>exact⟨0,Nat.zero_le _,rfl,rfl,zR⟩
     case round=>
      obtain⟨k,hk,rfl,hs,hbw⟩:=hrel;have HS:=xN hs;have HW:=xN hbw;clear hs hbw;have HB:=xN (yO HB1.o HB1.o.size HW.o);have HKA:=xN (HKA1.o.below HW.o HKA1.o.lt);have HKB:=xN (HKB1.o.below HW.o HKB1.o.lt);have ka:=HKA.o.cell;have kb:=HKB.o.cell;have la:w.heap.size<wr.heap.size:=HKA.o.lt;have lb:w.heap.size+1<wr.heap.size:=HKB.o.lt;by_cases hlt:k<a.zY.length
      ·have hlt2:k<b.zY.length:=by have:=HL1.o;omega
       obtain⟨b1,o1,cs1,hA1,hbw1,hcs1,hcell1⟩:=HXA1.o k (T.ints 2 a.zY[k]) (by rw[List.getElem?_map,gE hlt];rfl);obtain⟨b2,o2,cs2,hA2,hbw2,hcs2,hcell2⟩:=HXB1.o k (T.ints 2 b.zY[k]) (by rw[List.getElem?_map,gE hlt2];rfl);subst hA1 hA2;have hg1:=gE hlt;have hg2:=gE hlt2;generalize a.zY[k]=x at *;generalize b.zY[k]=y at *;have HG1:=xN hg1;have HG2:=xN hg2;clear hg1 hg2;obtain⟨v1,rfl⟩:=T.rd_one hcs1;have d1:=(HB.o.cell hbw1).trans (hcell1 0 v1 rfl);rw[Nat.mul_one,Nat.add_zero] at d1;have R1:=xN (T.xB.1 (T.yJ hcs1 HB.o));obtain⟨v2,rfl⟩:=T.rd_one hcs2;have d2:=(HB.o.cell hbw2).trans (hcell2 0 v2 rfl);rw[Nat.mul_one,Nat.add_zero] at d2;have R2:=xN (T.xB.1 (T.yJ hcs2 HB.o));clear hcs1 hcs2 hcell1 hcell2;have hW:=HW.o;have hB:=HB.o;by_cases he:x=y
       ·have hde:decide (x=y)=true:=decide_eq_true he
        have HE:=xN he;clear he;go_wp2
        go_quiet ((go_at_call 27;exact Calls.quiet_of ((zXz _ _ x y _ (Rd.drewN R1.o _) (Rd.drewN R2.o _)).mono (fun e w' h=>by rw[hde] at h;exact h))))
        go_wp2
        go_roundw
        case rel=>exact⟨k+1,by omega,by go_num,uW HS.o HG1.o (by rw[HE.o];exact HG2.o),ba⟩
        case measure=>simp[intOf];omega
       ·have hde:decide (x=y)=false:=decide_eq_false he
        have HE:=xN he;clear he;go_wp2
        go_quiet ((go_at_call 27;exact Calls.quiet_of ((zXz _ _ x y _ (Rd.drewN R1.o _) (Rd.drewN R2.o _)).mono (fun e w' h=>by rw[hde] at h;exact h))))
        go_wp2;go_ret
        have hne:=uQz HG1.o HG2.o HE.o;exact⟨yN (by rw[HAB.o];simp[H0.o,H3.o,hne]),ba⟩
      ·have hall:=uK (k:=k) zM HL1.o HS.o
       have HALL1:=xN hall;clear hall;have HKAz1:=HKA;have HKBz1:=HKB;have HBz1:=HB;generalize wr=wz1 at *;go_wp2
       go_loopw [6] (fun i wr=> ∃ k:Nat,k≤a.zF.length∧i= .int .i64 k∧a.zF.take k=b.zF.take k∧Below wz1.heap.size wz1 wr) (fun i _=>a.zF.length - (intOf i).toNat)
       case atStart=>exact⟨0,Nat.zero_le _,rfl,rfl,zR⟩
       case round=>
        obtain⟨k,hk,rfl,hs,hbw⟩:=hrel;have HS:=xN hs;have HW:=xN hbw;clear hs hbw;have HB:=xN (yO HBz1.o HBz1.o.size HW.o);have HKA:=xN (HKAz1.o.below HW.o HKAz1.o.lt);have HKB:=xN (HKBz1.o.below HW.o HKBz1.o.lt);have ka:=HKA.o.cell;have kb:=HKB.o.cell;have la:w.heap.size<wr.heap.size:=HKA.o.lt;have lb:w.heap.size+1<wr.heap.size:=HKB.o.lt;by_cases hlt:k<a.zF.length
        ·have hlt2:k<b.zF.length:=by have:=HL2.o;omega
         obtain⟨b1,o1,cs1,hA1,hbw1,hcs1,hcell1⟩:=HXA2.o k (xR.t a.zF[k]) (by rw[List.getElem?_map,gE hlt];rfl);obtain⟨b2,o2,cs2,hA2,hbw2,hcs2,hcell2⟩:=HXB2.o k (xR.t b.zF[k]) (by rw[List.getElem?_map,gE hlt2];rfl);subst hA1 hA2;have hg1:=gE hlt;have hg2:=gE hlt2;generalize a.zF[k]=x at *;generalize b.zF[k]=y at *;have HG1:=xN hg1;have HG2:=xN hg2;clear hg1 hg2;obtain⟨p3,rfl,hR13⟩:=xR.yT (show T.rds _ _ _ by simpa only[xR.t,T.rd] using hcs1);obtain⟨d10,d11,d12,d13⟩:=oc4 HB.o hbw1 hcell1;have R13:=xN (T.yJ hR13 HB.o);clear hR13;clear hcs1 hcell1;have hq1:b1<wr.heap.size:=zW hbw1 HB.o.size;obtain⟨pa3,pl3,pc3,rfl⟩:=T.xD R13.o;obtain⟨q3,rfl,hR23⟩:=xR.yT (show T.rds _ _ _ by simpa only[xR.t,T.rd] using hcs2);obtain⟨d20,d21,d22,d23⟩:=oc4 HB.o hbw2 hcell2;have R23:=xN (T.yJ hR23 HB.o);clear hR23;clear hcs2 hcell2;have hq2:b2<wr.heap.size:=zW hbw2 HB.o.size;obtain⟨qa3,ql3,qc3,rfl⟩:=T.xD R23.o;have hW:=HW.o;have hB:=HB.o;by_cases he:x=y
         ·have hde:decide (x=y)=true:=decide_eq_true he
          have HE:=xN he;clear he;go_wp2
          go_quiet ((go_at_call 63;exact Calls.quiet_of ((yEy x y b1 (o1+k * 4) b2 (o2+k * 4) _ _ _ (by exact hq1) (by exact hq2) (by exact d10) (by exact d11) (by exact d12) (by exact d13) (by exact d20) (by exact d21) (by exact d22) (by exact d23) (T.yJ R13.o bz) (T.yJ R23.o bz)).mono (fun e w' h=>by rw[hde] at h;exact h))))
          go_wp2
          go_roundw
          case rel=>exact⟨k+1,by omega,by go_num,uW HS.o HG1.o (by rw[HE.o];exact HG2.o),ba⟩
          case measure=>simp[intOf];omega
         ·have hde:decide (x=y)=false:=decide_eq_false he
          have HE:=xN he;clear he;go_wp2
          go_quiet ((go_at_call 63;exact Calls.quiet_of ((yEy x y b1 (o1+k * 4) b2 (o2+k * 4) _ _ _ (by exact hq1) (by exact hq2) (by exact d10) (by exact d11) (by exact d12) (by exact d13) (by exact d20) (by exact d21) (by exact d22) (by exact d23) (T.yJ R13.o bz) (T.yJ R23.o bz)).mono (fun e w' h=>by rw[hde] at h;exact h))))
          go_wp2;go_ret
          have hne:=uQz HG1.o HG2.o HE.o;exact⟨yN (by rw[HAB.o];simp[H0.o,H3.o,HALL1.o,hne]),ba⟩
        ·have hall:=uK (k:=k) zM HL2.o HS.o
         have HALL2:=xN hall;clear hall;go_wp2;go_ret
         exact⟨yN (by rw[HAB.o];simp[H0.o,H3.o,HALL1.o,HALL2.o]),HB.o⟩
    ·have c3:decide (a.zX=b.zX)=false:=by simp[h3]
     have H3:=xN h3;clear h3
     go_enter Tryz.func30,Tryz.ntmps30
     go_wp2_with fail
     refine(zXz _ _ a.zX b.zX _ (T.xB.1 (T.yJ R3.o HB0.o)) (T.xB.1 (T.yJ Q3.o HB0.o))).mono ?_;rintro e w1 ⟨rfl,hd⟩;rw[c3];have hb:Below ((w.alloc (.cells #[.int .i64 a.zU,(.slice va1 a.zY.length vc1),(.slice va2 a.zF.length vc2),(.slice va3 vl3 vc3)] 81)).alloc (.cells #[.int .i64 b.zU,(.slice ua1 b.zY.length uc1),(.slice ua2 b.zF.length uc2),(.slice ua3 ul3 uc3)] 81)).heap.size ((w.alloc (.cells #[.int .i64 a.zU,(.slice va1 a.zY.length vc1),(.slice va2 a.zF.length vc2),(.slice va3 vl3 vc3)] 81)).alloc (.cells #[.int .i64 b.zU,(.slice ua1 b.zY.length uc1),(.slice ua2 b.zF.length uc2),(.slice ua3 ul3 uc3)] 81)) w1:=by first|exact hd.to_below _|exact hd
     have HKA1:=xN (HKA0.o.below hb HKA0.o.lt);have HKB1:=xN (HKB0.o.below hb HKB0.o.lt);have HB1:=xN (yO HB0.o HB0.o.size hb);clear hb hd;have ka1:=HKA1.o.cell;have kb1:=HKB1.o.cell;go_wp2;go_ret
     exact⟨yN (by rw[HAB.o];simp[H0.o,H3.o]),HB1.o⟩
   ·have e2:((a.zF.length:Int) != (b.zF.length:Int))=true:=by simp;omega
    have H2:=xN (show ¬ a.zF=b.zF from fun e=>h2 (by rw[e]));clear h2
    go_enter Tryz.func30,Tryz.ntmps30
    go_wp2;go_ret
    exact⟨yN (by rw[HAB.o];simp[H0.o,H2.o]),HB0.o⟩
  ·have e1:((a.zY.length:Int) != (b.zY.length:Int))=true:=by simp;omega
   have H1:=xN (show ¬ a.zY=b.zY from fun e=>h1 (by rw[e]));clear h1
   go_enter Tryz.func30,Tryz.ntmps30
   go_wp2;go_ret
   exact⟨yN (by rw[HAB.o];simp[H0.o,H1.o]),HB0.o⟩
 ·have e0:(a.zU != b.zU)=true:=by simp[h0]
  have H0:=xN h0;clear h0
  go_enter Tryz.func30,Tryz.ntmps30
  go_wp2;go_ret
  exact⟨yN (by rw[HAB.o];simp[H0.o]),HB0.o⟩
end
end Go.Proofs.YtdcofkabaigjpaaGreat
