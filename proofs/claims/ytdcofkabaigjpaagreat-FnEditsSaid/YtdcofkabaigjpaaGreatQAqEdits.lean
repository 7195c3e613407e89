/- Draws: a node that is seldom not valid. Memory of data that are being made: an element of a list is put into its place; the parts of a struct become one item. No program is named here. -/
import Derived.Test.YtdcofkabaigjpaaGreatQApEdits
set_option linter.unusedVariables false
set_option linter.unusedSimpArgs false
set_option maxHeartbeats 4000000
set_option maxRecDepth 100000
namespace Go.Proofs.YtdcofkabaigjpaaGreat
section
open Go.RowKit
theorem FM.addI {B g:Nat} {w w':World} {L:List Item} {v:Value} {xs:List Int} (h:FM B w L) (k:Trn [g] w w') (hg:g<B) (ho:OwI 2 w' w.heap.size v xs) (hB:B≤w.heap.size):FM B w' (Item.ints 2 v xs :: L):=
 FM.addD (it:=Item.ints 2 v xs) h k hg (ho.more (Nat.zero_le _)) (by show v.ownBlock.toList.Nodup;cases v.ownBlock<;>simp) (fun x hx=>(ho.lt x (by simpa[Item.ints] using hx)).1) hB
theorem vQ {x:Int} (h: -9223372036854775808≤x∧x≤9223372036854775807):I64 x:=h
def NodeX (w:World) (g:Nat) (cv:Value) (bs:List UInt8) (a:Nat) (e:Ending) (w':World):Prop:= ∃ (x:xR) (sA:Option Addr) (sC a2:Nat),e= .returned (.agg #[.int .i64 x.zD,.int .i64 x.fA,.int .i64 x.fB,.slice sA x.zO.length sC])∧FM w.heap.size w' [Item.ints 2 (.slice sA x.zO.length sC) x.zO]∧x.good∧x.zO.length≤4∧a2≤a+40∧Sx w w' g cv bs a2
theorem x_l06Bent {w:World} {g a:Nat} {cv:Value} {bs:List UInt8} (h:Sx w w g cv bs a) (ha:a≤1060000000):Calls Tryz.prog 81 #[.pointer (some ⟨g,0,none⟩),.int .i64 1] w fun e w'=>NodeX w g cv bs a e w':=by
 have HS0:=xN h;have HGL:=xN h.gin;have HM0:=xN (FM.nil w.heap.size w);have hz0:w.heap.size≤w.heap.size:=zJ;clear h;obtain⟨HM1,HS1,hz1⟩:=(yU HM0 HS0 hz0).B 120 #[.int .i64 0,.int .i64 0,.int .i64 0,.slice none 0 0];clear HM0 HS0 hz0
 go_enter Tryz.func81,Tryz.ntmps81
 go_wp2_with fail
 refine(wS HS1.o zM zM).mono ?_;rintro e w1 ⟨x,a1,rfl,hx,ha1,hs⟩;obtain⟨HM2,HS2,hz2⟩:=(yU HM1 HS1 hz1).S hs;clear hs HM1 HS1 hz1;have hw:IntKind.i64.wrap (1+x)=1+x:=IntWalk.i64_in _ zM;go_wp2_with fail
 refine(x_l06Draw (k:=1+x) (tn:=1) (below:=6) HS2.o.base zM (xK.2 zM) zM zM).mono ?_;rintro e w2 ⟨A,Bv,fr,sA,sL,sC,a2,rfl,hfr,hdn,ha2,hs⟩;obtain rfl:sL=fr.length:=xJz hfr.rd;have HLN:=xN (xUz.of hdn zM zM);clear hdn;have HM3:=xN (FM.addI (HM2.o) hs.trn HGL.o hfr hz2);have HS3:=xN (HS2.o.next hs);have hz3:w.heap.size≤w2.heap.size:=Nat.le_trans hz2 hs.size;clear hs HM2 HS2 hz2;clear hw hfr;obtain⟨kd,hkd⟩: ∃ q,q=1+x:=⟨_,rfl⟩;rw[←hkd] at HLN ⊢;clear hkd hx;have hX:w.heap.size<w2.heap.size:=Bk.lt (HM3.o.get 1 rfl);obtain⟨HM4,HS4,hz4⟩:=(yU HM3 HS3 hz3).B 120 #[.int .i64 kd,.int .i64 A,.int .i64 Bv,.slice sA fr.length sC];clear HM3 HS3 hz3;obtain⟨kX,lX,fX⟩:=yL HM4 0 rfl;obtain⟨kR,lR,fR⟩:=yL HM4 2 rfl;go_wp2_with fail
 refine(wS HS4.o zM zM).mono ?_;rintro e w3 ⟨v,a3,rfl,hv,ha3,hs⟩;obtain⟨HM5,HS5,hz5⟩:=(yU HM4 HS4 hz4).S hs;clear hs HM4 HS4 hz4;clear kX lX fX kR lR fR;by_cases q0:v=0
 ·
  subst q0;obtain⟨kX,lX,fX⟩:=yL HM5 0 rfl;obtain⟨kR,lR,fR⟩:=yL HM5 2 rfl;have HLI:=xN (OwI.rd (show OwI 2 (w3.alloc (.cells #[.int .i64 0,.int .i64 18,.int .i64 (-1)] 2)) w3.heap.size (.slice (some ⟨w3.heap.size,0,none⟩) 3 3) [0,18,-1] from World.ownsRow_lit (base:=w3.heap.size) (e:=2) (size:=1) w3 #[.int .i64 0,.int .i64 18,.int .i64 (-1)] 3 zJ (by decide) rfl));obtain⟨HM6,HS6,hz6⟩:=(yU HM5 HS5 hz5).A (.cells #[.int .i64 0,.int .i64 18,.int .i64 (-1)] 2);clear HM5 HS5 hz5;have hga:g<w3.heap.size:=HS6.o.size |> fun q=>by have:=HGL.o;simp at q;omega
  go_wp2_with fail
  refine(uP HS6.o zM HLI.o (by decide) (fun b e=>by injection e with e;simp at e;omega)).mono ?_;rintro e w4 ⟨y,a4,rfl,hy,ha4,hs⟩;obtain⟨HM7,HS7,hz7⟩:=(yU HM6 HS6 hz6).S hs;clear hs HM6 HS6 hz6;clear kX lX fX kR lR fR;clear HLI hga;have hy2:I64 y:=vQ (by simp at hy;omega);clear hy;obtain⟨kX,lX,fX⟩:=yL HM7 0 rfl;obtain⟨kR,lR,fR⟩:=yL HM7 2 rfl;go_wp2;refine bodyPost_ret (v:= .agg #[.int .i64 y,.int .i64 A,.int .i64 Bv,.slice sA fr.length sC]) (by simp[results,Tryz.results81,go_sem,kR,fR,lR]) rfl ?_;obtain⟨HM8,HS8,hz8⟩:=(yU HM7 HS7 hz7).E 0 rfl 0 (.int .i64 y) #[.int .i64 y,.int .i64 A,.int .i64 Bv,.slice sA fr.length sC] rfl;clear HM7 HS7 hz7;obtain⟨HM9,HS9,hz9⟩:=((((yU HM8 HS8 hz8).T 2 rfl 0 (.int .i64 y)).T 2 rfl 1 (.int .i64 A)).T 2 rfl 2 (.int .i64 Bv)).E 2 rfl 3 (.slice sA fr.length sC) #[.int .i64 y,.int .i64 A,.int .i64 Bv,.slice sA fr.length sC] rfl;clear HM8 HS8 hz8;replace HM9:=xN (((HM9.o.F 1).X 2).X 1);exact⟨⟨y,A,Bv,fr⟩,_,_,a4,rfl,HM9.o,⟨hy2,HLN.o.good.2.1,HLN.o.good.2.2.1,HLN.o.good.2.2.2⟩,Nat.le_succ_of_le HLN.o.few,by omega,HS9.o⟩
 have b0:(v == 0)=false:=by simpa using q0
 by_cases q1:v=1
 ·
  subst q1;obtain⟨kX,lX,fX⟩:=yL HM5 0 rfl;obtain⟨kR,lR,fR⟩:=yL HM5 2 rfl;have HLI:=xN (OwI.rd (show OwI 2 (w3.alloc (.cells #[.int .i64 2147483648,.int .i64 17,.int .i64 32,.int .i64 (-1),.int .i64 4] 2)) w3.heap.size (.slice (some ⟨w3.heap.size,0,none⟩) 5 5) [2147483648,17,32,-1,4] from World.ownsRow_lit (base:=w3.heap.size) (e:=2) (size:=1) w3 #[.int .i64 2147483648,.int .i64 17,.int .i64 32,.int .i64 (-1),.int .i64 4] 5 zJ (by decide) rfl));obtain⟨HM6,HS6,hz6⟩:=(yU HM5 HS5 hz5).A (.cells #[.int .i64 2147483648,.int .i64 17,.int .i64 32,.int .i64 (-1),.int .i64 4] 2);clear HM5 HS5 hz5;have hga:g<w3.heap.size:=HS6.o.size |> fun q=>by have:=HGL.o;simp at q;omega
  go_wp2_with fail
  refine(uP HS6.o zM HLI.o (by decide) (fun b e=>by injection e with e;simp at e;omega)).mono ?_;rintro e w4 ⟨y,a4,rfl,hy,ha4,hs⟩;obtain⟨HM7,HS7,hz7⟩:=(yU HM6 HS6 hz6).S hs;clear hs HM6 HS6 hz6;clear kX lX fX kR lR fR;clear HLI hga;have hy2:I64 y:=vQ (by simp at hy;omega);clear hy;obtain⟨kX,lX,fX⟩:=yL HM7 0 rfl;obtain⟨kR,lR,fR⟩:=yL HM7 2 rfl;go_wp2;refine bodyPost_ret (v:= .agg #[.int .i64 kd,.int .i64 y,.int .i64 Bv,.slice sA fr.length sC]) (by simp[results,Tryz.results81,go_sem,kR,fR,lR]) rfl ?_;obtain⟨HM8,HS8,hz8⟩:=(yU HM7 HS7 hz7).E 0 rfl 1 (.int .i64 y) #[.int .i64 kd,.int .i64 y,.int .i64 Bv,.slice sA fr.length sC] rfl;clear HM7 HS7 hz7;obtain⟨HM9,HS9,hz9⟩:=((((yU HM8 HS8 hz8).T 2 rfl 0 (.int .i64 kd)).T 2 rfl 1 (.int .i64 y)).T 2 rfl 2 (.int .i64 Bv)).E 2 rfl 3 (.slice sA fr.length sC) #[.int .i64 kd,.int .i64 y,.int .i64 Bv,.slice sA fr.length sC] rfl;clear HM8 HS8 hz8;replace HM9:=xN (((HM9.o.F 1).X 2).X 1);exact⟨⟨kd,y,Bv,fr⟩,_,_,a4,rfl,HM9.o,⟨HLN.o.good.1,hy2,HLN.o.good.2.2.1,HLN.o.good.2.2.2⟩,Nat.le_succ_of_le HLN.o.few,by omega,HS9.o⟩
 have b1:(v == 1)=false:=by simpa using q1
 by_cases q2:v=2
 ·
  subst q2;obtain⟨kX,lX,fX⟩:=yL HM5 0 rfl;obtain⟨kR,lR,fR⟩:=yL HM5 2 rfl;have HLI:=xN (OwI.rd (show OwI 2 (w3.alloc (.cells #[.int .i64 0,.int .i64 1,.int .i64 16,.int .i64 17] 2)) w3.heap.size (.slice (some ⟨w3.heap.size,0,none⟩) 4 4) [0,1,16,17] from World.ownsRow_lit (base:=w3.heap.size) (e:=2) (size:=1) w3 #[.int .i64 0,.int .i64 1,.int .i64 16,.int .i64 17] 4 zJ (by decide) rfl));obtain⟨HM6,HS6,hz6⟩:=(yU HM5 HS5 hz5).A (.cells #[.int .i64 0,.int .i64 1,.int .i64 16,.int .i64 17] 2);clear HM5 HS5 hz5;have hga:g<w3.heap.size:=HS6.o.size |> fun q=>by have:=HGL.o;simp at q;omega
  go_wp2_with fail
  refine(uP HS6.o zM HLI.o (by decide) (fun b e=>by injection e with e;simp at e;omega)).mono ?_;rintro e w4 ⟨y,a4,rfl,hy,ha4,hs⟩;obtain⟨HM7,HS7,hz7⟩:=(yU HM6 HS6 hz6).S hs;clear hs HM6 HS6 hz6;clear kX lX fX kR lR fR;clear HLI hga;have hy2:I64 y:=vQ (by simp at hy;omega);clear hy;obtain⟨kX,lX,fX⟩:=yL HM7 0 rfl;obtain⟨kR,lR,fR⟩:=yL HM7 2 rfl;go_wp2;refine bodyPost_ret (v:= .agg #[.int .i64 kd,.int .i64 A,.int .i64 y,.slice sA fr.length sC]) (by simp[results,Tryz.results81,go_sem,kR,fR,lR]) rfl ?_;obtain⟨HM8,HS8,hz8⟩:=(yU HM7 HS7 hz7).E 0 rfl 2 (.int .i64 y) #[.int .i64 kd,.int .i64 A,.int .i64 y,.slice sA fr.length sC] rfl;clear HM7 HS7 hz7;obtain⟨HM9,HS9,hz9⟩:=((((yU HM8 HS8 hz8).T 2 rfl 0 (.int .i64 kd)).T 2 rfl 1 (.int .i64 A)).T 2 rfl 2 (.int .i64 y)).E 2 rfl 3 (.slice sA fr.length sC) #[.int .i64 kd,.int .i64 A,.int .i64 y,.slice sA fr.length sC] rfl;clear HM8 HS8 hz8;replace HM9:=xN (((HM9.o.F 1).X 2).X 1);exact⟨⟨kd,A,y,fr⟩,_,_,a4,rfl,HM9.o,⟨HLN.o.good.1,HLN.o.good.2.1,hy2,HLN.o.good.2.2.2⟩,Nat.le_succ_of_le HLN.o.few,by omega,HS9.o⟩
 have b2:(v == 2)=false:=by simpa using q2
 by_cases q3:v=3
 rotate_left
 ·
  have b3:(v == 3)=false:=by simpa using q3
  obtain⟨kX,lX,fX⟩:=yL HM5 0 rfl;obtain⟨kR,lR,fR⟩:=yL HM5 2 rfl;go_wp2;refine bodyPost_ret (v:= .agg #[.int .i64 kd,.int .i64 A,.int .i64 Bv,.slice sA fr.length sC]) (by simp[results,Tryz.results81,go_sem,kR,fR,lR]) rfl ?_;obtain⟨HM6,HS6,hz6⟩:=((((yU HM5 HS5 hz5).T 2 rfl 0 (.int .i64 kd)).T 2 rfl 1 (.int .i64 A)).T 2 rfl 2 (.int .i64 Bv)).E 2 rfl 3 (.slice sA fr.length sC) #[.int .i64 kd,.int .i64 A,.int .i64 Bv,.slice sA fr.length sC] rfl;clear HM5 HS5 hz5;replace HM6:=xN (((HM6.o.F 1).X 2).X 1);exact⟨⟨kd,A,Bv,fr⟩,_,_,a3,rfl,HM6.o,HLN.o.good,Nat.le_succ_of_le HLN.o.few,by omega,HS6.o⟩
 subst q3;obtain⟨kX,lX,fX⟩:=yL HM5 0 rfl;obtain⟨kR,lR,fR⟩:=yL HM5 2 rfl;go_wp2;clear kX lX fX kR lR fR;obtain⟨HM6,HS6,hz6⟩:=(yU HM5 HS5 hz5).D;clear HS5 HM5 hz5;refine wG (fun w'=>(∀ i,w'.cell? ⟨w2.heap.size,i,none⟩= #[.int .i64 kd,.int .i64 A,.int .i64 Bv,.slice sA fr.length sC][i]?)) [7,8] (by kernel_rfl) ?_ (fun hS0=>?_)
 ·exact Bk.cell (HM6.o.get 0 rfl)
 generalize w3.drew=we6 at *;refine zN 0 hS0 ?_;refine zN 1 hS0 ?_;refine zN 2 hS0 ?_;have ha:=(show Below we6.heap.size we6 (we6.alloc (.cells #[.int .i64 0,.int .i64 23,.int .i64 24,.int .i64 (-1)] 2)) from zR.alloc zJ _);have HLI:=xN (OwI.rd (show OwI 2 (we6.alloc (.cells #[.int .i64 0,.int .i64 23,.int .i64 24,.int .i64 (-1)] 2)) we6.heap.size (.slice (some ⟨we6.heap.size,0,none⟩) 4 4) [0,23,24,-1] from World.ownsRow_lit (base:=we6.heap.size) (e:=2) (size:=1) we6 #[.int .i64 0,.int .i64 23,.int .i64 24,.int .i64 (-1)] 4 zJ (by decide) rfl));have HM7:=xN (HM6.o.below ha);have HS7:=xN (HS6.o.below ha);have hz7:w.heap.size≤(we6.alloc (.cells #[.int .i64 0,.int .i64 23,.int .i64 24,.int .i64 (-1)] 2)).heap.size:=Nat.le_trans hz6 ha.size;have hp7:we6.heap.size<(we6.alloc (.cells #[.int .i64 0,.int .i64 23,.int .i64 24,.int .i64 (-1)] 2)).heap.size:=(by simp);clear ha HM6 HS6;generalize hw_:(we6.alloc (.cells #[.int .i64 0,.int .i64 23,.int .i64 24,.int .i64 (-1)] 2))=w5 at *;refine pN 3 (fun K hK=>?_);go_simp
 try rw[hw_]
 refine uN hK ?_ (fun hS1=>?_)
 ·exact Bk.cell (HM7.o.get 0 rfl)
 clear hK K hS0;have HW7:=xN hw_;clear hw_;refine pN 4 (fun K hK=>?_);go_simp;go_wp2_with (go_at_call 36;refine(uP HS7.o zM HLI.o (by decide) (fun b e=>by injection e with e;have:=HGL.o;simp at e;omega)).mono ?_;rintro e w6 ⟨y,a4,rfl,hy,ha4,hs⟩)
 obtain⟨HM8,HS8,hz8⟩:=(yU HM7 HS7 hz7).S hs;clear hs HM7 HS7 hz7;have hy2:I64 y:=vQ (by simp at hy;omega);clear hy HLI;refine uN hK ?_ (fun hS2=>?_)
 ·exact Bk.cell (HM8.o.get 0 rfl)
 clear hK K hS1;have ha:=(show Below w6.heap.size w6 (w6.alloc (.cells #[.int .i64 y] 2)) from zR.alloc zJ _);have HLI:=xN (OwI.rd (lit1 w6 y));have HM9:=xN (HM8.o.below ha);have HS9:=xN (HS8.o.below ha);have hz9:w.heap.size≤(w6.alloc (.cells #[.int .i64 y] 2)).heap.size:=Nat.le_trans hz8 ha.size;have hp9:w6.heap.size<(w6.alloc (.cells #[.int .i64 y] 2)).heap.size:=(by simp);clear ha HM8 HS8;generalize hw_:(w6.alloc (.cells #[.int .i64 y] 2))=w7 at *;refine pN 5 (fun K hK=>?_);go_simp
 try rw[hw_]
 refine uN hK ?_ (fun hS3=>?_)
 ·exact Bk.cell (HM9.o.get 0 rfl)
 clear hK K hS2;have HW9:=xN hw_;clear hw_;have hf4:fr.length≤3:=HLN.o.few;refine pN 6 (fun K hK=>?_);refine zFz rfl _ _ rfl rfl (HM9.o.intsAt 1 rfl) (ys:= [y]) rfl HLI.o (by simp only[List.length_cons,List.length_nil];omega) zM ?_;intro v8 w8 ho8 hg8 hv8;obtain⟨tA,l8,tC,rfl⟩:=T.xE (T.ow_ints.2 ⟨ho8.more (Nat.zero_le _),rfl⟩);obtain rfl:l8=(fr++ [y]).length:=xJz ho8.rd;have HM10:=xN (HM9.o.appint 1 rfl hg8 (ho8.more (Nat.zero_le _)) hv8 zM);have HS10:=xN (HS9.o.grown hg8 (fun b e=>((HM9.o.intsAt 1 rfl).lt b e).1));have hz10:w.heap.size≤w8.heap.size:=Nat.le_trans hz9 hg8.size;clear ho8 hg8 hv8 HM9 HS9 hz9;refine uN hK ?_ (fun hS4=>?_)
 ·exact Bk.cell (HM10.o.get 0 rfl)
 clear hK K hS3;refine q2N 7 8 ?_;obtain⟨kX,lX,fX⟩:=yL HM10 0 rfl;obtain⟨kR,lR,fR⟩:=yL HM10 2 rfl;have e9:(fr++ [y]).length=fr.length+1:=by simp
 clear kX lX fX kR lR fR;obtain⟨kX,lX,fX⟩:=yL HM10 0 rfl;obtain⟨kR,lR,fR⟩:=yL HM10 2 rfl;go_wp2;rw[←e9];refine bodyPost_ret (v:= .agg #[.int .i64 kd,.int .i64 A,.int .i64 Bv,.slice tA (fr++ [y]).length tC]) (by simp[results,Tryz.results81,go_sem,kR,fR,lR]) rfl ?_;obtain⟨HM11,HS11,hz11⟩:=(yU HM10 HS10 hz10).E 0 rfl 3 (.slice tA (fr++ [y]).length tC) #[.int .i64 kd,.int .i64 A,.int .i64 Bv,.slice tA (fr++ [y]).length tC] rfl;clear HM10 HS10 hz10;obtain⟨HM12,HS12,hz12⟩:=((((yU HM11 HS11 hz11).T 2 rfl 0 (.int .i64 kd)).T 2 rfl 1 (.int .i64 A)).T 2 rfl 2 (.int .i64 Bv)).E 2 rfl 3 (.slice tA (fr++ [y]).length tC) #[.int .i64 kd,.int .i64 A,.int .i64 Bv,.slice tA (fr++ [y]).length tC] rfl;clear HM11 HS11 hz11;replace HM12:=xN (((HM12.o.F 1).X 2).X 1);exact⟨⟨kd,A,Bv,fr++ [y]⟩,_,_,a4,rfl,HM12.o,⟨HLN.o.good.1,HLN.o.good.2.1,HLN.o.good.2.2.1,fun z hz=>by rcases List.mem_append.1 hz with h1|h1;(· exact HLN.o.good.2.2.2 z h1);(· simp at h1;subst h1;exact hy2)⟩,by show (fr++ [y]).length≤4;omega,by omega,HS12.o⟩
end
section
open Go.RowKit
theorem Trn.sets {g:Nat} {F:List Nat} (hg:g ∈ F): ∀ (us:List Value) (w:World) (p:Nat),Trn F w (setsW w g p us)
 | [],w,p=>Trn.refl F w
 |u :: us,w,p=>(Trn.set_ hg p u).trans (Trn.sets hg us (w.setCell ⟨g,p,none⟩ u) (p+1))
theorem Own.putS {B:Nat} {w:World} {E:TypeId} {sz:Nat} {xs:List T} {F Fy:List Nat} {g n cap k:Nat} {x y:T} {us:List Value} (h:Own B w (.sl E sz xs) F (.slice (some ⟨g,0,none⟩) n cap)) (hk:xs[k]?=some x) (hy:T.ow w y Fy us) (ny:Fy.Nodup) (ly: ∀ b ∈ Fy,B≤b)
  (hd: ∀ b ∈ F,b ∉ Fy) (hw:T.wide y=sz): ∃ F',Own B (setsW w g (k * sz) us) (.sl E sz (xs.set k y)) F' (.slice (some ⟨g,0,none⟩) n cap)∧ ∀ b ∈ F',b ∈ F∨b ∈ Fy:=by
 obtain⟨pre,post,hx,hl,hs⟩:=zQy hk;obtain⟨ho,hn,hlo⟩:=h;rw[hx] at ho;obtain⟨n',g',cap',G1,Fx,G2,c1,cx,c2,e1,e2,M⟩:=T.mid ho hn;injection e1 with e1 e3 e4;injection e1 with e1;injection e1 with e1;subst e1 e3 e4 e2;have hg:g ∉ Fy:=hd g (by simp);have hc1:=M.c1;rw[hl] at hc1;have hcx:us.length=cx.length:=by rw[T.rd_len _ _ (T.ow_rd _ _ _ M.el),T.rd_len _ _ (T.ow_rd _ _ _ hy),hw];exact(M.wd x (by simp)).symm
 have hrow:=(own_sets us w (k * sz) _ M.own).1;rw[←hc1,setsL_mid us cx c1 c2 hcx,hc1] at hrow;have ht:Trn [g] w (setsW w g (k * sz) us):=Trn.sets (by simp) us w _;have hput:=M.put (x':=y) ht hrow (T.ow_keep _ _ _ (fun b hb=>ht.block b (T.ow_lt _ _ _ hy b hb) (by simp;rintro rfl;exact hg hb)) hy) hw;refine⟨_,⟨by rw[hs];exact hput,?_,?_⟩,?_⟩
 ·have nd:=M.nd
  rw[List.nodup_cons] at nd ⊢;have n2:=nd.2;refine⟨fun hm=>?_,vY (xWz n2) (vY ny (yY (yY n2)) (fun b hb hm=>hd b (by simp[hm]) hb)) (fun b hb hm=>?_)⟩
  ·rcases List.mem_append.1 hm with hm|hm
   ·exact nd.1 (by simp[hm])
   ·rcases List.mem_append.1 hm with hm|hm
    ·exact hg hm
    ·exact nd.1 (by simp[hm])
  ·rcases List.mem_append.1 hm with hm|hm
   ·exact hd b (by simp[hb]) hm
   ·exact yYz n2 b hb (by simp[hm])
 ·intro b hb
  rcases List.mem_cons.1 hb with rfl|hb
  ·exact hlo _ (by simp)
  ·rcases List.mem_append.1 hb with hb|hb
   ·exact hlo _ (by simp[hb])
   ·rcases List.mem_append.1 hb with hb|hb
    ·exact ly _ hb
    ·exact hlo _ (by simp[hb])
 ·intro b hb
  rcases List.mem_cons.1 hb with rfl|hb
  ·exact .inl (by simp)
  ·rcases List.mem_append.1 hb with hb|hb
   ·exact .inl (by simp[hb])
   ·rcases List.mem_append.1 hb with hb|hb
    ·exact .inr hb
    ·exact .inl (by simp[hb])
theorem Own.cells {B:Nat} {w:World} {E:TypeId} {sz:Nat} {xs:List T} {F:List Nat} {g n cap k:Nat} {x:T} (h:Own B w (.sl E sz xs) F (.slice (some ⟨g,0,none⟩) n cap)) (hk:xs[k]?=some x):
  ∃ cx:List Value,cx.length=sz∧(∀ j u,cx[j]?=some u→w.cell? ⟨g,k * sz+j,none⟩=some u)∧(∀ j,w.frozen? ⟨g,j,none⟩=false)∧g<w.heap.size∧B≤g:=by
 have hm:=h.mem g rfl;have h1:=h.lt g hm;have h2:=h.lo g hm;obtain⟨pre,post,hx,hl,hs⟩:=zQy hk;obtain⟨ho,hn,hlo⟩:=h;rw[hx] at ho;obtain⟨n',g',cap',G1,Fx,G2,c1,cx,c2,e1,e2,M⟩:=T.mid ho hn;injection e1 with e1 e3 e4;injection e1 with e1;injection e1 with e1;subst e1 e3 e4 e2;have hc1:=M.c1;rw[hl] at hc1;exact⟨cx,by rw[T.rd_len _ _ (T.ow_rd _ _ _ M.el)];exact M.wd x (by simp),fun j u hj=>uUz j M.own hc1 hj,fun j=>World.ownsRow.frozenAt M.own j,h1,h2⟩
section
variable {B:Nat} {w w':World} {L:List Item}
theorem FM.put {E:TypeId} {sz:Nat} {xs:List T} {F:List Nat} {g n cap k:Nat} {jt:Item} {x y:T} {us:List Value} (h:FM B w (Item.own (.sl E sz xs) F (.slice (some ⟨g,0,none⟩) n cap) :: jt :: L)) (hk:xs[k]?=some x) (hy:T.ow w y jt.F us) (hw:T.wide y=sz) (hB:B≤w.heap.size):
  ∃ F',FM B (setsW w g (k * sz) us) (Item.own (.sl E sz (xs.set k y)) F' (.slice (some ⟨g,0,none⟩) n cap) :: L):=by
 have hO:=h.own;have hap: ∀ b ∈ F,b ∉ jt.F:=fun b hb hb2=>h.apart hb (by rw[List.flatMap_cons];exact List.mem_append_left _ hb2)
 obtain⟨F',h1,h2⟩:=Own.putS hO hk hy h.tail.fnodup h.tail.flo hap hw;exact⟨F',h.into (it':=Item.own (.sl E sz (xs.set k y)) F' (.slice (some ⟨g,0,none⟩) n cap)) (Trn.sets (hO.mem g rfl) us w _) h1.ow h1.nodup (fun b hb=>(h2 b hb).elim .inl (fun q=> .inr (.inl q))) hB⟩
theorem FM.glue3 {i1 i2 i3 it:Item} (h:FM B w (i1 :: i2 :: i3 :: L)) (hP:i1.P w→i2.P w→i3.P w→it.P w) (hF:it.F=i1.F++(i2.F++i3.F)):FM B w (it :: L):=
 ⟨fun jt hj=>(List.mem_cons.1 hj).elim (fun e=>e ▸ hP (h.all _ (by simp)) (h.all _ (by simp)) (h.all _ (by simp))) (fun hj=>h.all jt (by simp[hj])),by rw[List.flatMap_cons,hF];have:=h.nodup;simpa only[List.flatMap_cons,List.append_assoc] using this,fun b hb=>h.lo b (by rw[List.flatMap_cons,hF] at hb;simpa only[List.flatMap_cons,List.append_assoc] using hb)⟩
theorem vKz {E:TypeId} {sz n c:Nat} {xs:List T} {F:List Nat} {A:Option Addr} (h:T.ow w (.sl E sz xs) F [.slice A n c]):n=xs.length:=by
 obtain⟨A',c',e,-⟩:=T.yT (T.ow_rd _ _ _ h);injection e
end
end
end Go.Proofs.YtdcofkabaigjpaaGreat
