/- Contracts: numbers as texts, by the reference. -/
import Derived.Test.YtbgedljbgkcpiaaGreatDoorQAlExactDiffSessions
import Derived.Test.YtbgedljbgkcpiaaGreatDoorQAfExactDiffSessions
set_option linter.unusedVariables false
set_option linter.unusedSimpArgs false
set_option maxHeartbeats 2000000
set_option maxRecDepth 20000
namespace Go.Proofs.YtbgedljbgkcpiaaGreatDoor
open Go.RowKit
theorem c_l01DecN (n:Nat) (w:World) (h0:0<n) (h1:n≤9223372036854775808):Calls Tryz.prog 96 #[.int .i64 (-(n:Int))] w fun e w'=>e= .returned (.string (decS (-(n:Int))))∧Below w.heap.size w w':=by
 have hng: -(n:Int)<0:=by omega
 have hng2:decide (-(n:Int)<0)=true:=decide_eq_true hng
 have hdec:decS (-(n:Int))=mkS (45 :: preD n):=by unfold decS;rw[decL_neg hng,show (-(n:Int)).natAbs=n by omega]
 have HDE:=hide hdec
 generalize decS (-(n:Int))=D at *
 clear hdec hng
 go_enter Tryz.func96,Tryz.ntmps96
 go_wp2
 go_loopw [3,4] (fun o kv wr=> ∃ (m:Nat) (l:List UInt8),m≤n∧kv= .int .i64 (-(m:Int))∧preD n=preD m++l∧l.length≤20∧OwY 5 wr w.heap.size o l∧Below w.heap.size w wr) (fun _ kv _=>(intOf kv).natAbs)
 case atStart=>exact⟨n,[],Nat.le_refl _,rfl,by simp,by simp,new_u8 w,(Below.refl _ _).alloc (Nat.le_refl _) _⟩
 case round=>
  obtain⟨m,l,hm,rfl,hp,hll,ho,hb⟩:=hrel
  have HP:=hide hp;have HO:=hide ho;have HB:=hide hb;have hsz:=hb.size;clear hp hb
  by_cases hz:m=0
  ·have hl:preD n=l:=by have:=HP.out;rw[this,hz];simp[preD]
   have hz2:(-(m:Int) != 0)=false:=by simp;omega
   have hl1:0<l.length:=by
    rcases Nat.eq_zero_or_pos l.length with h|h
    ·have:=List.eq_nil_of_length_eq_zero h
     rw[this] at hl
     have h2:=(dec_digits n).2.2
     rw[preD,if_neg (by omega)] at hl
     exact absurd hl h2
    ·exact h
   have hlb:((l.length:Int) == 0)=false:=beq_eq_false_iff_ne.2 (by omega)
   have hc:=str_of ho.rd
   obtain⟨A,cap,rfl,_,_,_⟩:=Rd.of_own ho |>.2
   have HDF:=hide (show (⟨#[45]⟩:ByteArray)++mkS l=D by rw[HDE.out,hl];exact mkS_append [45] l)
   have h45:(⟨#[45]⟩:ByteArray).size=1:=rfl
   have hls:(mkS l).size≤20:=by rw[size_mkS];exact hll
   clear hl ho
   go_wp2
   go_ret
   exact⟨ret_str (by rw[←HDF.out]),HB.out⟩
  ·have hz2:(-(m:Int) != 0)=true:=by simp;omega
   have hmod:Int.tmod (-(m:Int)) 10= -((m % 10:Nat):Int):=by rw[Int.neg_tmod];rfl
   have hdiv:Int.tdiv (-(m:Int)) 10= -((m / 10:Nat):Int):=by rw[Int.neg_tdiv];rfl
   have hd:m % 10<10:=Nat.mod_lt _ (by omega)
   have HS:=hide (preD_step (u:=m) (by omega))
   have hq:m / 10<m:=by omega
   have hcn:((UInt8.ofNat (48+m % 10)).toNat:Int)=48+((m % 10:Nat):Int):=by rw[dig_of hd];omega
   have HOWN:Sec (∀ W:World,w.heap.size≤W.heap.size→OwY 5 (W.alloc (.cells #[.int .u8 (48+((m % 10:Nat):Int))] 5)) w.heap.size (.slice (some ⟨W.heap.size,0,none⟩) 1 1) [UInt8.ofNat (48+m % 10)]):=hide (by
    intro W hW
    have:=byte_own w.heap.size (UInt8.ofNat (48+m % 10)) W hW
    rw[hcn] at this
    exact this)
   have hlen:([UInt8.ofNat (48+m % 10)]++l).length≤20:=by
    have h3:=preD_len 20 n (by omega)
    rw[HP.out,HS.out] at h3
    simp at h3 ⊢;omega
   have HLEN:=hide hlen
   generalize m % 10=d at *
   generalize m / 10=q at *
   clear hlen ho hcn
   by_cases h0d:d=0
   ·subst h0d
    have HOWN2:Sec (∀ W:World,w.heap.size≤W.heap.size→OwY 5 (W.alloc (.cells #[.int .u8 48] 5)) w.heap.size (.slice (some ⟨W.heap.size,0,none⟩) 1 1) [UInt8.ofNat (48+0)]):=hide (fun W hW=>by have:=HOWN.out W hW;simpa using this)
    go_wp2_with (at_builtin;refine appm_u8 rfl _ _ rfl rfl (HOWN2.out _ hsz) rfl (show RdY _ _ _ from Rd.below HO.out.rd ((Below.refl _ _).alloc (Nat.le_refl _) _)) (by simp;omega) (by simp;omega) ?_;intro v3 w3 ho3 hg3 hv3;have hb3:=below_own (HB.out.alloc HB.out.size _) (HOWN2.out _ hsz) hg3 (Nat.le_refl _) (by simp;omega);have HO3:=hide ho3;have HB3:=hide hb3;clear ho3 hb3 hv3 hg3)
    go_roundw
    case rel=>exact⟨q,[UInt8.ofNat (48+0)]++l,by omega,by go_num,by rw[HP.out,HS.out];simp,HLEN.out,HO3.out,HB3.out⟩
    case measure=>simp[intOf];omega
   ·have hd0:decide (-(d:Int)<0)=true:=decide_eq_true (by omega)
    have hnn:IntKind.i64.wrap (- -(d:Int))=(d:Int):=by rw[Int.neg_neg];exact IntWalk.i64_in _ (by omega)
    go_wp2_with (at_builtin;refine appm_u8 rfl _ _ rfl rfl (HOWN.out _ hsz) rfl (show RdY _ _ _ from Rd.below HO.out.rd ((Below.refl _ _).alloc (Nat.le_refl _) _)) (by simp;omega) (by simp;omega) ?_;intro v3 w3 ho3 hg3 hv3;have hb3:=below_own (HB.out.alloc HB.out.size _) (HOWN.out _ hsz) hg3 (Nat.le_refl _) (by simp;omega);have HO3:=hide ho3;have HB3:=hide hb3;clear ho3 hb3 hv3 hg3)
    go_roundw
    case rel=>exact⟨q,[UInt8.ofNat (48+d)]++l,by omega,by go_num,by rw[HP.out,HS.out];simp,HLEN.out,HO3.out,HB3.out⟩
    case measure=>simp[intOf];omega
theorem c_sDec (n:Int) (w:World) (h:I64 n):Calls Tryz.prog 96 #[.int .i64 n] w fun e w'=>e= .returned (.string (decS n))∧Below w.heap.size w w':=by
 rcases Int.lt_or_le n 0 with hn|hn
 ·obtain⟨m,rfl⟩: ∃ m:Nat,n= -(m:Int):=⟨n.natAbs,by omega⟩
  exact c_l01DecN m w (by omega) (by have:=h.1;omega)
 ·obtain⟨m,rfl⟩: ∃ m:Nat,n=(m:Int):=⟨n.natAbs,by omega⟩
  exact c_l01Dec m w (by have:=h.2;omega)
theorem c_l03Text (v:Value) (xs:List Int) (w:World) (hr:RdI w v xs) (hg: ∀ n ∈ xs,I64 n) (hl:xs.length≤1048576):Calls Tryz.prog 133 #[v] w fun e w'=>e= .returned (.string (mkS ((blanks xs).drop 1)))∧Below w.heap.size w w':=by
 have hbd:(blanks xs).length≤23068672:=by have:=blanks_len hg;omega
 have HG:=hide hg
 obtain⟨A,cap,rfl,hln,hm,hx⟩:=hr.open_
 have HX:=hide hx;clear hx hr hg
 have h32:(⟨#[32]⟩:ByteArray).size=1:=rfl
 go_enter Tryz.func133,Tryz.ntmps133
 go_wp2
 go_loopw [3,4] (fun o i wr=> ∃ (k:Nat) (X:ByteArray),k≤xs.length∧i= .int .i64 (k:Int)∧o= .string X∧X=mkS ((blanks (xs.take k)).drop 1)∧Below w.heap.size w wr) (fun _ i _=>xs.length - (intOf i).toNat)
 case atStart=>exact⟨0,_,Nat.zero_le _,rfl,rfl,rfl,Below.refl _ _⟩
 case round=>
  obtain⟨k,X,hk,rfl,rfl,hX,hb⟩:=hrel
  have HXX:=hide hX;have HB:=hide hb
  have hsz:X.size≤23068672:=by rw[hX,size_mkS,List.length_drop];have:=flat_cut (xs:=xs) blankL k;unfold blanks at *;omega
  clear hX hb
  by_cases hlt:k<xs.length
  ·have hgk:=List.getElem?_eq_getElem hlt
   obtain⟨b,off,rfl,hb1,hc⟩:=HX.out k xs[k] hgk
   have d0:=(HB.out.cell hb1).trans hc
   have hi:=HG.out xs[k] (List.getElem_mem hlt)
   have hb2:b<wr.heap.size:=Nat.lt_of_lt_of_le hb1 HB.out.size
   generalize xs[k]=n at *
   have HGK:=hide hgk;have HI:=hide hi;clear hgk hi hc
   have hds:(decS n).size≤21:=by unfold decS;rw[size_mkS];exact dec_len HI.out
   by_cases h0:k=0
   ·have q0:decide ((0:Int)<(k:Int))=false:=decide_eq_false (by omega);have q1:decide (0<k)=false:=decide_eq_false (by omega);have q2: ¬ (0<k):=by omega
    have HE:=hide (show X++decS n=mkS ((blanks (xs.take (k+1))).drop 1) by
     rw[HXX.out];apply str_is;rw[blanks_take HGK.out,h0];simp[dat_app,dat_mk,dat_dec,blanks,blankL])
    have HK0:=hide h0;clear h0
    go_wp2_with (go_at_call 96;refine(c_sDec n _ HI.out).mono ?_;rintro e w1 ⟨rfl,hb3⟩;have HB1:=hide (yH HB.out HB.out.size hb3);clear hb3)
    go_roundw
    case rel=>exact⟨k+1,_,by omega,by go_num,rfl,HE.out,HB1.out⟩
    case measure=>simp[intOf];omega
   ·have q0:decide ((0:Int)<(k:Int))=true:=decide_eq_true (by omega);have q1:decide (0<k)=true:=decide_eq_true (by omega);have q2:0<k:=by omega
    have HE:=hide (show (X++(⟨#[32]⟩:ByteArray))++decS n=mkS ((blanks (xs.take (k+1))).drop 1) by
     rw[HXX.out];apply str_is;rw[blanks_take HGK.out]
     have hne:xs.take k≠ []:=by intro e;have:=congrArg List.length e;rw[List.length_take,List.length_nil] at this;omega
     rw[blanks_cons hne]
     simp[dat_app,dat_mk,dat_dec,blankL])
    have HK0:=hide h0;clear h0
    have z1:(X++(⟨#[32]⟩:ByteArray)).size≤23068673:=by rw[ByteArray.size_append,h32];omega
    go_wp2_with (go_at_call 96;refine(c_sDec n _ HI.out).mono ?_;rintro e w1 ⟨rfl,hb3⟩;have HB1:=hide (yH HB.out HB.out.size hb3);clear hb3)
    go_roundw
    case rel=>exact⟨k+1,_,by omega,by go_num,rfl,HE.out,HB1.out⟩
    case measure=>simp[intOf];omega
  ·obtain rfl:k=xs.length:=by omega
   have HXE:=hide (show X=mkS ((blanks xs).drop 1) by rw[HXX.out,List.take_length])
   go_wp2
   go_ret
   exact⟨ret_str (by rw[HXE.out]),HB.out⟩
theorem c_l07Line (word:ByteArray) (v:Value) (xs:List Int) (w:World) (hr:RdI w v xs) (hg: ∀ n ∈ xs,I64 n) (hl:xs.length≤1048576) (hz:word.size≤100):Calls Tryz.prog 97 #[.string word,v] w fun e w'=>e= .returned (.string (mkS (lineL (wrdL word.data.toList xs))))∧Below w.heap.size w w':=by
 have HG:=hide hg;have HR:=hide hr
 obtain⟨A,cap,rfl,hln,hm,hx⟩:=hr.open_
 clear hx hr hg
 have h10:(⟨#[10]⟩:ByteArray).size=1:=rfl
 by_cases h0:xs= []
 ·have HE:=hide (show word++(⟨#[10]⟩:ByteArray)=mkS (lineL (wrdL word.data.toList xs)) by apply str_is;rw[h0];unfold lineL wrdL blanks;simp[dat_app])
  have hq:decide (0<xs.length)=false:=by rw[h0];rfl
  clear h0
  go_enter Tryz.func97,Tryz.ntmps97
  go_wp2
  go_ret
  exact⟨ret_str (by rw[←HE.out]),Below.refl _ _⟩
 ·have hq:decide (0<xs.length)=true:=decide_eq_true (List.length_pos_iff.2 h0);have hq1:0<xs.length:=List.length_pos_iff.2 h0
  have HE:=hide (show (word++((⟨#[32]⟩:ByteArray)++mkS ((blanks xs).drop 1)))++(⟨#[10]⟩:ByteArray)=mkS (lineL (wrdL word.data.toList xs)) by
   apply str_is
   unfold lineL wrdL
   rw[blanks_cons h0]
   simp[dat_app,dat_mk])
  have h32:(⟨#[32]⟩:ByteArray).size=1:=rfl
  have z2:(mkS ((blanks xs).drop 1)).size≤23068672:=by rw[size_mkS];exact blanks_drop HG.out hl
  have HN:=hide (fun W (hb:Below w.heap.size w W)=>c_l03Text _ xs W (HR.out.below hb) HG.out hl)
  generalize mkS ((blanks xs).drop 1)=nt at *
  have z1:((⟨#[32]⟩:ByteArray)++nt).size≤23068673:=by rw[ByteArray.size_append,h32];omega
  have z3:(word++((⟨#[32]⟩:ByteArray)++nt)).size≤23068773:=by rw[ByteArray.size_append];omega
  clear h0
  go_enter Tryz.func97,Tryz.ntmps97
  go_wp2_with (go_at_call 133;refine(HN.out _ (Below.refl _ _)).mono ?_;rintro e w1 ⟨rfl,hb1⟩;have HB1:=hide hb1;clear hb1)
  go_ret
  exact⟨ret_str (by rw[←HE.out]),HB1.out⟩
theorem c_l32Numbers (v:Value) (xs:List Int) (w:World) (hr:RdI w v xs) (hg: ∀ n ∈ xs,I64 n) (hl:xs.length≤1048576):Calls Tryz.prog 54 #[v] w fun e w'=>e= .returned (.string (mkS (blanks xs)))∧Below w.heap.size w w':=by
 have hbd:(blanks xs).length≤23068672:=by have:=blanks_len hg;omega
 have HG:=hide hg
 obtain⟨A,cap,rfl,hln,hm,hx⟩:=hr.open_
 have HX:=hide hx;clear hx hr hg
 have h32:(⟨#[32]⟩:ByteArray).size=1:=rfl
 go_enter Tryz.func54,Tryz.ntmps54
 go_wp2
 go_loopw [3,4] (fun o i wr=> ∃ k:Nat,k≤xs.length∧i= .int .i64 (k:Int)∧OwY 5 wr w.heap.size o (blanks (xs.take k))∧Below w.heap.size w wr) (fun _ i _=>xs.length - (intOf i).toNat)
 case atStart=>exact⟨0,Nat.zero_le _,rfl,new_u8 w,(Below.refl _ _).alloc (Nat.le_refl _) _⟩
 case round=>
  obtain⟨k,hk,rfl,ho,hb⟩:=hrel
  have HO:=hide ho;have HB:=hide hb
  have hsz:(blanks (xs.take k)).length≤23068672:=by have:=flat_cut (xs:=xs) blankL k;unfold blanks at *;omega
  by_cases hlt:k<xs.length
  ·clear ho hb
   have hgk:=List.getElem?_eq_getElem hlt
   obtain⟨b,off,rfl,hb1,hc⟩:=HX.out k xs[k] hgk
   have d0:=(HB.out.cell hb1).trans hc
   have hi:=HG.out xs[k] (List.getElem_mem hlt)
   have hb2:b<wr.heap.size:=Nat.lt_of_lt_of_le hb1 HB.out.size
   generalize xs[k]=n at *
   have HGK:=hide hgk;have HI:=hide hi;clear hgk hi hc
   have hds:(decS n).size≤21:=by unfold decS;rw[size_mkS];exact dec_len HI.out
   have HE:=hide (show blanks (xs.take k)++((⟨#[32]⟩:ByteArray)++decS n).data.toList=blanks (xs.take (k+1)) by rw[blanks_take HGK.out];simp[dat_app,dat_dec,blankL])
   have z1:((⟨#[32]⟩:ByteArray)++decS n).size≤22:=by rw[ByteArray.size_append,h32];omega
   go_wp2_with fail
   refine(c_sDec n _ HI.out).mono ?_;rintro e w1 ⟨rfl,hb3⟩
   have HB1:=hide (yH HB.out HB.out.size hb3);have HO1:=hide (own_all HO.out hb3);clear hb3
   have hs1:=HB1.out.size
   go_wp2_with (at_builtin;refine app_string rfl _ _ _ _ rfl w.heap.size 5 _ Tryz.underlying104 Tryz.underlying9 info_u8 rfl _ _ rfl HO1.out ((⟨#[32]⟩:ByteArray)++decS n) rfl (by omega) hs1 ?_;intro v8 w8 ho8 hg8 hv8;have HO8:=hide ho8;have HB8:=hide (below_own HB1.out HO1.out hg8 (Nat.le_refl _) hs1);clear ho8 hg8 hv8)
   go_roundw
   case rel=>exact⟨k+1,by omega,by go_num,by rw[←HE.out];exact HO8.out,HB8.out⟩
   case measure=>simp[intOf];omega
  ·obtain rfl:k=xs.length:=by omega
   have hc:=str_of ho.rd
   obtain⟨A2,cap2,rfl,_,_,_⟩:=Rd.of_own ho |>.2
   clear ho hb
   rw[List.take_length] at hc
   go_wp2
   go_ret
   exact⟨ret_str rfl,HB.out⟩
end Go.Proofs.YtbgedljbgkcpiaaGreatDoor
