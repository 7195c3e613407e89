/- The texts of nodes, patches, mixers and sessions, in plain words. How long the texts of sessions are. Contracts: numbers in decimal, by both sides. Contracts: numbers and lines as texts, by the program. -/
import Derived.Test.YtbgedljbgkcpiaaGreatDoorQAkExactDiffSessions
import Derived.Test.YtbgedljbgkcpiaaGreatDoorQAcExactDiffSessions
import Derived.Test.YtbgedljbgkcpiaaGreatDoorQAaExactDiffSessions
import Derived.Lib.Join
import Derived.Test.YtbgedljbgkcpiaaGreatDoorQAfExactDiffSessions
import Derived.Test.YtbgedljbgkcpiaaGreatDoorQAbExactDiffSessions
import Derived.Lib.LaidTab
import Derived.Test.YtbgedljbgkcpiaaGreatDoorQAgExactDiffSessions
set_option linter.unusedVariables false
set_option linter.unusedSimpArgs false
set_option maxHeartbeats 2000000
set_option maxRecDepth 20000
section
namespace Go.Proofs.YtbgedljbgkcpiaaGreatDoor
open Go.RowKit
theorem inBk {n a b:Int} :inB n a b=true↔a≤n∧n≤b:=by simp[inB]
theorem str_is {s:ByteArray} {l:List UInt8} (h:s.data.toList=l):s=mkS l:=by rw[←h,mkS_data]
theorem dat_app (a b:ByteArray):(a++b).data.toList=a.data.toList++b.data.toList:=by simp
theorem dat_dec (n:Int):(decS n).data.toList=decL n:=rfl
theorem dat_mk (l:List UInt8):(mkS l).data.toList=l:=rfl
/-- The first k elements' texts, and one more. -/
theorem flat_take {α:Type} {xs:List α} {k:Nat} {x:α} (f:α→List UInt8) (h:xs[k]?=some x):(xs.take (k+1)).flatMap f=(xs.take k).flatMap f++f x:=by
 rw[List.take_add_one,h];simp
theorem flat_le {α:Type} {f:α→List UInt8} {c:Nat} : ∀ {xs:List α},(∀ x ∈ xs,(f x).length≤c)→(xs.flatMap f).length≤xs.length * c
 | [],_=>by simp
 |x :: r,h=>by
  have h1:=h x (by simp)
  have h2:=flat_le (xs:=r) (fun y hy=>h y (by simp[hy]))
  simp only[List.flatMap_cons,List.length_append,List.length_cons,Nat.add_mul,Nat.one_mul]
  omega
/-- Numbers, each behind a blank. -/
def blankL (n:Int):List UInt8:=32 :: decL n
def blanks (l:List Int):List UInt8:=l.flatMap blankL
def wrdL (p:List UInt8) (l:List Int):List UInt8:=p++blanks l
theorem dec_len {n:Int} (h:I64 n):(decL n).length≤21:=length_decL (by have:=h.1;omega) (by have:=h.2;omega)
theorem blank_len {n:Int} (h:I64 n):(blankL n).length≤22:=by simp only[blankL,List.length_cons];have:=dec_len h;omega
theorem blanks_len {l:List Int} (h: ∀ n ∈ l,I64 n):(blanks l).length≤l.length * 22:=flat_le fun n hn=>blank_len (h n hn)
theorem blanks_take {l:List Int} {k:Nat} {n:Int} (h:l[k]?=some n):blanks (l.take (k+1))=blanks (l.take k)++blankL n:=flat_take _ h
/-- Words with blanks between them. -/
def sepL:List (List UInt8)→List UInt8
 | []=> []
 |x :: r=>x++r.flatMap fun y=>32 :: y
theorem join_sep (l:List (List UInt8)):Lib.join l [32]=sepL l:=by
 cases l with
 |nil=>rfl
 |cons x r=>
  unfold Lib.join sepL
  induction r generalizing x with
  |nil=>simp[List.intercalate]
  |cons y r ih=>
   have:=ih y
   simp only[List.intercalate,List.intersperse,List.flatten_cons,List.flatMap_cons] at this ⊢
   rw[this]
   simp
theorem sepL_app (a:List (List UInt8)) (h:a≠ []) (r:List (List UInt8)):sepL (a++r)=sepL a++r.flatMap fun y=>32 :: y:=by
 cases a with
 |nil=>exact absurd rfl h
 |cons x t=>simp[sepL]
theorem sep_dec (l:List Int):sepL (l.map decL)=(blanks l).drop 1:=by
 cases l with
 |nil=>rfl
 |cons n r=>
  simp only[List.map_cons,sepL,blanks,List.flatMap_cons,blankL,List.cons_append,List.drop_succ_cons,List.drop_zero]
  congr 1
  induction r with
  |nil=>rfl
  |cons m r ih=>simp only[List.map_cons,List.flatMap_cons,ih,blankL]
theorem blanks_cons {l:List Int} (h:l≠ []):blanks l=32 :: (blanks l).drop 1:=by
 cases l with
 |nil=>exact absurd rfl h
 |cons n r=>simp[blanks,blankL]
def kndN:List (List UInt8):= [[105,110,112,117,116],[99,111,110,115,116],[97,100,100],[115,117,98],[103,97,105,110],[100,101,108,97,121],[115,117,109],[100,105,102,102],[109,117,108],[115,104,105,102,116],[99,108,105,112],[112,104,97,115,101],[116,97,98,108,101],[110,111,105,115,101],[115,101,108,101,99,116],[104,111,108,100],[99,111,109,98]]
def nameK (k:Int):List UInt8:=kndN.getD (k - 1).toNat []
theorem nameK_len (k:Int):(nameK k).length≤6:=by
 unfold nameK
 rw[List.getD_eq_getElem?_getD]
 rcases Nat.lt_or_ge (k - 1).toNat 17 with h|h
 ·have: ∀ i,i<17→((kndN[i]?).getD []).length≤6:=by decide
  exact this _ h
 ·rw[List.getElem?_eq_none (by simpa[kndN] using h)];simp
def ofL (l:List Int):List UInt8:=if l= [] then [] else [32,111,102]++blanks l
def nodeL (x:GNode):List UInt8:=nameK x.zC++(if (kndF x.zC).low≤(kndF x.zC).high then blankL x.fA else [])++(if (kndF x.zC).hasB=true then blankL x.fB else [])++ofL x.zG
def lineL (l:List UInt8):List UInt8:=l++ [10]
def patchL (p:GPatch):List UInt8:=lineL (wrdL [112,97,116,99,104] [p.zJ])++p.zN.flatMap (fun t=>lineL (wrdL [118,97,108,117,101,115] t))++p.zD.flatMap (fun x=>lineL (nodeL x))++lineL (wrdL [111,117,116] p.zK)
def patchLs (p:GPatch):List (List UInt8):= [wrdL [112,97,116,99,104] [p.zJ]]++p.zN.map (wrdL [118,97,108,117,101,115])++p.zD.map nodeL++ [wrdL [111,117,116] p.zK]
def linesL (ls:List (List UInt8)):List UInt8:=ls.flatMap lineL
theorem patch_lines (p:GPatch):linesL (patchLs p)=patchL p:=by
 unfold linesL patchLs patchL
 simp[List.flatMap_append,List.flatMap_map]
theorem join_lines: ∀ (ls:List (List UInt8)),ls≠ []→Lib.join ls [10]++ [10]=linesL ls
 | [],h=>absurd rfl h
 | [x],_=>by simp[Lib.join,List.intercalate,linesL,lineL]
 |x :: y :: r,_=>by
  have ih:=join_lines (y :: r) (by simp)
  unfold Lib.join linesL lineL at *
  simp only[List.intercalate,List.intersperse,List.flatten_cons,List.flatMap_cons,List.append_assoc] at ih ⊢
  rw[ih]
def sendL (l:List GStrip) (s:GSend):List UInt8:= [32,116,111,32]++(l.getD s.yC.toNat ⟨⟨#[]⟩,0,[]⟩).zV.data.toList++blankL s.zQ
def stripL (l:List GStrip) (x:GStrip):List UInt8:=x.zV.data.toList++blankL x.zT++x.yA.flatMap (sendL l)
def mixL (m:GMixer):List UInt8:=m.zH.flatMap fun x=>lineL (stripL m.zH x)
def clipL (c:GClip):List UInt8:=lineL (wrdL [99,108,105,112] [c.zS,c.zG,c.zE,c.yB,c.zQ])
def trackL (t:GTrack × Int):List UInt8:=lineL (wrdL [116,114,97,99,107] [t.2])++t.1.zR.flatMap clipL
noncomputable def effL (e:GPatch):List UInt8:=if e=noPatch then [] else (linesF (mkS (patchL e))).flatMap fun l=> [58,32]++l.data.toList++ [10]
noncomputable def strL (e:ByteArray × GPatch):List UInt8:= [115,116,114,105,112,32]++e.1.data.toList++ [10]++effL e.2
def headL (x:GSession):List UInt8:=lineL (wrdL [115,101,115,115,105,111,110] [x.zE])++x.zM.flatMap fun s=>lineL (wrdL [115,111,117,114,99,101] s)
noncomputable def sesL (x:GSession):List UInt8:=headL x++(x.zO.zip x.zU).flatMap trackL++((linesF (mkS (mixL x.zW))).zip x.zP).flatMap strL
/-- How long texts are. -/
theorem line_len (l:List UInt8):(lineL l).length=l.length+1:=by simp[lineL]
theorem word_len {p:List UInt8} {l:List Int} {c:Nat} (h: ∀ n ∈ l,I64 n) (hc:l.length≤c):(wrdL p l).length≤p.length+c * 22:=by
 unfold wrdL
 rw[List.length_append]
 have:=blanks_len h
 have:=Nat.mul_le_mul_right 22 hc
 omega
theorem of_len {l:List Int} {c:Nat} (h: ∀ n ∈ l,I64 n) (hc:l.length≤c):(ofL l).length≤3+c * 22:=by
 unfold ofL
 split
 ·simp
 ·rw[List.length_append]
  have:=blanks_len h
  have:=Nat.mul_le_mul_right 22 hc
  have:([32,111,102]:List UInt8).length=3:=rfl
  omega
theorem knd_in (k:Int):(kndF k).inputs≤3:=by
 unfold kndF
 rw[List.getD_eq_getElem?_getD]
 rcases Nat.lt_or_ge (k - 1).toNat 17 with h|h
 ·have: ∀ i,i<17→((kndL[i]?).getD ⟨0,0,0,false,false⟩).inputs≤3:=by decide
  exact this _ h
 ·rw[List.getElem?_eq_none (by simpa[kndL] using h)];simp
theorem node_len {x:GNode} (h:x.good) (hc:x.zG.length≤24):(nodeL x).length≤600:=by
 obtain⟨_,ha,hb,hf⟩:=h
 unfold nodeL
 simp only[List.length_append]
 have h1:=nameK_len x.zC
 have h2:=of_len hf hc
 have h3:=blank_len ha
 have h4:=blank_len hb
 split<;>split<;>(try simp only[List.length_nil])<;>omega
theorem name_nl {s:ByteArray} (h:NameOk s):s.data.toList.count 10=0:=by
 rw[List.count_eq_zero]
 intro hm
 obtain⟨i,hi,he⟩:=List.mem_iff_getElem.1 hm
 have hs:i<s.size:=by simpa using hi
 have:=h.each i hs
 have e2:bA s i=10:=by
  unfold bA
  rw[List.getD_eq_getElem?_getD,List.getElem?_eq_getElem hi,he];rfl
 unfold smallN digitN at this
 omega
theorem dec_nl (n:Int):(decL n).count 10=0:=by
 rw[List.count_eq_zero]
 intro hm
 rcases decL_plain n 10 hm with h|h
 ·exact absurd h (by decide)
 ·exact absurd h (by decide)
theorem blank_nl (n:Int):(blankL n).count 10=0:=by
 unfold blankL
 rw[List.count_cons,dec_nl];rfl
theorem flat_nl {α:Type} {f:α→List UInt8} {c:Nat} : ∀ {xs:List α},(∀ x ∈ xs,(f x).count 10=c)→(xs.flatMap f).count 10=xs.length * c
 | [],_=>by simp
 |x :: r,h=>by
  have h1:=h x (by simp)
  have h2:=flat_nl (xs:=r) (fun y hy=>h y (by simp[hy]))
  simp only[List.flatMap_cons,List.count_append,List.length_cons,Nat.add_mul,Nat.one_mul]
  omega
theorem mixer_to {m:GMixer} (h:MixerOk m) {x:GStrip} (hx:x ∈ m.zH) {s:GSend} (hs:s ∈ x.yA): ∃ t,m.zH[s.yC.toNat]?=some t∧0≤s.yC∧s.yC<m.zH.length∧NameOk t.zV:=by
 obtain⟨i,hi⟩:=List.getElem?_of_mem hx
 obtain⟨k,hk⟩:=List.getElem?_of_mem hs
 have h1:=((h.each i x hi).1.sends.each k s hk).1
 have h2:=inBk.1 h1
 have h3:0≤s.yC:=by
  have:0≤befS x.yA (i:Int) k:=by
   unfold befS
   split
   ·omega
   ·rename_i hne
    have hl:k - 1<x.yA.length:=by have:=(List.getElem?_eq_some_iff.1 hk).1;omega
    have h4: ∀ j,j<x.yA.length→0≤(x.yA.getD j ⟨0,0⟩).yC:=by
     intro j
     induction j with
     |zero=>
      intro hj
      have e:=List.getElem?_eq_getElem hj
      rw[List.getD_eq_getElem?_getD,e]
      have:=inBk.1 ((h.each i x hi).1.sends.each 0 _ e).1
      unfold befS at this
      simp only[if_pos] at this
      simp only[Option.getD_some]
      omega
     |succ j ih=>
      intro hj
      have e:=List.getElem?_eq_getElem hj
      rw[List.getD_eq_getElem?_getD,e]
      have:=inBk.1 ((h.each i x hi).1.sends.each (j+1) _ e).1
      unfold befS at this
      rw[if_neg (by omega)] at this
      have:=ih (by omega)
      simp only[Nat.add_sub_cancel,Option.getD_some] at *
      omega
    exact h4 _ hl
  omega
 have h5:s.yC.toNat<m.zH.length:=by omega
 exact⟨m.zH[s.yC.toNat],List.getElem?_eq_getElem h5,h3,by omega,(h.each _ _ (List.getElem?_eq_getElem h5)).1.name⟩
theorem strip_nl {m:GMixer} (h:MixerOk m) {x:GStrip} (hx:x ∈ m.zH):(stripL m.zH x).count 10=0:=by
 obtain⟨i,hi⟩:=List.getElem?_of_mem hx
 unfold stripL
 rw[List.count_append,List.count_append,name_nl (h.each i x hi).1.name,blank_nl,flat_nl (c:=0)]
 ·simp
 ·intro s hs
  obtain⟨t,ht,_,_,hn⟩:=mixer_to h hx hs
  unfold sendL
  rw[List.getD_eq_getElem?_getD,ht,List.count_append,List.count_append,blank_nl]
  simp only[Option.getD_some]
  rw[name_nl hn];rfl
theorem mix_lines {m:GMixer} (h:MixerOk m):(linesF (mkS (mixL m))).length=m.zH.length:=by
 rw[length_linesF,data_mkS]
 unfold mixL
 rw[flat_nl (c:=1),Nat.mul_one]
 intro x hx
 unfold lineL
 rw[List.count_append,strip_nl h hx];rfl
theorem strip_len {m:GMixer} (h:MixerOk m) (hg:m.good) {x:GStrip} (hx:x ∈ m.zH):(stripL m.zH x).length≤200:=by
 obtain⟨i,hi⟩:=List.getElem?_of_mem hx
 have hgx:=hg x hx
 have hsd:=(h.each i x hi).1.sends
 have h4:x.yA.length≤4:=by
  by_cases e:(i:Int)=(m.zH.length:Int) - 1
  ·have:=hsd.last e;omega
  ·exact(hsd.few e).2
 unfold stripL
 simp only[List.length_append]
 have h1:=(h.each i x hi).1.name.few
 have h1':x.zV.data.toList.length=x.zV.size:=Array.length_toList
 have h2:=blank_len hgx.2.1
 have h3:(x.yA.flatMap (sendL m.zH)).length≤x.yA.length * 36:=flat_le fun s hs=>by
  obtain⟨t,ht,_,_,hn⟩:=mixer_to h hx hs
  unfold sendL
  rw[List.getD_eq_getElem?_getD,ht]
  simp only[List.length_append,Option.getD_some]
  have:=hn.few
  have e:t.zV.data.toList.length=t.zV.size:=Array.length_toList
  have:=blank_len (hgx.2.2 s hs).2
  have:([32,116,111,32]:List UInt8).length=4:=rfl
  omega
 omega
theorem mix_len {m:GMixer} (h:MixerOk m) (hg:m.good):(mixL m).length≤1608:=by
 unfold mixL
 have:=flat_le (f:=fun x=>lineL (stripL m.zH x)) (c:=201) (xs:=m.zH) (fun x hx=>by rw[line_len];have:=strip_len h hg hx;omega)
 have:=h.few
 have:=Nat.mul_le_mul_right 201 h.few
 omega
theorem patch_len {p:GPatch} (h:FormedOk p) (hg:p.good):(patchL p).length≤20000:=by
 obtain⟨g1,g2,g3,g4⟩:=hg
 unfold patchL
 simp only[List.length_append,line_len]
 have h1:=word_len (p:= [112,97,116,99,104]) (l:= [p.zJ]) (c:=1) (by intro n hn;obtain rfl:=List.mem_singleton.1 hn;exact g1) (Nat.le_refl _)
 have h2:=word_len (p:= [111,117,116]) (l:=p.zK) (c:=4) g4 h.outs
 have h3:(p.zN.flatMap fun t=>lineL (wrdL [118,97,108,117,101,115] t)).length≤p.zN.length * 400:=flat_le fun t ht=>by
  obtain⟨i,hi⟩:=List.getElem?_of_mem ht
  have e:=(h.tables.each i t hi).1
  have:=word_len (p:= [118,97,108,117,101,115]) (c:=16) (g2 t ht) (by omega)
  have:([118,97,108,117,101,115]:List UInt8).length=6:=rfl
  rw[line_len];omega
 have h4:(p.zD.flatMap fun x=>lineL (nodeL x)).length≤p.zD.length * 601:=flat_le fun x hx=>by
  obtain⟨i,hi⟩:=List.getElem?_of_mem hx
  have e:=(h.nodes i x hi).1.arity
  have:=node_len (g3 x hx) (by have:=knd_in x.zC;omega)
  rw[line_len];omega
 have:=Nat.mul_le_mul_right 400 h.tables.few
 have:=Nat.mul_le_mul_right 601 h.few
 have:([112,97,116,99,104]:List UInt8).length=5:=rfl
 have:([111,117,116]:List UInt8).length=3:=rfl
 omega
end Go.Proofs.YtbgedljbgkcpiaaGreatDoor
end
section
namespace Go.Proofs.YtbgedljbgkcpiaaGreatDoor
open Go.RowKit
theorem flat_cut {α:Type} {xs:List α} (f:α→List UInt8) (k:Nat):((xs.take k).flatMap f).length≤(xs.flatMap f).length:=by
 have e:xs.flatMap f=(xs.take k).flatMap f++(xs.drop k).flatMap f:=by rw[←List.flatMap_append,List.take_append_drop]
 rw[e,List.length_append];omega
theorem parts_sum (c:UInt8) (l:List UInt8):((partsL c l).flatMap id).length+l.count c=l.length:=by
 induction l with
 |nil=>simp[partsL]
 |cons b t ih=>
  unfold partsL
  split
  ·next h=>subst h;simp only[List.flatMap_cons,id,List.length_append,List.length_nil,List.count_cons_self,List.length_cons];omega
  ·next h=>
   have hn:List.count c (b :: t)=List.count c t:=by simp[List.count_cons,h]
   rw[hn]
   cases hp:partsL c t with
   |nil=>exact absurd hp (partsL_ne _ _)
   |cons q r=>
    rw[hp] at ih
    simp only[List.flatMap_cons,id,List.length_append,List.length_cons] at ih ⊢
    omega
theorem flat_pre (p:List UInt8): ∀ ls:List (List UInt8),((ls.flatMap fun l=>p++l++ [10])).length=(ls.flatMap id).length+ls.length * (p.length+1)
 | []=>by simp
 |x :: r=>by
  have:=flat_pre p r
  simp only[List.flatMap_cons,List.length_append,List.length_cons,id,List.length_nil,Nat.add_mul,Nat.one_mul] at this ⊢
  omega
theorem drop_last_flat: ∀ (ls:List (List UInt8)),(ls.dropLast.flatMap id).length≤(ls.flatMap id).length
 | []=>by simp
 | [x]=>by simp
 |x :: y :: r=>by
  have:=drop_last_flat (y :: r)
  simp only[List.dropLast_cons_cons,List.flatMap_cons,List.length_append] at this ⊢
  omega
def preL (p:List UInt8) (ls:List ByteArray):List UInt8:=ls.flatMap fun l=>p++l.data.toList++ [10]
theorem preL_len (p:List UInt8) (s:ByteArray):(preL p (linesF s)).length≤s.size * (p.length+1):=by
 have hl:s.data.toList.length=s.size:=Array.length_toList
 have e:preL p (linesF s)=((partsL 10 s.data.toList).dropLast.flatMap fun l=>p++l++ [10]):=by
  unfold preL linesF partsB
  rw[←List.map_dropLast,List.flatMap_map]
  rfl
 rw[e,flat_pre]
 have h1:=drop_last_flat (partsL 10 s.data.toList)
 have h2:=parts_sum 10 s.data.toList
 have h3:(partsL 10 s.data.toList).dropLast.length=s.data.toList.count 10:=by simp[length_partsL]
 rw[h3]
 have h5:s.data.toList.count 10≤s.size:=by omega
 rw[hl] at h2
 generalize s.data.toList.count 10=n at *
 generalize p.length=q
 have h6:=Nat.mul_le_mul_right q h5
 simp only[Nat.mul_add,Nat.mul_one]
 omega
theorem line_le {s l:ByteArray} (h:l ∈ linesF s):l.size≤s.size:=by
 unfold linesF partsB at h
 have h2:=(List.dropLast_sublist _).subset h
 obtain⟨p,hp,rfl⟩:=List.mem_map.1 h2
 rw[size_mkS]
 have h3:=parts_sum 10 s.data.toList
 have e:s.data.toList.length=s.size:=Array.length_toList
 have h4:p.length≤((partsL 10 s.data.toList).flatMap id).length:=by
  obtain⟨i,hi⟩:=List.getElem?_of_mem hp
  have:=flat_cut (xs:=partsL 10 s.data.toList) id (i+1)
  rw[flat_take id hi,List.length_append] at this
  simp only[id] at this ⊢
  omega
 omega
theorem eff_pre (e:GPatch):effL e=if e=noPatch then [] else preL [58,32] (linesF (mkS (patchL e))):=rfl
theorem eff_len {e:GPatch} (h:EffectOk e) (hg:e.good):(effL e).length≤60000:=by
 rw[eff_pre]
 split
 ·simp
 ·next hn=>
  have hf:=(h.resolve_left hn).1.formed
  have h1:=patch_len hf hg
  have h2:=preL_len [58,32] (mkS (patchL e))
  rw[size_mkS] at h2
  have e3:([58,32]:List UInt8).length+1=3:=rfl
  rw[e3] at h2
  omega
theorem clip_len {c:GClip} (h:c.good):(clipL c).length≤115:=by
 obtain⟨h1,h2,h3,h4,h5⟩:=h
 unfold clipL
 rw[line_len]
 have:=word_len (p:= [99,108,105,112]) (l:= [c.zS,c.zG,c.zE,c.yB,c.zQ]) (c:=5) (by
  intro n hn
  simp only[List.mem_cons,List.not_mem_nil,or_false] at hn
  rcases hn with rfl|rfl|rfl|rfl|rfl<;>assumption) (Nat.le_refl _)
 have:([99,108,105,112]:List UInt8).length=4:=rfl
 omega
theorem track_len {t:GTrack × Int} (h:TrackOk t.1) (hg:t.1.good) (hn:I64 t.2):(trackL t).length≤1408:=by
 unfold trackL
 rw[List.length_append,line_len]
 have h1:=word_len (p:= [116,114,97,99,107]) (l:= [t.2]) (c:=1) (by intro n hn';obtain rfl:=List.mem_singleton.1 hn';exact hn) (Nat.le_refl _)
 have h2:=flat_le (f:=clipL) (c:=115) (xs:=t.1.zR) (fun c hc=>clip_len (hg c hc))
 have:=Nat.mul_le_mul_right 115 h.few
 have:([116,114,97,99,107]:List UInt8).length=5:=rfl
 omega
theorem head_len {x:GSession} (h:SourcesOk x.zM) (hg:I64 x.zE) (hs: ∀ l ∈ x.zM,∀ y ∈ l,I64 y):(headL x).length≤528072:=by
 unfold headL
 rw[List.length_append,line_len]
 have h1:=word_len (p:= [115,101,115,115,105,111,110]) (l:= [x.zE]) (c:=1) (by intro n hn';obtain rfl:=List.mem_singleton.1 hn';exact hg) (Nat.le_refl _)
 have h2:=flat_le (f:=fun s=>lineL (wrdL [115,111,117,114,99,101] s)) (c:=88007) (xs:=x.zM) (fun l hl=>by
  obtain⟨i,hi⟩:=List.getElem?_of_mem hl
  have e:=h.each i l hi
  have e2:l.length≤4000:=by unfold sigB at e;simp only[Bool.and_eq_true,decide_eq_true_eq] at e;exact e.1
  have:=word_len (p:= [115,111,117,114,99,101]) (l:=l) (c:=4000) (hs l hl) e2
  have:([115,111,117,114,99,101]:List UInt8).length=6:=rfl
  rw[line_len];omega)
 have:=Nat.mul_le_mul_right 88007 h.few
 have:([115,101,115,115,105,111,110]:List UInt8).length=7:=rfl
 omega
theorem str_len {e:ByteArray × GPatch} (h:EffectOk e.2) (hg:e.2.good) (hl:e.1.size≤1608):(strL e).length≤61615:=by
 unfold strL
 simp only[List.length_append]
 have:=eff_len h hg
 have e1:e.1.data.toList.length=e.1.size:=Array.length_toList
 have:([115,116,114,105,112,32]:List UInt8).length=6:=rfl
 have:([10]:List UInt8).length=1:=rfl
 omega
theorem ses_parts {x:GSession} (h:SessionOk x) (hg:x.good):(headL x).length≤528072∧((x.zO.zip x.zU).flatMap trackL).length≤8448∧(((linesF (mkS (mixL x.zW))).zip x.zP).flatMap strL).length≤492920:=by
 obtain⟨g0,g1,g2,g3,g4,g5⟩:=hg
 refine⟨head_len h.sources g0 g1,?_,?_⟩
 ·have:=flat_le (f:=trackL) (c:=1408) (xs:=x.zO.zip x.zU) (fun t ht=>by
   obtain⟨h1,h2⟩:=List.of_mem_zip ht
   obtain⟨i,hi⟩:=List.getElem?_of_mem h1
   exact track_len (h.tracks i _ hi).1 (g2 _ h1) (g3 _ h2))
  have h2:(x.zO.zip x.zU).length≤6:=by rw[List.length_zip];have:=h.few;omega
  have:=Nat.mul_le_mul_right 1408 h2
  omega
 ·have hm:=mix_len h.mixer g5
  have:=flat_le (f:=strL) (c:=61615) (xs:=(linesF (mkS (mixL x.zW))).zip x.zP) (fun t ht=>by
   obtain⟨h1,h2⟩:=List.of_mem_zip ht
   obtain⟨i,hi⟩:=List.getElem?_of_mem h2
   exact str_len (h.effects i _ hi) (g4 _ h2) (by have:=line_le h1;rw[size_mkS] at this;omega))
  have h2:((linesF (mkS (mixL x.zW))).zip x.zP).length≤8:=by rw[List.length_zip,mix_lines h.mixer];have:=h.mixer.few;omega
  have:=Nat.mul_le_mul_right 61615 h2
  omega
theorem ses_len {x:GSession} (h:SessionOk x) (hg:x.good):(sesL x).length≤1048576:=by
 obtain⟨h1,h2,h3⟩:=ses_parts h hg
 unfold sesL
 simp only[List.length_append]
 omega
end Go.Proofs.YtbgedljbgkcpiaaGreatDoor
end
section
namespace Go.Proofs.YtbgedljbgkcpiaaGreatDoor
open Go.RowKit
/-- The library's table of powers of ten holds what its text says. -/
def TB (w:World):Prop:=Lib.TabIs Tryz.prog w "internal/strconv.uint64pow10" .u64 Lib.pow10Tab
theorem TB.keep {w w':World} (h:TB w) (hk: ∀ b,b<w.heap.size→w'.heap[b]?=w.heap[b]?):TB w':=by
 unfold TB Lib.TabIs World.var? at *
 cases hg:Tryz.prog.globalNamed "internal/strconv.uint64pow10" with
 |none=>simp[hg] at h
 |some g=>
  simp only[hg,Option.bind_some] at h ⊢
  have hlt:g<w.heap.size:=by
   rcases Nat.lt_or_ge g w.heap.size with h'|h'
   ·exact h'
   ·rw[Array.getElem?_eq_none h'] at h;simp at h
  rw[hk g hlt]
  exact h
theorem TB.below {w w':World} (h:TB w) (hb:Below w.heap.size w w'):TB w':=h.keep fun b hlt=>hb.block b hlt
theorem below_grow (w:World) (k:Nat) (os:Array Obj):Below w.heap.size w (Go.Sort.grow (w.drewN k) os):=
 ⟨rfl,rfl,rfl,by simp[Go.Sort.grow],fun b hb=>by simp[Go.Sort.grow,Array.getElem?_append_left hb]⟩
theorem c_iDec (n:Int) (w:World) (ht:TB w) (h0: -9223372036854775808≤n) (h1:n≤9223372036854775807):Calls Tryz.prog 71 #[.int .i64 n] w fun e w'=>e= .returned (.string (decS n))∧Below w.heap.size w w':=by
 go_enter Tryz.func71,Tryz.ntmps71
 go_wp2_with fail
 refine(Tryz.strconv_FormatInt_10 n h0 h1 _ ht).mono ?_;rintro e w1 ⟨rfl,k,os,rfl⟩
 have hb:=below_grow w k os
 have HB:=hide hb;clear hb
 generalize Go.Sort.grow (w.drewN k) os=w1 at *
 go_wp2
 go_ret
 exact⟨rfl,HB.out⟩
theorem byte_own (B:Nat) (c:UInt8) (w:World) (hB:B≤w.heap.size):OwY 5 (w.alloc (.cells #[.int .u8 (c.toNat:Int)] 5)) B (.slice (some ⟨w.heap.size,0,none⟩) 1 1) [c]:=by
 have:=World.ownsRow_lit (base:=B) (e:=5) (size:=1) w #[.int .u8 (c.toNat:Int)] 1 hB (by decide) rfl
 unfold OwY
 simp only[List.length_cons,List.length_nil,List.map_cons,List.map_nil]
 exact this
theorem c_l01Dec (n:Nat) (w:World) (h1:n≤9223372036854775807):Calls Tryz.prog 96 #[.int .i64 (n:Int)] w fun e w'=>e= .returned (.string (decS (n:Int)))∧Below w.heap.size w w':=by
 have hnn: ¬ (n:Int)<0:=by omega
 generalize hD:decS (n:Int)=D
 have HDD:=hide hD;clear hD
 go_enter Tryz.func96,Tryz.ntmps96
 go_wp2
 go_loopw [3,4] (fun o kv wr=> ∃ (m:Nat) (l:List UInt8),m≤n∧kv= .int .i64 (m:Int)∧preD n=preD m++l∧l.length≤19∧OwY 5 wr w.heap.size o l∧Below w.heap.size w wr) (fun _ kv _=>(intOf kv).toNat)
 case atStart=>exact⟨n,[],Nat.le_refl _,rfl,by simp,by simp,new_u8 w,(Below.refl _ _).alloc (Nat.le_refl _) _⟩
 case round=>
  obtain⟨m,l,hm,rfl,hp,hll,ho,hb⟩:=hrel
  have HP:=hide hp;have HO:=hide ho;have HB:=hide hb;have hsz:=hb.size;clear hp hb
  by_cases hz:m=0
  ·have hl:preD n=l:=by have:=HP.out;rw[this,hz];simp[preD]
   have hz2:((m:Int) != 0)=false:=by simp;omega
   by_cases h0:n=0
   ·have hle:l= []:=by rw[←hl,h0];simp[preD]
    subst hle
    obtain⟨A,cap,rfl,_,_,_⟩:=Rd.of_own ho |>.2
    have hdec:decS (n:Int)=mkS [48]:=by unfold decS;rw[h0];show mkS (decL 0)=_;rw[decL_zero]
    have HDE:=hide (HDD.out.symm.trans hdec)
    clear hdec h0 hl ho
    go_wp2
    go_ret
    exact⟨ret_str (by rw[HDE.out];rfl),HB.out⟩
   ·have hdec:decS (n:Int)=mkS l:=by unfold decS;rw[decL_pos (by omega),show (n:Int).natAbs=n by omega,hl]
    have hl1:0<l.length:=by
     rcases Nat.eq_zero_or_pos l.length with h|h
     ·have:=List.eq_nil_of_length_eq_zero h
      rw[this] at hl
      have h2:=(dec_digits n).2.2
      simp[preD,h0] at hl
      exact absurd hl h2
     ·exact h
    have hlb:((l.length:Int) == 0)=false:=beq_eq_false_iff_ne.2 (by omega)
    have hc:=str_of ho.rd
    obtain⟨A,cap,rfl,_,_,_⟩:=Rd.of_own ho |>.2
    have HDE:=hide (HDD.out.symm.trans hdec)
    clear hdec hl ho
    go_wp2
    go_ret
    exact⟨ret_str (by rw[HDE.out]),HB.out⟩
  ·have hz2:((m:Int) != 0)=true:=by simp;omega
   have hmod:(m:Int) % 10=((m % 10:Nat):Int):=by omega
   have hdiv:(m:Int) / 10=((m / 10:Nat):Int):=by omega
   have hd:m % 10<10:=Nat.mod_lt _ (by omega)
   have HS:=hide (preD_step (u:=m) (by omega))
   have hlen:([UInt8.ofNat (48+m % 10)]++l).length≤19:=by
    have h3:=preD_len 19 n (by omega)
    rw[HP.out,HS.out] at h3
    simp at h3 ⊢;omega
   generalize hdd:m % 10=d at *
   have hq:m / 10<m:=by omega
   generalize hqq:m / 10=q at *
   have hcn:((UInt8.ofNat (48+d)).toNat:Int)=48+(d:Int):=by rw[dig_of hd];omega
   have HOWN:Sec (∀ W:World,w.heap.size≤W.heap.size→OwY 5 (W.alloc (.cells #[.int .u8 (48+(d:Int))] 5)) w.heap.size (.slice (some ⟨W.heap.size,0,none⟩) 1 1) [UInt8.ofNat (48+d)]):=hide (by
    intro W hW
    have:=byte_own w.heap.size (UInt8.ofNat (48+d)) W hW
    rw[hcn] at this
    exact this)
   have HLEN:=hide hlen
   clear hdd hqq hlen ho hcn
   go_wp2_with (at_builtin;refine appm_u8 rfl _ _ rfl rfl (HOWN.out _ hsz) rfl (show RdY _ _ _ from Rd.below HO.out.rd ((Below.refl _ _).alloc (Nat.le_refl _) _)) (by simp;omega) (by simp;omega) ?_;intro v3 w3 ho3 hg3 hv3;have hb3:=below_own (HB.out.alloc HB.out.size _) (HOWN.out _ hsz) hg3 (Nat.le_refl _) (by simp;omega);have HO3:=hide ho3;have HB3:=hide hb3;clear ho3 hb3 hv3 hg3)
   go_roundw
   case rel=>exact⟨q,[UInt8.ofNat (48+d)]++l,by omega,by go_num,by rw[HP.out,HS.out];simp,HLEN.out,HO3.out,HB3.out⟩
   case measure=>simp[intOf];omega
end Go.Proofs.YtbgedljbgkcpiaaGreatDoor
end
section
namespace Go.Proofs.YtbgedljbgkcpiaaGreatDoor
open Go.RowKit
theorem c_join (v:Value) (ls:List ByteArray) (sep:ByteArray) (w:World) (hr:RdS w v ls) (hn:ls.length≤140737488355328) (hl:(Lib.join (ls.map (·.data.toList)) sep.data.toList).length≤140737488355328):Calls Tryz.prog 112 #[v,.string sep] w fun e w'=>e= .returned (.string (mkS (Lib.join (ls.map (·.data.toList)) sep.data.toList)))∧Below w.heap.size w w':=by
 obtain⟨A,cap,rfl,h1,h2,hx⟩:=hr.openS
 cases ls with
 |nil=>exact(Tryz.strings_Join_none A cap sep w).mono fun e w' h=>by obtain⟨rfl,rfl⟩:=h;exact⟨rfl,Below.refl _ _⟩
 |cons x r=>
  obtain⟨b,off,rfl,hb,_⟩:=hx 0 x rfl
  exact Tryz.strings_Join b off cap (x :: r) sep w (fun j y hj=>by obtain⟨b',off',e,_,hc⟩:=hx j y hj;injection e with e;injection e with e1 e2;subst e1 e2;exact hc) hb hn h1 hl
theorem dat_map (l:List (List UInt8)):(l.map mkS).map (fun s:ByteArray=>s.data.toList)=l:=by
 rw[List.map_map]
 exact(List.map_congr_left (fun x _=>dat_mk x)).trans (List.map_id l)
theorem dec_map (l:List Int):l.map decS=(l.map decL).map mkS:=by rw[List.map_map];rfl
theorem blanks_drop {l:List Int} (h: ∀ n ∈ l,I64 n) (hl:l.length≤1048576):((blanks l).drop 1).length≤23068672:=by
 rw[List.length_drop]
 have:=blanks_len h
 omega
theorem c_numbersText (v:Value) (xs:List Int) (w:World) (hr:RdI w v xs) (hg: ∀ n ∈ xs,I64 n) (hl:xs.length≤1048576) (ht:TB w):Calls Tryz.prog 111 #[v] w fun e w'=>e= .returned (.string (mkS ((blanks xs).drop 1)))∧Below w.heap.size w w':=by
 have hbd:=blanks_drop hg hl
 have HTB:=hide ht;have HG:=hide hg
 obtain⟨A,cap,rfl,hln,hm,hx⟩:=hr.open_
 have HX:=hide hx;clear hx hr ht hg
 have HJ:=hide (show Lib.join ((xs.map decS).map (fun s:ByteArray=>s.data.toList)) [32]=(blanks xs).drop 1 by rw[dec_map,dat_map,join_sep,sep_dec])
 generalize hT:(blanks xs).drop 1=tx at *
 clear hT
 go_enter Tryz.func111,Tryz.ntmps111
 go_wp2
 go_loopw [3,9] (fun o i wr=> ∃ k:Nat,k≤xs.length∧i= .int .i64 (k:Int)∧OwS 9 wr w.heap.size o ((xs.take k).map decS)∧Below w.heap.size w wr) (fun _ i _=>xs.length - (intOf i).toNat)
 case atStart=>exact⟨0,Nat.zero_le _,rfl,new_str w,(Below.refl _ _).alloc (Nat.le_refl _) _⟩
 case round=>
  obtain⟨k,hk,rfl,ho,hb⟩:=hrel
  have HO:=hide ho;have HB:=hide hb;clear ho hb
  by_cases hlt:k<xs.length
  ·have hgk:=List.getElem?_eq_getElem hlt
   obtain⟨b,off,rfl,hb1,hc⟩:=HX.out k xs[k] hgk
   have d0:=(HB.out.cell hb1).trans hc
   have hi:=HG.out xs[k] (List.getElem_mem hlt)
   have hb2:b<wr.heap.size:=Nat.lt_of_lt_of_le hb1 HB.out.size
   generalize xs[k]=n at *
   have HGK:=hide hgk;have HI:=hide hi;clear hgk hi hc
   have hlk:((xs.take k).map decS).length=k:=by rw[List.length_map,List.length_take];omega
   go_wp2_with fail
   refine(c_iDec n _ (HTB.out.below HB.out) HI.out.1 HI.out.2).mono ?_;rintro e w1 ⟨rfl,hb3⟩
   have HB1:=hide (yH HB.out HB.out.size hb3);have HO1:=hide (HO.out.all hb3);clear hb3
   have hs1:=HB1.out.size
   go_wp2_with (at_builtin;refine app1_str rfl _ _ rfl rfl HO1.out rfl (by omega) hs1 ?_;intro v8 w8 ho8 hg8 hv8;have HO8:=hide ho8;have HB8:=hide (below_own HB1.out HO1.out.2 hg8 (Nat.le_refl _) hs1);clear ho8 hg8 hv8)
   go_roundw
   case rel=>exact⟨k+1,by omega,by go_num,by rw[take_snoc_of HGK.out,List.map_append];exact HO8.out,HB8.out⟩
   case measure=>simp[intOf];omega
  ·obtain rfl:k=xs.length:=by omega
   have HO2:=hide (show OwS 9 wr w.heap.size _ (xs.map decS) by have:=HO.out;rwa [List.take_length] at this)
   go_wp2_with (go_at_call 112;refine(c_join _ (xs.map decS) _ _ HO2.out.rd (by rw[List.length_map];omega) (by rw[show (⟨#[32]⟩:ByteArray).data.toList= [32] from rfl,HJ.out];omega)).mono ?_;rintro e w2 ⟨rfl,hb9⟩;have HB9:=hide (yH HB.out HB.out.size hb9);clear hb9)
   go_ret
   exact⟨ret_str (by rw[←HJ.out,List.map_map]),HB9.out⟩
theorem c_spaced (word:ByteArray) (v:Value) (xs:List Int) (w:World) (hr:RdI w v xs) (hg: ∀ n ∈ xs,I64 n) (hl:xs.length≤1048576) (hz:word.size≤100) (ht:TB w):Calls Tryz.prog 72 #[.string word,v] w fun e w'=>e= .returned (.string (mkS (wrdL word.data.toList xs)))∧Below w.heap.size w w':=by
 have HTB:=hide ht;have HG:=hide hg;have HR:=hide hr
 obtain⟨A,cap,rfl,hln,hm,hx⟩:=hr.open_
 clear hx hr ht hg
 by_cases h0:xs= []
 ·have HE:=hide (show mkS (wrdL word.data.toList xs)=word by rw[h0];unfold wrdL blanks;rw[List.flatMap_nil,List.append_nil,mkS_data])
  have hq:((xs.length:Int) == 0)=true:=by rw[h0];rfl
  have hq2:xs.length=0:=by rw[h0];rfl
  clear h0
  go_enter Tryz.func72,Tryz.ntmps72
  go_wp2
  go_ret
  exact⟨ret_str (by rw[HE.out]),Below.refl _ _⟩
 ·have hq:((xs.length:Int) == 0)=false:=beq_eq_false_iff_ne.2 (by cases xs with
   |nil=>exact absurd rfl h0
   |cons a t=>simp;omega)
  have HE:=hide (show (word++(⟨#[32]⟩:ByteArray))++mkS ((blanks xs).drop 1)=mkS (wrdL word.data.toList xs) by
   apply str_is
   unfold wrdL
   rw[blanks_cons h0]
   simp[dat_app,dat_mk])
  have h32:(⟨#[32]⟩:ByteArray).size=1:=rfl
  have z1:(word++(⟨#[32]⟩:ByteArray)).size≤101:=by rw[ByteArray.size_append,h32];omega
  have z2:(mkS ((blanks xs).drop 1)).size≤23068672:=by rw[size_mkS];exact blanks_drop HG.out hl
  have HN:=hide (fun W (hb:Below w.heap.size w W)=>c_numbersText _ xs W (HR.out.below hb) HG.out hl (HTB.out.below hb))
  generalize mkS ((blanks xs).drop 1)=nt at *
  clear h0
  go_enter Tryz.func72,Tryz.ntmps72
  go_wp2_with (go_at_call 111;refine(HN.out _ (Below.refl _ _)).mono ?_;rintro e w1 ⟨rfl,hb1⟩;have HB1:=hide hb1;clear hb1)
  go_ret
  exact⟨ret_str (by rw[←HE.out]),HB1.out⟩
theorem c_prefixed (s p:ByteArray) (w:World) (hs:s.size≤1048576) (hp:p.size≤100):Calls Tryz.prog 75 #[.string s,.string p] w fun e w'=>e= .returned (.string (mkS (preL p.data.toList (linesF s))))∧Below w.heap.size w w':=by
 have hpl:(preL p.data.toList (linesF s)).length≤105906176:=by
  have h1:=preL_len p.data.toList s
  have h2:p.data.toList.length=p.size:=Array.length_toList
  have h3:=Nat.mul_le_mul hs (show p.data.toList.length+1≤101 by omega)
  omega
 have HSM:Sec (∀ l ∈ linesF s,l.size≤1048576):=hide (fun l hl=>Nat.le_trans (line_le hl) hs)
 have HSP:=hide (c_splitLines s w hs)
 have hll:(linesF s).length≤1048576:=by rw[length_linesF];exact Nat.le_trans (count_le s) hs
 generalize linesF s=ls at *
 go_enter Tryz.func75,Tryz.ntmps75
 go_wp2_with (go_at_call 31;refine HSP.out.mono ?_;rintro e w1 ⟨v,rfl,ho,hb⟩;have HR:=hide ho.rd;have HB:=hide hb;clear ho hb;obtain⟨A,cap,rfl,hln,hm,hx⟩:=HR.out.openS;have HX:=hide hx;clear hx)
 have hlt10:(⟨#[10]⟩:ByteArray).size=1:=rfl
 go_loopw [5,11] (fun o i wr=> ∃ (k:Nat) (X:ByteArray),k≤ls.length∧i= .int .i64 (k:Int)∧o= .string X∧X=mkS (preL p.data.toList (ls.take k))∧Below w1.heap.size w1 wr) (fun _ i _=>ls.length - (intOf i).toNat)
 case atStart=>exact⟨0,_,Nat.zero_le _,rfl,rfl,rfl,Below.refl _ _⟩
 case round=>
  obtain⟨k,X,hk,rfl,rfl,hX,hb⟩:=hrel
  have HXX:=hide hX;have HBr:=hide hb;have hsz:X.size≤105906176:=by rw[hX,size_mkS];unfold preL;exact Nat.le_trans (flat_cut _ k) hpl
  clear hX hb
  by_cases hlt:k<ls.length
  ·have hgk:=List.getElem?_eq_getElem hlt
   obtain⟨b,off,rfl,hb1,hc⟩:=HX.out k ls[k] hgk
   have d0:=(HBr.out.cell hb1).trans hc
   have hz:=HSM.out ls[k] (List.getElem_mem hlt)
   have hb2:b<wr.heap.size:=Nat.lt_of_lt_of_le hb1 HBr.out.size
   generalize ls[k]=l at *
   have HGK:=hide hgk;clear hgk hc
   have z1:(p++l).size≤1048676:=by rw[ByteArray.size_append];omega
   have z2:((p++l)++(⟨#[10]⟩:ByteArray)).size≤1048677:=by rw[ByteArray.size_append,hlt10];omega
   go_wp2
   go_roundw
   case rel=>exact⟨k+1,_,by omega,by go_num,rfl,by rw[HXX.out];apply str_is;unfold preL;rw[flat_take _ HGK.out];simp[dat_app,dat_mk],HBr.out⟩
   case measure=>simp[intOf];omega
  ·obtain rfl:k=ls.length:=by omega
   have HXE:=hide (show X=mkS (preL p.data.toList ls) by rw[HXX.out,List.take_length])
   go_wp2
   go_ret
   exact⟨ret_str (by rw[HXE.out]),yH HB.out HB.out.size HBr.out⟩
end Go.Proofs.YtbgedljbgkcpiaaGreatDoor
end
