/- Texts Qbp, Qmb, Qba, Qbi, Qbk, Qcu, merged. -/
import Derived.Maps.RangeWalk
import Derived.DeepKeys5
import Derived.Laws.CopyOwn
import Derived.Lib.Overlaps
import Derived.Lib.AppendZerosOnto
import Derived.Deep.RegionLaw
import Derived.Test.YtndlihclgdkpaaaGreatDoorGc
import Derived.Test.YtndlihclgdkpaaaGreatDoorGf
import Derived.Test.YtndlihclgdkpaaaGreatDoorGk
/- Plain books of receipts. -/
set_option linter.unusedVariables false
set_option linter.unusedSimpArgs false
open Go.Lib (hid)
set_option maxHeartbeats 4000000
set_option maxRecDepth 100000
namespace Go.Proofs.YtndlihclgdkpaaaGreatDoor
open Go.Proofs.YtndlihclgdkpaaaGreatDoor.One

structure Pc where
 s:ByteArray
 i:Int
deriving DecidableEq
def Rc.pc (r:Rc):Pc:=⟨r.str,r.ix⟩
def isPc (p:Pc) (r:Rc):Bool:=decide (r.pc=p)
def sameN (a b:Rc):Bool:=decide (a.hol=b.hol) && decide (a.ser=b.ser)
theorem sameN_iff {a b:Rc}:sameN a b=true↔a.hol=b.hol∧a.ser=b.ser:=by
 unfold sameN
 simp only [Bool.and_eq_true,decide_eq_true_eq]
theorem befR_iff {a b:Rc}:befR a b=true↔a.day<b.day∨a.day=b.day∧(a.hol<b.hol∨a.hol=b.hol∧a.ser<b.ser):=by
 unfold befR
 split
 ·rw [decide_eq_true_eq];omega
 ·split
  ·rw [decide_eq_true_eq];omega
  ·rw [decide_eq_true_eq];omega
theorem befR_trans {a b c:Rc} (h:befR a b=true) (k:befR b c=true):befR a c=true:=by
 rw [befR_iff] at h k ⊢
 omega
theorem befR_total {a b:Rc} (h: ¬(a.hol=b.hol∧a.ser=b.ser)):befR a b=true∨befR b a=true:=by
 rw [befR_iff,befR_iff]
 omega
theorem befR_anti {a b:Rc} (h:befR a b=true):befR b a=false:=by
 rw [← Bool.not_eq_true,befR_iff]
 rw [befR_iff] at h
 omega
structure GoodB (m:List Rc):Prop where
 v: ∀x ∈ m,ValidR x
 s:m.Pairwise fun a b=>befR a b=true
 u:m.Pairwise fun a b=> ¬(a.hol=b.hol∧a.ser=b.ser)
theorem goodB_nil:GoodB []:=⟨fun x h=>by simp at h,.nil,.nil⟩
theorem GoodB.filter {m:List Rc} (h:GoodB m) (q:Rc→Bool):GoodB (m.filter q):=⟨fun x hx=>h.v x (List.mem_filter.1 hx).1,h.s.filter q,h.u.filter q⟩
theorem GoodB.uniq {m:List Rc} (h:GoodB m) {x y:Rc} (hx:x ∈ m) (hy:y ∈ m) (he:x.hol=y.hol∧x.ser=y.ser):x=y:=by
 have hu:=h.u
 clear h
 induction m with
 | nil=>simp at hx
 | cons a m ih=>
   obtain ⟨h1,h2⟩:=List.pairwise_cons.1 hu
   rcases List.mem_cons.1 hx with e1 | e1<;> rcases List.mem_cons.1 hy with e2 | e2
   ·rw [e1,e2]
   ·subst e1;exact absurd he (h1 y e2)
   ·subst e2;exact absurd ⟨he.1.symm,he.2.symm⟩ (h1 x e1)
   ·exact ih e1 e2 h2
theorem GoodB.nodup {m:List Rc} (h:GoodB m):m.Nodup:=h.u.imp (fun hn e=>hn (by rw [e];exact ⟨rfl,rfl⟩))
def posB (m:List Rc) (r:Rc):Nat:=(m.reverse.dropWhile fun x=> !befR x r).length
theorem posB_snoc (m:List Rc) (x r:Rc):posB (m++[x]) r=if befR x r then m.length+1 else posB m r:=by
 unfold posB
 rw [List.reverse_append,List.reverse_cons,List.reverse_nil,List.nil_append,List.singleton_append,List.dropWhile_cons]
 cases h:befR x r<;> simp
def insB (m:List Rc) (r:Rc):List Rc:=m.filter (fun x=>befR x r)++r::m.filter (fun x=> !befR x r)
theorem filter_down {α:Type} {p:α→Bool}: ∀{m:List α},m.Pairwise (fun a b=>p b=true→p a=true)→m.filter p=m.take (m.countP p)∧m.filter (fun x=> !p x)=m.drop (m.countP p)
 | [],_=>⟨rfl,rfl⟩
 | a::m,h=>by
   obtain ⟨h1,h2⟩:=List.pairwise_cons.1 h
   obtain ⟨i1,i2⟩:=filter_down h2
   cases ha:p a with
   | true=>simp [ha,i1,i2]
   | false=>
     have hz:m.countP p=0:=List.countP_eq_zero.2 fun x hx hp=>by
      have:=h1 x hx hp
      rw [ha] at this
      cases this
     have hf:m.filter p=[]:=by rw [i1,hz];rfl
     have hg:m.filter (fun x=> !p x)=m:=by rw [i2,hz];rfl
     simp [ha,hz,hf,hg]
theorem snoc_ind {α:Type} {Q:List α→Prop} (h0:Q []) (h1: ∀l x,Q l→Q (l++[x])) (l:List α):Q l:=by
 rw [← List.reverse_reverse l]
 induction l.reverse with
 | nil=>exact h0
 | cons x r ih=>rw [List.reverse_cons];exact h1 _ _ ih
theorem dropW_down {α:Type} {p:α→Bool} (m:List α):m.Pairwise (fun a b=>p b=true→p a=true)→(m.reverse.dropWhile fun x=> !p x).length=m.countP p:=by
 induction m using snoc_ind with
 | h0=>intro _;rfl
 | h1 m x ih=>
   intro h
   obtain ⟨h1,_,h3⟩:=List.pairwise_append.1 h
   rw [List.reverse_append,List.reverse_cons,List.reverse_nil,List.nil_append,List.singleton_append,List.dropWhile_cons,List.countP_append]
   cases hx:p x with
   | false=>simp [hx,ih h1]
   | true=>
     have:m.countP p=m.length:=List.countP_eq_length.2 fun a ha=>h3 a ha x (by simp) hx
     simp [hx,this]
theorem GoodB.down {m:List Rc} (h:GoodB m) (r:Rc):m.Pairwise (fun a b=>befR b r=true→befR a r=true):=h.s.imp (fun hab hb=>befR_trans hab hb)
theorem insB_pos {m:List Rc} (h:GoodB m) (r:Rc):m.take (posB m r)++r::m.drop (posB m r)=insB m r:=by
 obtain ⟨h1,h2⟩:=filter_down (h.down r)
 unfold insB posB
 rw [dropW_down _ (h.down r),h1,h2]
theorem filter_comm' {α:Type} (p q:α→Bool) (l:List α):(l.filter p).filter q=(l.filter q).filter p:=by
 rw [List.filter_filter,List.filter_filter]
 exact List.filter_congr fun x _=>Bool.and_comm _ _
theorem insB_filter {m:List Rc} (h:GoodB m) (r:Rc) (q:Rc→Bool):(insB m r).filter q=if q r then insB (m.filter q) r else m.filter q:=by
 unfold insB
 rw [List.filter_append,List.filter_cons,filter_comm',filter_comm' (fun x=> !befR x r)]
 cases hq:q r with
 | true=>simp
 | false=>
   simp only [Bool.false_eq_true,if_false]
   obtain ⟨h1,h2⟩:=filter_down ((h.filter q).down r)
   rw [h1,h2,List.take_append_drop]
theorem mem_insB {m:List Rc} {r x:Rc}:x ∈ insB m r↔x=r∨x ∈ m:=by
 unfold insB
 simp only [List.mem_append,List.mem_cons,List.mem_filter,Bool.not_eq_true']
 constructor
 ·rintro (⟨h,_⟩ | h | ⟨h,_⟩)
  ·exact .inr h
  ·exact .inl h
  ·exact .inr h
 ·rintro (h | h)
  ·exact .inr (.inl h)
  ·cases hb:befR x r
   ·exact .inr (.inr ⟨h,rfl⟩)
   ·exact .inl ⟨h,rfl⟩
theorem GoodB.ins {m:List Rc} (h:GoodB m) {r:Rc} (hr:ValidR r) (hn: ∀x ∈ m,¬(x.hol=r.hol∧x.ser=r.ser)):GoodB (insB m r):=by
 refine ⟨fun x hx=> ?_,?_,?_⟩
 ·rcases mem_insB.1 hx with e | e
  ·rw [e];exact hr
  ·exact h.v x e
 ·unfold insB
  rw [List.pairwise_append,List.pairwise_cons]
  refine ⟨h.s.filter _,⟨fun a ha=> ?_,h.s.filter _⟩,fun a ha b hb=> ?_⟩
  ·obtain ⟨h1,h2⟩:=List.mem_filter.1 ha
   rcases befR_total (hn a h1) with h3 | h3
   ·rw [h3] at h2;cases h2
   ·exact h3
  ·obtain ⟨h1,h2⟩:=List.mem_filter.1 ha
   rcases List.mem_cons.1 hb with e | e
   ·rw [e];exact h2
   ·obtain ⟨h3,h4⟩:=List.mem_filter.1 e
    rcases befR_total (hn b h3) with h5 | h5
    ·rw [h5] at h4;cases h4
    ·exact befR_trans h2 h5
 ·unfold insB
  rw [List.pairwise_append,List.pairwise_cons]
  refine ⟨h.u.filter _,⟨fun a ha=>fun e=>hn a (List.mem_filter.1 ha).1 ⟨e.1.symm,e.2.symm⟩,h.u.filter _⟩,fun a ha b hb=> ?_⟩
  obtain ⟨h1,h2⟩:=List.mem_filter.1 ha
  rcases List.mem_cons.1 hb with e | e
  ·rw [e];exact hn a h1
  ·obtain ⟨h3,h4⟩:=List.mem_filter.1 e
   intro he
   have:=h.uniq h1 h3 he
   subst this
   rw [h2] at h4
   cases h4
theorem insB_len (m:List Rc) (r:Rc):(insB m r).length=m.length+1:=by
 unfold insB
 rw [List.length_append,List.length_cons]
 have:=List.length_eq_countP_add_countP (fun x=>befR x r) (l:=m)
 rw [← List.countP_eq_length_filter,← List.countP_eq_length_filter]
 simp only [Bool.not_eq_true',Bool.not_eq_true] at*
 have e:List.countP (fun x=> !befR x r) m=List.countP (fun a=>decide (befR a r=false)) m:=List.countP_congr fun x _=>by simp
 omega
def findN (m:List Rc) (h s:Int):Option Rc:=m.find? fun x=>decide (x.hol=h) && decide (x.ser=s)
theorem findN_some {m:List Rc} {h s:Int} {x:Rc} (e:findN m h s=some x):x ∈ m∧x.hol=h∧x.ser=s:=by
 unfold findN at e
 have h1:=List.find?_some e
 simp only [Bool.and_eq_true,decide_eq_true_eq] at h1
 exact ⟨List.mem_of_find?_eq_some e,h1.1,h1.2⟩
theorem findN_none {m:List Rc} {h s:Int}:findN m h s=none↔ ∀x ∈ m,¬(x.hol=h∧x.ser=s):=by
 unfold findN
 rw [List.find?_eq_none]
 simp only [Bool.and_eq_true,decide_eq_true_eq]
theorem findN_eq {m:List Rc} (hg:GoodB m) {x:Rc} (hx:x ∈ m):findN m x.hol x.ser=some x:=by
 cases hf:findN m x.hol x.ser with
 | none=>exact absurd ⟨rfl,rfl⟩ (findN_none.1 hf x hx)
 | some y=>
   obtain ⟨h1,h2,h3⟩:=findN_some hf
   rw [hg.uniq hx h1 ⟨h2.symm,h3.symm⟩]
theorem findN_ins {m:List Rc} (hg:GoodB m) {r:Rc} (hr:ValidR r) (hn:findN m r.hol r.ser=none) (h s:Int):findN (insB m r) h s=if h=r.hol∧s=r.ser then some r else findN m h s:=by
 have hg2:=hg.ins hr (findN_none.1 hn)
 split
 ·rename_i e
  rw [e.1,e.2]
  exact findN_eq hg2 (mem_insB.2 (.inl rfl))
 ·rename_i e
  cases hf:findN m h s with
  | none=>
    refine findN_none.2 fun x hx hh=> ?_
    rcases mem_insB.1 hx with e1 | e1
    ·subst e1;exact e ⟨hh.1.symm,hh.2.symm⟩
    ·exact findN_none.1 hf x e1 hh
  | some y=>
    obtain ⟨h1,h2,h3⟩:=findN_some hf
    rw [← h2,← h3]
    exact findN_eq hg2 (mem_insB.2 (.inr h1))
def addB (m:List Rc) (r:Rc):List Rc × Int:=if validR r=true then (if m.any (fun x=>decide (x.sg=r.sg))=true then (m,5) else if m.any (fun x=>contraR x r)=true then (m,13) else (m.take (posB m r)++r::m.drop (posB m r),0)) else (m,1)
def addP (m:List Rc) (r:Rc):List Rc × Int:=if validR r=true then (match findN m r.hol r.ser with | some x=>if x.sg=r.sg then (m,5) else (m,13) | none=>(insB m r,0)) else (m,1)
theorem addB_eq {m:List Rc} (hg:GoodB m) (r:Rc):addB m r=addP m r:=by
 unfold addB addP
 by_cases hv:validR r=true
 rotate_left
 ·rw [if_neg hv,if_neg hv]
 rw [if_pos hv,if_pos hv]
 cases hf:findN m r.hol r.ser with
 | some x=>
   obtain ⟨h1,h2,h3⟩:=findN_some hf
   simp only
   by_cases he:x.sg=r.sg
   ·rw [if_pos he,if_pos (List.any_eq_true.2 ⟨x,h1,decide_eq_true he⟩)]
   ·rw [if_neg he,if_neg,if_pos]
    ·refine List.any_eq_true.2 ⟨x,h1,?_⟩
     unfold contraR
     rw [validR_iff.2 (hg.v x h1),hv,decide_eq_true h2,decide_eq_true h3,decide_eq_false he]
     rfl
    ·intro ha
     obtain ⟨y,hy,hs⟩:=List.any_eq_true.1 ha
     have hs:=of_decide_eq_true hs
     unfold Rc.sg at hs
     injection hs with s1 s2 s3 s4 s5 s6 s7
     have:=hg.uniq h1 hy ⟨h2.trans s1.symm,h3.trans s5.symm⟩
     subst this
     exact he (by unfold Rc.sg;rw [s1,s2,s3,s4,s5,s6,s7])
 | none=>
   have hn:=findN_none.1 hf
   simp only
   rw [if_neg,if_neg,insB_pos hg]
   ·intro ha
    obtain ⟨y,hy,hs⟩:=List.any_eq_true.1 ha
    unfold contraR at hs
    simp only [Bool.and_eq_true,decide_eq_true_eq] at hs
    exact hn y hy ⟨hs.2.2.1,hs.2.2.2.1⟩
   ·intro ha
    obtain ⟨y,hy,hs⟩:=List.any_eq_true.1 ha
    have hs:=of_decide_eq_true hs
    unfold Rc.sg at hs
    injection hs with s1 s2 s3 s4 s5 s6 s7
    exact hn y hy ⟨s1,s5⟩
def ofB (m:List Rc) (p:Pc):List Rc:=m.filter (isPc p)
def curB (m:List Rc) (p:Pc):Option Rc:=(ofB m p).getLast?
def relB (m:List Rc) (s:ByteArray):List Rc:=m.filter fun x=> !decide (x.str=s)
def carB (m:List Rc) (s:ByteArray) (n:Nat):List Int:=(List.range n).map fun (i:Nat)=>match curB m ⟨s,(i:Int)⟩ with | some r=>r.hol | none=> -1
theorem curB_some {m:List Rc} {p:Pc} {x:Rc} (h:curB m p=some x):x ∈ m∧x.pc=p:=by
 have h1:=List.mem_of_getLast? h
 obtain ⟨h2,h3⟩:=List.mem_filter.1 h1
 exact ⟨h2,of_decide_eq_true h3⟩
theorem ofB_ins {m:List Rc} (hg:GoodB m) (r:Rc) (p:Pc):ofB (insB m r) p=if r.pc=p then insB (ofB m p) r else ofB m p:=by
 unfold ofB
 rw [insB_filter hg]
 unfold isPc
 by_cases h:r.pc=p<;> simp [h]
def ltS (a b:ByteArray):Bool:=decide (a.toList<b.toList)
def ltP (a b:Rc):Bool:=ltS a.str b.str || (decide (a.str=b.str) && decide (a.ix<b.ix))
theorem ltS_trans {a b c:ByteArray} (h:ltS a b=true) (k:ltS b c=true):ltS a c=true:=decide_eq_true (List.lt_trans (of_decide_eq_true h) (of_decide_eq_true k))
theorem ltS_irrefl (a:ByteArray):ltS a a=false:=decide_eq_false (List.lt_irrefl _)
theorem ltS_total {a b:ByteArray} (h:a≠b):ltS a b=true∨ltS b a=true:=by
 unfold ltS
 simp only [decide_eq_true_eq]
 by_cases h1:a.toList<b.toList
 ·exact .inl h1
 ·by_cases h2:b.toList<a.toList
  ·exact .inr h2
  ·exact absurd ((tol_iff a b).1 (List.le_antisymm (List.not_lt.1 h2) (List.not_lt.1 h1))) h
theorem ltP_iff {a b:Rc}:ltP a b=true↔ltS a.str b.str=true∨a.str=b.str∧a.ix<b.ix:=by
 unfold ltP
 simp only [Bool.or_eq_true,Bool.and_eq_true,decide_eq_true_eq]
theorem ltP_trans {a b c:Rc} (h:ltP a b=true) (k:ltP b c=true):ltP a c=true:=by
 rw [ltP_iff] at h k ⊢
 rcases h with h | ⟨h1,h2⟩<;> rcases k with k | ⟨k1,k2⟩
 ·exact .inl (ltS_trans h k)
 ·exact .inl (by rw [← k1];exact h)
 ·exact .inl (by rw [h1];exact k)
 ·exact .inr ⟨h1.trans k1,by omega⟩
theorem ltP_irrefl (a:Rc):ltP a a=false:=by
 rw [← Bool.not_eq_true,ltP_iff,ltS_irrefl]
 rintro (h | ⟨_,h⟩)
 ·cases h
 ·omega
theorem ltP_total {a b:Rc} (h:a.pc≠b.pc):ltP a b=true∨ltP b a=true:=by
 rw [ltP_iff,ltP_iff]
 by_cases hs:a.str=b.str
 ·have:a.ix≠b.ix:=fun e=>h (by unfold Rc.pc;rw [hs,e])
  rcases Int.lt_or_gt_of_ne this with h1 | h1
  ·exact .inl (.inr ⟨hs,h1⟩)
  ·exact .inr (.inr ⟨hs.symm,h1⟩)
 ·rcases ltS_total hs with h1 | h1
  ·exact .inl (.inl h1)
  ·exact .inr (.inl h1)
theorem ltP_anti {a b:Rc} (h:ltP a b=true):ltP b a=false:=by
 cases hb:ltP b a with
 | false=>rfl
 | true=>
   have:=ltP_trans h hb
   rw [ltP_irrefl] at this
   cases this
def isCur (m:List Rc) (h:Int) (x:Rc):Bool:=decide (x.hol=h) && (match curB m x.pc with | some r=>sameN r x | none=>false)
def curs (m:List Rc) (h:Int):List Rc:=m.filter (isCur m h)
theorem mem_curs {m:List Rc} (hg:GoodB m) {h:Int} {x:Rc}:x ∈ curs m h↔x ∈ m∧x.hol=h∧curB m x.pc=some x:=by
 unfold curs
 rw [List.mem_filter]
 unfold isCur
 simp only [Bool.and_eq_true,decide_eq_true_eq]
 constructor
 ·rintro ⟨h1,h2,h3⟩
  cases hc:curB m x.pc with
  | none=>rw [hc] at h3;cases h3
  | some r=>
    rw [hc] at h3
    obtain ⟨h4,h5⟩:=curB_some hc
    have:=hg.uniq h4 h1 (sameN_iff.1 h3)
    subst this
    exact ⟨h1,h2,rfl⟩
 ·rintro ⟨h1,h2,h3⟩
  rw [h3]
  exact ⟨h1,h2,sameN_iff.2 ⟨rfl,rfl⟩⟩
theorem curs_nodup {m:List Rc} (hg:GoodB m) (h:Int):(curs m h).Nodup:=(hg.filter _).nodup
theorem curs_apart {m:List Rc} (hg:GoodB m) {h:Int} {x y:Rc} (hx:x ∈ curs m h) (hy:y ∈ curs m h) (he:x.pc=y.pc):x=y:=by
 have h1:=((mem_curs hg).1 hx).2.2
 have h2:=((mem_curs hg).1 hy).2.2
 rw [he,h2] at h1
 exact (Option.some.inj h1).symm
def insP (l:List Rc) (x:Rc):List Rc:=l.takeWhile (fun y=>ltP y x)++x::l.dropWhile (fun y=>ltP y x)
def holdB (m:List Rc) (h:Int):List Rc:=(curs m h).foldl insP []
theorem insP_perm (l:List Rc) (x:Rc):(insP l x).Perm (x::l):=by
 unfold insP
 refine List.perm_middle.trans (List.Perm.cons x ?_)
 rw [List.takeWhile_append_dropWhile]
theorem fold_perm (l:List Rc): ∀a:List Rc,(l.foldl insP a).Perm (a++l):=by
 induction l with
 | nil=>intro a;rw [List.append_nil];exact .refl _
 | cons x l ih=>
   intro a
   refine (ih _).trans (((insP_perm a x).append_right l).trans ?_)
   exact List.perm_middle.symm
theorem holdB_perm (m:List Rc) (h:Int):(holdB m h).Perm (curs m h):=fold_perm _ []
theorem takeW_all {α:Type} {p:α→Bool}: ∀{l:List α} {x:α},x ∈ l.takeWhile p→p x=true
 | [],x,h=>by simp at h
 | y::l,x,h=>by
   rw [List.takeWhile_cons] at h
   split at h
   ·rcases List.mem_cons.1 h with e | e
    ·rw [e];assumption
    ·exact takeW_all e
   ·simp at h
theorem insP_sorted {l:List Rc} {x:Rc} (hs:l.Pairwise (fun a b=>ltP a b=true)) (hn: ∀y ∈ l,y.pc≠x.pc):(insP l x).Pairwise (fun a b=>ltP a b=true):=by
 unfold insP
 rw [List.pairwise_append,List.pairwise_cons]
 have hd: ∀b ∈ l.dropWhile (fun y=>ltP y x),ltP x b=true:=by
  induction l with
  | nil=>intro b hb;simp at hb
  | cons y l ih=>
    obtain ⟨h1,h2⟩:=List.pairwise_cons.1 hs
    rw [List.dropWhile_cons]
    split
    ·exact ih h2 (fun z hz=>hn z (List.mem_cons_of_mem _ hz))
    ·rename_i hf
     have hxy:ltP x y=true:=(ltP_total (hn y (List.mem_cons_self ..))).resolve_left hf
     intro b hb
     rcases List.mem_cons.1 hb with e | e
     ·rw [e];exact hxy
     ·exact ltP_trans hxy (h1 b e)
 refine ⟨hs.sublist (List.takeWhile_sublist _),⟨hd,hs.sublist (List.dropWhile_sublist _)⟩,fun a ha b hb=> ?_⟩
 have h1:=takeW_all ha
 rcases List.mem_cons.1 hb with e | e
 ·rw [e];exact h1
 ·exact ltP_trans h1 (hd b e)
theorem fold_sorted (l:List Rc): ∀a:List Rc,a.Pairwise (fun a b=>ltP a b=true)→(a++l).Pairwise (fun a b=>a.pc≠b.pc)→(l.foldl insP a).Pairwise (fun a b=>ltP a b=true):=by
 induction l with
 | nil=>intro a h _;exact h
 | cons x l ih=>
   intro a h hn
   obtain ⟨h1,h2,h3⟩:=List.pairwise_append.1 hn
   obtain ⟨h4,h5⟩:=List.pairwise_cons.1 h2
   refine ih _ (insP_sorted h (fun y hy=>h3 y hy x (List.mem_cons_self ..))) ?_
   rw [List.pairwise_append]
   refine ⟨((insP_perm a x).symm.pairwise_iff (fun {_ _} e=>Ne.symm e)).1 (List.pairwise_cons.2 ⟨fun y hy=>(h3 y hy x (List.mem_cons_self ..)).symm,h1⟩),h5,fun y hy z hz=> ?_⟩
   rcases List.mem_cons.1 ((insP_perm a x).mem_iff.1 hy) with e | e
   ·rw [e];exact h4 z hz
   ·exact h3 y e z (List.mem_cons_of_mem _ hz)
theorem curs_pcs {m:List Rc} (hg:GoodB m) (h:Int):(curs m h).Pairwise (fun a b=>a.pc≠b.pc):=by
 refine List.Pairwise.imp_of_mem ?_ (curs_nodup hg h)
 intro a b ha hb hne he
 exact hne (curs_apart hg ha hb he)
theorem holdB_sorted {m:List Rc} (hg:GoodB m) (h:Int):(holdB m h).Pairwise (fun a b=>ltP a b=true):=fold_sorted _ [] .nil (by rw [List.nil_append];exact curs_pcs hg h)
theorem holdB_eq {m:List Rc} (hg:GoodB m) {h:Int} {l:List Rc} (hp:l.Perm (curs m h)) (hs:l.Pairwise (fun a b=>ltP a b=true)):l=holdB m h:=by
 refine List.Perm.eq_of_pairwise (le:=fun a b=>ltP a b=true) ?_ hs (holdB_sorted hg h) (hp.trans (holdB_perm m h).symm)
 intro a b _ _ h1 h2
 rw [ltP_anti h1] at h2
 cases h2
def sumV (v:Int):List Rc→Int
 | []=>0
 | x::l=>(if x.vlt=v then x.sz else 0)+sumV v l
theorem sumV_perm {v:Int} {l l':List Rc} (h:l.Perm l'):sumV v l=sumV v l':=by
 induction h with
 | nil=>rfl
 | cons x _ ih=>simp only [sumV,ih]
 | swap x y l=>simp only [sumV];omega
 | trans _ _ h1 h2=>exact h1.trans h2
theorem sumV_snoc (v:Int) (l:List Rc) (x:Rc):sumV v (l++[x])=sumV v l+(if x.vlt=v then x.sz else 0):=by
 rw [sumV_perm List.perm_append_comm]
 simp only [List.singleton_append,sumV]
 omega
def bytesB (m:List Rc) (h v:Int):Int:=sumV v (holdB m h)
theorem bytesB_eq {m:List Rc} {h v:Int} {l:List Rc} (hp:l.Perm (curs m h)):sumV v l=bytesB m h v:=sumV_perm (hp.trans (holdB_perm m h).symm)
theorem sumV_bound {v:Int} {l:List Rc} (h: ∀x ∈ l,ValidR x):0≤sumV v l∧sumV v l≤65536*l.length:=by
 induction l with
 | nil=>simp [sumV]
 | cons x l ih=>
   obtain ⟨h1,h2⟩:=ih (fun y hy=>h y (List.mem_cons_of_mem _ hy))
   have h3:=(h x (List.mem_cons_self ..)).gd.s0
   have h4:=(h x (List.mem_cons_self ..)).gd.s1
   simp only [sumV,List.length_cons]
   split<;> omega
def Seen (m:List Rc) (h:Int) (P:Pc→Prop) (L:List Rc):Prop:=L.Nodup∧ ∀x,x ∈ L↔(x ∈ curs m h∧ ¬P x.pc)
theorem seen_start {m:List Rc} {h:Int} {P:Pc→Prop} (hP: ∀x ∈ m,P x.pc):Seen m h P []:=⟨.nil,fun x=>⟨fun hx=>by simp at hx,fun hx=>absurd (hP x (List.mem_filter.1 hx.1).1) hx.2⟩⟩
theorem seen_hit {m:List Rc} (hg:GoodB m) {h:Int} {P:Pc→Prop} {L:List Rc} (hs:Seen m h P L) {p:Pc} (hp:P p) {x:Rc} (hc:curB m p=some x) (hx:x.hol=h):Seen m h (fun q=>P q∧q≠p) (L++[x]):=by
 obtain ⟨h1,h2⟩:=hs
 obtain ⟨h3,h4⟩:=curB_some hc
 have hxc:x ∈ curs m h:=(mem_curs hg).2 ⟨h3,hx,by rw [h4];exact hc⟩
 refine ⟨List.nodup_append.2 ⟨h1,by simp,fun a ha b hb e=> ?_⟩,fun y=> ?_⟩
 ·rw [List.mem_singleton] at hb
  subst hb
  subst e
  exact ((h2 a).1 ha).2 (by rw [h4];exact hp)
 ·rw [List.mem_append,List.mem_singleton,h2]
  constructor
  ·rintro (⟨a,b⟩ | e)
   ·exact ⟨a,fun c=>b c.1⟩
   ·subst e
    exact ⟨hxc,fun c=>c.2 h4⟩
  ·rintro ⟨a,b⟩
   by_cases hq:y.pc=p
   ·exact .inr (curs_apart hg a hxc (hq.trans h4.symm))
   ·exact .inl ⟨a,fun c=>b ⟨c,hq⟩⟩
theorem seen_miss {m:List Rc} (hg:GoodB m) {h:Int} {P:Pc→Prop} {L:List Rc} (hs:Seen m h P L) {p:Pc} (hc: ∀x,curB m p=some x→x.hol≠h):Seen m h (fun q=>P q∧q≠p) L:=by
 obtain ⟨h1,h2⟩:=hs
 refine ⟨h1,fun y=> ?_⟩
 rw [h2]
 constructor
 ·rintro ⟨a,b⟩
  exact ⟨a,fun c=>b c.1⟩
 ·rintro ⟨a,b⟩
  refine ⟨a,fun c=>b ⟨c,fun e=> ?_⟩⟩
  obtain ⟨_,h3,h4⟩:=(mem_curs hg).1 a
  exact hc y (by rw [← e];exact h4) h3
end Go.Proofs.YtndlihclgdkpaaaGreatDoor
namespace Go.Proofs.YtndlihclgdkpaaaGreatDoor
open Go.RowKit
open Kit (Chg)
open Go.Maps
open Go.WideMaps
open Go.Proofs.YtndlihclgdkpaaaGreatDoor.One

section
variable {P:Program} {k:TypeId}
def rvQ (v:Value):Option (DataW Value × List MemPlace):=some (.held v,[])
def SpecV (P:Program) (k:TypeId) (D:DataW Value) (f:Value→Option Value):Prop:= ∀key kl,keyOf P k key=some kl→Maps.has D kl=(f key).isSome∧ ∀v,f key=some v→ ∀z,D.atKey kl z= .held v
def MapV (P:Program) (k:TypeId) (w:World) (b n:Nat) (f:Value→Option Value):Prop:= ∃D:DataW Value,w.ownsMap P k rvQ b n D∧SpecV P k D f
theorem MapV.start (w:World):MapV P k (w.alloc (.map #[] 0)) w.heap.size 0 (fun _=>none):=
 ⟨.map [],World.ownsMap_made w P k rvQ,fun _ _ _=>⟨rfl,fun v h=>by cases h⟩⟩
theorem MapV.lt {w:World} {b n:Nat} {f:Value→Option Value} (h:MapV P k w b n f):b<w.heap.size:=by
 obtain ⟨D,h,_⟩:=h
 exact h.lt
theorem MapV.keep {w w':World} {b n:Nat} {f:Value→Option Value} (h:MapV P k w b n f) (he:w'.heap[b]? =w.heap[b]?):MapV P k w' b n f:=by
 obtain ⟨D,⟨es,clock,hb,F,hs,hD⟩,h2⟩:=h
 exact ⟨D,⟨es,clock,he.trans hb,F,hs,hD⟩,h2⟩
theorem MapV.later {w w':World} {b n:Nat} {f:Value→Option Value} (h:MapV P k w b n f) (hb:Below w.heap.size w w'):MapV P k w' b n f:=h.keep (hb.block b h.lt)
theorem MapV.isMap {w:World} {b n:Nat} {f:Value→Option Value} (h:MapV P k w b n f): ∃es c,w.heap[b]? =some (.map es c):=by
 obtain ⟨D,⟨es,clock,hb,_⟩,_⟩:=h
 exact ⟨es,clock,hb⟩
theorem MapV.mono {w:World} {b n n':Nat} {f:Value→Option Value} (h:MapV P k w b n f) (hn:n≤n'):MapV P k w b n' f:=by
 obtain ⟨D,h,h2⟩:=h
 exact ⟨D,h.mono hn,h2⟩
theorem MapV.congr {w:World} {b n:Nat} {f g:Value→Option Value} (h:MapV P k w b n f) (he: ∀key kl,keyOf P k key=some kl→g key=f key):MapV P k w b n g:=by
 obtain ⟨D,h,h2⟩:=h
 exact ⟨D,h,fun key kl hk=>by rw [he key kl hk];exact h2 key kl hk⟩
theorem specV_get {D:DataW Value} {f:Value→Option Value} (h2:SpecV P k D f) {key:Value} {kl:Lit} (hk:keyOf P k key=some kl) {v z:Value} {ps:List MemPlace} (hv:rvQ v=some (D.atKey kl (.held z),ps)):v=(f key).getD z:=by
 obtain ⟨k1,k2⟩:=h2 key kl hk
 unfold rvQ at hv
 have e:DataW.held v=D.atKey kl (.held z):=congrArg Prod.fst (Option.some.inj hv)
 cases hf:f key with
 | none=>
   rw [hf] at k1
   rw [Maps.atKey_of_not_has k1] at e
   injection e
 | some u=>
   rw [k2 u hf] at e
   injection e
theorem MapV.look {t e:TypeId} {w:World} {b n:Nat} {f:Value→Option Value} (h:MapV P k w b n f) (K:Keyed P k) (ht:P.underlying t=some (.map k e)) {z:Value} (hz:(zeroValue e).run P w= .ok z w) {key:Value} {kl:Lit} (hk:keyOf P k key=some kl):
    (Instr.lookup t (.map (some b)) key true).run P w= .ok (.tuple #[(f key).getD z,.bool (f key).isSome]) w:=by
 obtain ⟨D,h1,h2⟩:=h
 obtain ⟨v,ps,hrun,hv⟩:=h1.look_ok K ht hz (zd:= .held z) (zp:=[]) rfl hk
 rw [hrun,specV_get h2 hk hv,(h2 key kl hk).1]
theorem MapV.look1 {t e:TypeId} {w:World} {b n:Nat} {f:Value→Option Value} (h:MapV P k w b n f) (K:Keyed P k) (ht:P.underlying t=some (.map k e)) {z:Value} (hz:(zeroValue e).run P w= .ok z w) {key:Value} {kl:Lit} (hk:keyOf P k key=some kl):
    (Instr.lookup t (.map (some b)) key false).run P w= .ok ((f key).getD z) w:=by
 obtain ⟨D,h1,h2⟩:=h
 obtain ⟨v,ps,hrun,hv⟩:=h1.lookup K ht hz (zd:= .held z) (zp:=[]) rfl hk
 rw [hrun,specV_get h2 hk hv]
theorem specV_put {D:DataW Value} {f:Value→Option Value} (hD:IsMap D) (K:Keyed P k) (h2:SpecV P k D f) {key:Value} {kl:Lit} (hk:keyOf P k key=some kl) (v:Value) (g:Value→Option Value) (hg:g key=some v) (ho: ∀x l,keyOf P k x=some l→x≠key→g x=f x):SpecV P k (D.put kl (.held v)) g:=fun x l hx=>by
 by_cases e:x=key
 ·subst e
  rw [hk] at hx
  cases hx
  rw [hg]
  refine ⟨by rw [Maps.has_put_same hD (K.key hk)];rfl,fun u hu z=> ?_⟩
  cases hu
  exact Maps.atKey_put_same hD (K.key hk) _ _
 ·have hne:l≠kl:=fun h=>e (K.inj hx (h ▸ hk))
  rw [ho x l hx e]
  obtain ⟨k1,k2⟩:=h2 x l hx
  refine ⟨by rw [Maps.has_put_other hne];exact k1,fun u hu z=> ?_⟩
  rw [Maps.atKey_put_other hne]
  exact k2 u hu z
theorem MapV.put {t e:TypeId} {w:World} {b n:Nat} {f:Value→Option Value} (h:MapV P k w b n f) (K:Keyed P k) (ht:P.underlying t=some (.map k e)) (hn:n<maxLen) {key:Value} {kl:Lit} (hk:keyOf P k key=some kl) (v:Value) (g:Value→Option Value) (hg:g key=some v) (ho: ∀x l,keyOf P k x=some l→x≠key→g x=f x):
    ∃w',(Instr.mapUpdate t (.map (some b)) key v).run P w= .ok () w'∧MapV P k w' b (n+1) g∧w.grownBy w' (some b)∧w'.heap.size=w.heap.size:=by
 obtain ⟨D,h1,h2⟩:=h
 obtain ⟨w',hrun,h3,h4⟩:=h1.store K ht hn hk (val:=v) (d:= .held v) (ps:=[]) rfl
 refine ⟨w',hrun,⟨_,h3,specV_put h1.isMap K h2 hk v g hg ho⟩,h4.grown,?_⟩
 obtain ⟨es,clock,es',clock',hb,rfl⟩:=h4
 simp [ChangeMaps.setBlock]
theorem MapV.del {t e:TypeId} {w:World} {b n:Nat} {f:Value→Option Value} (h:MapV P k w b n f) (K:Keyed P k) (ht:P.underlying t=some (.map k e)) {key:Value} {kl:Lit} (hk:keyOf P k key=some kl) (ty:TypeId) (g:Value→Option Value) (hg:g key=none) (ho: ∀x l,keyOf P k x=some l→x≠key→g x=f x):
    ∃w',(Builtin.delete_ #[t,k] ty #[.map (some b),key]).run P w= .ok (.tuple #[]) w'∧MapV P k w' b n g∧w.grownBy w' (some b)∧w'.heap.size=w.heap.size:=by
 obtain ⟨D,h1,h2⟩:=h
 obtain ⟨w',hrun,h3,h4⟩:=h1.drop K ht hk ty
 refine ⟨w',hrun,⟨_,h3,fun x l hx=> ?_⟩,h4.grown,?_⟩
 ·by_cases e:x=key
  ·subst e
   rw [hk] at hx
   cases hx
   rw [hg]
   exact ⟨by rw [Maps.has_del_same];rfl,fun u hu=>by cases hu⟩
  ·have hne:l≠kl:=fun h=>e (K.inj hx (h ▸ hk))
   rw [ho x l hx e]
   obtain ⟨k1,k2⟩:=h2 x l hx
   refine ⟨by rw [Maps.has_del_other hne];exact k1,fun u hu z=> ?_⟩
   rw [Maps.atKey_del_other hne]
   exact k2 u hu z
 ·obtain ⟨es,clock,es',clock',hb,rfl⟩:=h4
  simp [ChangeMaps.setBlock]
def RangeV (P:Program) (k:TypeId) (w:World) (b r n:Nat) (f:Value→Option Value) (lf:Value→Prop) (cnt:Nat):Prop:= ∃D left,w.ranges P k rvQ b r n D left cnt∧SpecV P k D f∧ ∀key kl,keyOf P k key=some kl→(left kl=true↔lf key)
theorem RangeV.keep {w w':World} {b r n cnt:Nat} {f:Value→Option Value} {lf:Value→Prop} (h:RangeV P k w b r n f lf cnt) (hb:w'.heap[b]? =w.heap[b]?) (hr:w'.heap[r]? =w.heap[r]?):RangeV P k w' b r n f lf cnt:=by
 obtain ⟨D,left,⟨es,clock,since,seen,c0,h1,h2,h3,h4,h5,h6⟩,hs,hl⟩:=h
 exact ⟨D,left,⟨es,clock,since,seen,c0,hb.trans h1,h2,h3,h4,hr.trans h5,h6⟩,hs,hl⟩
theorem RangeV.lt {w:World} {b r n cnt:Nat} {f:Value→Option Value} {lf:Value→Prop} (h:RangeV P k w b r n f lf cnt):b<w.heap.size∧r<w.heap.size:=by
 obtain ⟨D,left,h,_⟩:=h
 exact ⟨h.owns.lt,h.lt⟩
theorem RangeV.later {w w':World} {b r n cnt:Nat} {f:Value→Option Value} {lf:Value→Prop} (h:RangeV P k w b r n f lf cnt) (hb:Below w.heap.size w w'):RangeV P k w' b r n f lf cnt:=h.keep (hb.block b h.lt.1) (hb.block r h.lt.2)
theorem RangeV.left_eq {w:World} {b r n cnt:Nat} {f:Value→Option Value} {lf:Value→Prop} (h:RangeV P k w b r n f lf cnt):w.rangeLeft b r=cnt:=by
 obtain ⟨D,left,h,_⟩:=h
 exact h.left_eq
theorem MapV.range {t e:TypeId} {w:World} {b n:Nat} {f:Value→Option Value} (h:MapV P k w b n f) (K:Keyed P k) (ht:P.underlying t=some (.map k e)):
    ∃w',(Instr.range t (.map (some b))).run P w= .ok (.pointer (some ⟨w.heap.size,0,none⟩)) w'∧(∃cnt,RangeV P k w' b w.heap.size n f (fun x=>(f x).isSome=true) cnt)∧Below w.heap.size w w'∧w'.heap.size=w.heap.size+1:=by
 obtain ⟨D,h1,h2⟩:=h
 obtain ⟨w',r1,r2,r3,r4⟩:=h1.range K ht
 exact ⟨w',r1,⟨_,D,_,r2,h2,fun key kl hk=>by rw [(h2 key kl hk).1]⟩,⟨r3.os,r3.tape,r3.output,r3.size,fun i hi=>r3.block i hi (by simp)⟩,r4⟩
theorem RangeV.next {w:World} {b r n cnt:Nat} {f:Value→Option Value} {lf:Value→Prop} (h:RangeV P k w b r n f lf cnt) (K:Keyed P k) (ty:TypeId):
    ((∀key kl,keyOf P k key=some kl→ ¬lf key)∧(Instr.next (.pointer (some ⟨r,0,none⟩)) false ty).run P w= .ok (.tuple #[.bool false]) w)∨
    ∃key kl v w' cnt',keyOf P k key=some kl∧lf key∧f key=some v∧(Instr.next (.pointer (some ⟨r,0,none⟩)) false ty).run P w= .ok (.tuple #[.bool true,key,v]) w'∧RangeV P k w' b r n f (fun x=>lf x∧x≠key) cnt'∧cnt'<cnt∧w.grownBy w' (some r)∧w'.heap.size=w.heap.size∧(Instr.entry (.pointer (some ⟨r,0,none⟩))).run P w'= .ok (.tuple #[key,v]) w':=by
 obtain ⟨D,left,h1,h2,h3⟩:=h
 rcases h1.next K ty with ⟨_,h4,h5⟩ | ⟨key,v,kl,y,w',cnt',e1,e2,e3,e4,e5,e6,e7,e8,e9,e10⟩
 ·exact .inl ⟨fun key kl hk hl=>(by have:=(h3 key kl hk).2 hl;rw [h4 kl] at this;cases this),h5⟩
 ·have hv:y=(.held v,[]):=by unfold rvQ at e3;exact (Option.some.inj e3).symm
  have hf:f key=some v:=by
   obtain ⟨k1,k2⟩:=h2 key kl e1
   rw [Maps.has_true_of_atKey e4] at k1
   obtain ⟨u,hu⟩:=Option.isSome_iff_exists.1 k1.symm
   have h5:=k2 u hu (.held v)
   rw [e4,hv] at h5
   injection h5 with h5
   rw [hu,← h5]
  refine .inr ⟨key,kl,v,w',cnt',e1,(h3 key kl e1).1 e2,hf,e5,⟨D,_,e6,h2,fun x l hx=> ?_⟩,e7,e8,e9,e10⟩
  simp only [Bool.and_eq_true,Bool.not_eq_true']
  constructor
  ·rintro ⟨a1,a2⟩
   refine ⟨(h3 x l hx).1 a1,fun e=> ?_⟩
   subst e
   rw [e1] at hx
   cases hx
   rw [WideAt.sameKey_self (K.key e1)] at a2
   cases a2
  ·rintro ⟨a1,a2⟩
   refine ⟨(h3 x l hx).2 a1,?_⟩
   cases hc:l.sameKey kl with
   | false=>rfl
   | true=>exact absurd (K.inj hx ((WideAt.sameKey_eq hc) ▸ e1)) a2
end

theorem Tryz.laidQ:laidOutB Tryz.prog=true:=by kernel_rfl
theorem pieceKeyed:Keyed Tryz.prog 42 :=Keyed.of_law (deep_law_laid Tryz.laidQ (m:=3) (by omega) (of_decide_eq_true (by kernel_rfl)) (by kernel_rfl) (by kernel_rfl))
theorem numberKeyed:Keyed Tryz.prog 200 :=Keyed.of_law (deep_law_laid Tryz.laidQ (m:=3) (by omega) (of_decide_eq_true (by kernel_rfl)) (by kernel_rfl) (by kernel_rfl))
theorem pieceDeep: Tryz.prog.keyType 42 =true:=by kernel_rfl
theorem numberDeep: Tryz.prog.keyType 200 =true:=by kernel_rfl
def pieceV (s:ByteArray) (i:Int):Value:= .agg #[.string s,.int .i64 i]
def numberV (h s:Int):Value:= .agg #[.int .i64 h,.int .i64 s]
theorem pieceV_inj {s s':ByteArray} {i i':Int} (h:pieceV s i=pieceV s' i'):s=s'∧i=i':=by
 unfold pieceV at h
 injection h with h
 have:=congrArg Array.toList h
 simp at this
 exact this
theorem wf64 {i:Int} (h0: -9223372036854775808≤i) (h1:i≤9223372036854775807):(Lit.int .i64 i).wf=true:=WalkArith.wf_i64 ⟨h0,h1⟩
theorem keyLits_two {P:Program} {t:TypeId} {f1 f2:Field} {m:Nat} (hu:P.underlying t=some (.struct #[f1,f2])) (hc:P.cellsOf t=2) (n1:(f1.name != "_")=true) (n2:(f2.name != "_")=true) (o1:f1.offset=0) (o2:f2.offset=1) (c1:P.cellsOf f1.type=1) (c2:P.cellsOf f2.type=1) (a b:Value):
    P.keyLits (m+1+1) t [a,b]=(P.keyLits (m+1) f1.type [a]).bind fun x=>(P.keyLits (m+1) f2.type [b]).bind fun y=>some (x++y):=by
 conv=>lhs;unfold Program.keyLits
 rw [hu]
 dsimp only
 rw [if_pos ⟨by rw [hc];rfl,by simp [n1,n2]⟩]
 simp only [List.mapM_cons,List.mapM_nil,o1,o2,c1,c2,List.drop_zero,List.take_succ_cons,List.take_zero,List.drop_succ_cons]
 cases P.keyLits (m+1) f1.type [a] with
 | none=>rfl
 | some x=>
   cases P.keyLits (m+1) f2.type [b] with
   | none=>rfl
   | some y=>simp
theorem keyLits_str {P:Program} {t:TypeId} {m:Nat} (hu:P.underlying t=some .string) (v:Value):P.keyLits (m+1) t [v]=match v with | .string s=>if s.size≤maxLen then some [.string s.data.toList] else none | _=>none:=by
 unfold Program.keyLits
 rw [hu]
 cases v<;> rfl
theorem keyLits_int {P:Program} {t:TypeId} {m:Nat} {q:IntKind} (hu:P.underlying t=some (.int q)) (v:Value):P.keyLits (m+1) t [v]=match v with | .int q' n=>if q'=q∧(Lit.int q n).wf=true then some [.int q n] else none | _=>none:=by
 unfold Program.keyLits
 rw [hu]
 cases v<;> rfl
theorem Tryz.sizeT: ∃m,Tryz.prog.types.size+1=m+1+1:=⟨Tryz.prog.types.size - 1,by have:2≤ Tryz.prog.types.size:=of_decide_eq_true (by kernel_rfl);omega⟩
theorem keyOf_two {P:Program} {t:TypeId} {fs:Array Field} (hu:P.underlying t=some (.struct fs)) (hk:P.keyType t=true) (hc:P.cellsOf t=2) (a b:Value):keyOf P t (.agg #[a,b])=((P.keyLits (P.types.size+1) t (Value.agg #[a,b]).cells.toList).map fun ls=> .string (keyBytes ls)):=by
 unfold keyOf
 rw [hu]
 have:(Value.agg #[a,b]).formed P t=true:=by unfold Value.formed;simp only [hu];rw [hc];rfl
 simp only [hk,this,Bool.and_self,if_true]
theorem keyOf_shape {P:Program} {t:TypeId} {fs:Array Field} (hu:P.underlying t=some (.struct fs)) (hc:P.cellsOf t=2) {v:Value} {l:Lit} (h:keyOf P t v=some l): ∃a b,v= .agg #[a,b]:=by
 unfold keyOf at h
 rw [hu] at h
 simp only at h
 split at h
 ·rename_i hf
  have hf:=(Bool.and_eq_true_iff.1 hf).2
  cases v with
  | agg cs=>
    unfold Value.formed at hf
    simp only [hu] at hf
    rw [hc] at hf
    obtain ⟨cs⟩:=cs
    match cs,hf with
    | [a,b],_=>exact ⟨a,b,rfl⟩
  | _=>unfold Value.formed at hf;simp [hu] at hf
 ·cases h
theorem agg_cells2 (a b:Value) (ha:a.cells= #[a]) (hb:b.cells= #[b]):(Value.agg #[a,b]).cells.toList=[a,b]:=rfl
theorem pieceKey {s:ByteArray} {i:Int} (hs:s.size≤maxLen) (hi:(Lit.int .i64 i).wf=true): ∃l,keyOf Tryz.prog 42 (pieceV s i)=some l:=by
 obtain ⟨m,hm⟩:= Tryz.sizeT
 unfold pieceV
 rw [keyOf_two Tryz.underlying42 pieceDeep (by kernel_rfl),hm,agg_cells2 _ _ rfl rfl,keyLits_two Tryz.underlying42 (by kernel_rfl) (by decide) (by decide) rfl rfl (by kernel_rfl) (by kernel_rfl),keyLits_str Tryz.underlying9,keyLits_int Tryz.underlying3]
 simp only [hs,hi,and_self,if_true]
 exact ⟨_,rfl⟩
theorem numberKey {h s:Int} (hh:(Lit.int .i64 h).wf=true) (hs:(Lit.int .i64 s).wf=true): ∃l,keyOf Tryz.prog 200 (numberV h s)=some l:=by
 obtain ⟨m,hm⟩:= Tryz.sizeT
 unfold numberV
 rw [keyOf_two Tryz.underlying200 numberDeep (by kernel_rfl),hm,agg_cells2 _ _ rfl rfl,keyLits_two Tryz.underlying200 (by kernel_rfl) (by decide) (by decide) rfl rfl (by kernel_rfl) (by kernel_rfl),keyLits_int Tryz.underlying3,keyLits_int Tryz.underlying3]
 simp only [hh,hs,and_self,if_true]
 exact ⟨_,rfl⟩
theorem pieceInv {key:Value} {l:Lit} (h:keyOf Tryz.prog 42 key=some l): ∃s i,key=pieceV s i∧s.size≤maxLen∧(Lit.int .i64 i).wf=true:=by
 obtain ⟨m,hm⟩:= Tryz.sizeT
 obtain ⟨a,b,rfl⟩:=keyOf_shape Tryz.underlying42 (by kernel_rfl) h
 rw [keyOf_two Tryz.underlying42 pieceDeep (by kernel_rfl),hm] at h
 have hc:(Value.agg #[a,b]).cells.toList=[a,b]:=rfl
 rw [hc,keyLits_two Tryz.underlying42 (by kernel_rfl) (by decide) (by decide) rfl rfl (by kernel_rfl) (by kernel_rfl),keyLits_str Tryz.underlying9,keyLits_int Tryz.underlying3] at h
 cases a with
 | string s=>
   cases b with
   | int q i=>
     simp only at h
     by_cases h1:s.size≤maxLen
     ·by_cases h2:q= .i64∧(Lit.int .i64 i).wf=true
      ·obtain ⟨rfl,h2⟩:=h2
       exact ⟨s,i,rfl,h1,h2⟩
      ·rw [if_pos h1,if_neg h2] at h;cases h
     ·rw [if_neg h1] at h;cases h
   | _=>simp only at h;by_cases h1:s.size≤maxLen<;> simp [h1] at h
 | _=>simp at h
end Go.Proofs.YtndlihclgdkpaaaGreatDoor
namespace Go.Proofs.YtndlihclgdkpaaaGreatDoor
open Go.RowKit
open Kit (Chg)
open Go.Proofs.YtndlihclgdkpaaaGreatDoor.One

def rcv (xs:List RcV):List Value:=xs.flatMap RcV.cells
theorem rcv_len (xs:List RcV):(rcv xs).length=xs.length*14:=rw_len RcV.len xs
theorem rcv_app (xs ys:List RcV):rcv (xs++ys)=rcv xs++rcv ys:=List.flatMap_append
theorem rcv_one (xs:List RcV): ∀v ∈ rcv xs,v.oneCell'=true:=fun v h=>by
 obtain ⟨x,_,hx⟩:=List.mem_flatMap.1 h
 exact x.one v hx
theorem rcv_single (x:RcV):rcv [x]=x.cells:=List.append_nil _
theorem rcv_get (xs:List RcV) {j:Nat} {u:Value} (h:(rcv xs)[j]? =some u): ∃(k:Nat) (hk:k<xs.length),j=k*14+j % 14∧xs[k].cells[j % 14]? =some u:=by
 have hj:j<xs.length*14:=by rw [← rcv_len];exact (List.getElem?_eq_some_iff.1 h).1
 have hk:j/14<xs.length:=by omega
 refine ⟨j/14,hk,by omega,?_⟩
 have h1:=rw_get RcV.len xs (j/14) hk (j % 14) (by omega)
 rw [show j/14*14+j % 14=j by omega] at h1
 rw [← h1]
 exact h
theorem RowN.rcs {w:World} {bl cap:Nat} {xs:List RcV} (h:RowN RcV.cells 14 47 w bl cap xs) (hok: ∀x ∈ xs,x.ok w) (i m:Nat) (him:i+m≤xs.length):RcsAt w (some ⟨bl,i*14,none⟩) ((xs.drop i).take m):=by
 refine ⟨.inr ⟨bl,i*14,rfl,fun k hk j hj=> ?_⟩,fun x hx=>hok x (List.mem_of_mem_drop (List.mem_of_mem_take hx))⟩
 have hk2:k<m∧k<xs.length - i:=by
  rw [List.length_take,List.length_drop] at hk
  omega
 have h1:=(h.cells RcV.len (i+k) (by omega)).1 j hj
 rw [show i*14+k*14+j=(i+k)*14+j by omega,h1]
 congr 1
 simp
theorem RowN.rcsAll {w:World} {bl cap:Nat} {xs:List RcV} (h:RowN RcV.cells 14 47 w bl cap xs) (hok: ∀x ∈ xs,x.ok w):RcsAt w (some ⟨bl,0,none⟩) xs:=by
 have h1:=h.rcs hok 0 xs.length (by omega)
 rw [List.drop_zero,List.take_length,Nat.zero_mul] at h1
 exact h1
section
variable {ops:Array Oper} {rest:List Oper} {o:Oper} {a:Act} {Q:Exit→Act→World→Prop}
theorem app_rc {w0:World} (hgd:o.guard=none) (s x:Operand) (ho:o.op= .call { callee:= .builtin .append,args:= #[s,x],argTypes:= #[32, 32] })
    (base:Nat) (v:Value) (L:Nat) (xs:List RcV) (hs:a.eval s=v) (hown:w0.ownsRow base 47 14 v L (rcv xs)) (hb:base≤w0.heap.size) (hL:L≤1000000)
    (y:RcV) (ad:Addr) (c:Nat) (hx:a.eval x= .slice (some ad) 1 c) (hsrc: ∀j u,y.cells[j]? =some u→w0.cell? (ad.add j)=some u)
    (h: ∀bl cap w',w'.ownsRow base 47 14 (.slice (some ⟨bl,0,none⟩) (L+1) cap) (L+1) (rcv (xs++[y]))→w0.grownBy w' v.ownBlock→(some bl=v.ownBlock∨bl=w0.heap.size)→wpList Tryz.prog ops Q rest (a.put o.dst (.slice (some ⟨bl,0,none⟩) (L+1) cap)) w'):wpList Tryz.prog ops Q (o::rest) a w0:=by
 obtain ⟨i0,hi,hz0,hz1,hz2⟩:=info_parts Tryz.infoRc
 refine wpList_append_own_at _ hgd s x 32 ho base 47 i0 _ 14 176 Tryz.underlying32 hi hz0 hz1 hz2 rfl (by decide) v L (rcv xs) hs hown ad 1 c (rcv [y]) hx (rcv_len _) (fun j u hu=>hsrc j u (by rw [← rcv_single];exact hu)) (rcv_one _) (by unfold maxLen;omega) (by omega) hb ?_
 intro v' w4 hown4 hgr4 _ hat
 obtain ⟨bl,cap,rfl⟩:=own_some hown4 (Nat.succ_pos _)
 refine h bl cap w4 (by rw [rcv_app];exact hown4) hgr4 ?_
 rcases hat with h | h
 ·exact .inl h
 ·injection h with h
  exact .inr h
end
theorem run_copy_rowN {P:Program} (w:World) (dT sT ty elem:TypeId) (g o dLen dCap:Nat) (a:Addr) (sLen sCap size n:Nat) (cur:Array Value) (t:TypeId) (cs:List Value)
    (hu:P.underlying dT=some (.slice elem)) (hs:(P.info? elem).map (·.size)=some size)
    (hg:w.heap[g]? =some (.cells cur t (0,0))) (hmin:Nat.min sLen dLen=n) (hn:cs.length=n*size)
    (hsrc: ∀j v,cs[j]? =some v→w.cell? (a.add j)=some v) (hfit:o+cs.length≤cur.size) (h1: ∀v ∈ cs,v.oneCell'=true):
    (Builtin.copy_ #[dT,sT] ty #[.slice (some ⟨g,o,none⟩) dLen dCap,.slice (some a) sLen sCap]).run P w=
      .ok (goInt n) (w.setRow g (cur.toList.take o++cs++cur.toList.drop (o+cs.length)).toArray):=by
 have hl:=run_loadCells_list (P:=P) w a cs hsrc
 have hst:=run_storeCells_at P g o t cs 0 cur w hg (by simpa using hfit) h1
 cases hq:P.info? elem with
 | none=>simp [hq] at hs
 | some i=>
   have hi:i.size=size:=by simpa [hq] using hs
   simp [Builtin.copy_,run_underlying hu,Builtin.lenOf,Builtin.firstCells,sizeOf,typeInfo,hq,hi,hmin,← hn,hl,hst]
end Go.Proofs.YtndlihclgdkpaaaGreatDoor
namespace Go.Proofs.YtndlihclgdkpaaaGreatDoor
open Go.RowKit
open Kit (Chg)
open Sha (v)
open Go.Proofs.YtndlihclgdkpaaaGreatDoor.One

theorem wpList_copyRun {P:Program} (w:World) {ops:Array Oper} {rest:List Oper} {o:Oper} {a:Act} {Q:Exit→Act→World→Prop} (hgd:o.guard=none) (d s:Operand) (t t':TypeId)
    (ho:o.op= .call { callee:= .builtin .copy,args:= #[d,s],argTypes:= #[t,t'] }) (v u:Value) (hd:a.eval d=v) (hs:a.eval s=u) {v':Value} {w':World}
    (hr:(Builtin.copy_ #[t,t'] o.type #[v,u]).run P w= .ok v' w') (h:wpList P ops Q rest (a.put o.dst v') w'):wpList P ops Q (o::rest) a w:=
 wpList_plain hgd fun _ hK=>by
  unfold Oper.wp execOp
  simp only [ho,resolve,invoke,builtin,Sem.run_bind,Sem.run_pure,Result.andThen_ok,List.map_toArray,List.map_cons,List.map_nil,hd,hs,hr]
  exact hK _ _ h
theorem step_copyRun {P:Program} {ops:Array Oper} {o:Oper} {a:Act} {w:World} {K:Act→World→Prop} {Q:Exit→Act→World→Prop} {E:Prop}
    (hg:o.guard=none) (d x:Operand) (dT sT:TypeId) (hop:o.op=Op.call { callee:=Callee.builtin Builtin.copy,args:= #[d,x],argTypes:= #[dT,sT] })
    (v u:Value) (hd:a.eval d=v) (hx:a.eval x=u) {v':Value} {w':World} (hr:(Builtin.copy_ #[dT,sT] o.type #[v,u]).run P w= .ok v' w') (hK:K (a.put o.dst v') w'):
    if Region.wanted o (yielded ops a.tmps)=true then Oper.wp P o a w K Q else E:=by
 have hw:Region.wanted o (yielded ops a.tmps)=true:=by simp [Region.wanted,hg]
 rw [if_pos hw]
 unfold Oper.wp
 simp [execOp,hop,resolve,invoke,builtin,hd,hx,hr,Result.andThen]
 exact hK
theorem shape_of_row {w:World} {b:Nat} {cs:Array Value} {T:TypeId} {f:Nat × Nat} (h:w.heap[b]? =some (.cells cs T f)):w.shape? b=some (T,cs.size):=by
 unfold World.shape?
 rw [h]
theorem Tryz.sizeRc:(Tryz.prog.info? 47).map (·.size)=some 14:=by
 obtain ⟨i0,hi0,hz0,hz1,hz2⟩:=info_parts Tryz.infoRc
 rw [hi0]
 simp [hz1]
theorem ins_lists {α:Type} {A D R X:List α} {m k n:Nat} (hA:A.length=m) (hk:k≤(D++R).length) (hX:X.length=k) (hD:D.length=n):
    ((A++D++R).take (m+k)++D++(A++D++R).drop (m+k+n)).take m++X++((A++D++R).take (m+k)++D++(A++D++R).drop (m+k+n)).drop (m+k)=A++X++D++R.drop k:=by
 have h1:(A++D++R).take (m+k)=A++(D++R).take k:=by rw [List.append_assoc,← hA,List.take_length_add_append]
 have h2:(A++D++R).drop (m+k+n)=R.drop k:=by
  rw [List.drop_append,List.drop_eq_nil_of_le (by rw [List.length_append];omega),List.nil_append,List.length_append,hA,hD,show m+k+n - (m+n)=k by omega]
 have h3:((D++R).take k).length=k:=by rw [List.length_take];omega
 rw [h1,h2]
 have h4:(A++(D++R).take k++D++R.drop k).take m=A:=by rw [List.append_assoc,List.append_assoc,← hA,List.take_left]
 have h5:(A++(D++R).take k++D++R.drop k).drop (m+k)=D++R.drop k:=by
  rw [List.append_assoc,List.drop_append,List.drop_eq_nil_of_le (by rw [List.length_append,h3];omega),List.nil_append,List.length_append,h3,hA,Nat.sub_self,List.drop_zero]
 rw [h4,h5]
 simp only [List.append_assoc]
theorem insert_room (g cap n i vb:Nat) (xs:List RcV) (x:RcV) (hn:xs.length=n) (hi:i<n) (hroom:n+1≤cap) (hn2:n≤1000000) (w:World) (hR:RowN RcV.cells 14 47 w g cap xs) (hvb:vb≠g) (hx:w.heap[vb]? =some (.cells x.cells.toArray 47 (0,0))):
    Calls Tryz.prog 133 #[.slice (some ⟨g,0,none⟩) n cap,.int .i64 (i:Int),.slice (some ⟨vb,0,none⟩) 1 1] w fun e w'=>e= .returned (.slice (some ⟨g,0,none⟩) (n+1) cap)∧RowN RcV.cells 14 47 w' g cap (xs.take i++x::xs.drop i)∧Chg (fun q _=>q=g) w w':=by
 obtain ⟨rest,hg,hxc,hcm,hlen⟩:=hR
 have hA:(rcv (xs.take i)).length=i*14:=by rw [rcv_len,List.length_take,Nat.min_eq_left (by omega)]
 have hD:(rcv (xs.drop i)).length=(n - i)*14:=by rw [rcv_len,List.length_drop,hn]
 have hAD:rcv xs=rcv (xs.take i)++rcv (xs.drop i):=by rw [← rcv_app,List.take_append_drop]
 have hg0:w.heap[g]? =some (.cells (rcv xs++rest).toArray 47 (0,0)):=hg
 have hlen0:(rcv xs++rest).length=cap*14:=hlen
 rw [hAD] at hg0 hlen0
 have hrl:rest.length+n*14=cap*14:=by rw [List.length_append,List.length_append,hA,hD] at hlen0;omega
 obtain ⟨L1,hL1⟩:=ex_eq ((rcv (xs.take i)++rcv (xs.drop i)++rest).take (i*14+14)++rcv (xs.drop i)++(rcv (xs.take i)++rcv (xs.drop i)++rest).drop (i*14+14+(n - i)*14))
 have hL1l:L1.length=cap*14:=by
  rw [← hL1,List.length_append,List.length_append,List.length_take,List.length_drop,hlen0,hD,Nat.min_eq_left (by omega)]
  omega
 have hsrc1: ∀j v,(rcv (xs.drop i))[j]? =some v→w.drew.cell? ((⟨g,i*14,none⟩:Addr).add j)=some v:=fun j v hj=>by
  rw [add_none]
  refine (cell_of_row _ _ _ _ _ _ hg0).trans ?_
  rw [List.getElem?_toArray,List.append_assoc,List.getElem?_append_right (by rw [hA];omega),hA,Nat.add_sub_cancel_left,List.getElem?_append_left (List.getElem?_eq_some_iff.1 hj).1]
  exact hj
 have hcp1: ∀ty dc sc,(Builtin.copy_ #[32, 32] ty #[.slice (some ⟨g,(i+1)*14,none⟩) (n - i) dc,.slice (some ⟨g,i*14,none⟩) (n+1 - i) sc]).run Tryz.prog w.drew= .ok (goInt ((n - i:Nat):Int)) (w.drew.setRow g L1.toArray):=fun ty dc sc=>by
  have h:=run_copy_rowN (P:= Tryz.prog) w.drew 32 32 ty 47 g ((i+1)*14) (n - i) dc ⟨g,i*14,none⟩ (n+1 - i) sc 14 (n - i) _ 47 (rcv (xs.drop i)) Tryz.underlying32 Tryz.sizeRc hg0 (by show min _ _=_;omega) hD hsrc1 (by simp only [List.size_toArray];rw [hlen0,hD];omega) (rcv_one _)
  rw [h]
  congr 3
  rw [← hL1,hD]
  simp only [show (i+1)*14=i*14+14 by omega]
 have hW1:(w.drew.setRow g L1.toArray).heap[g]? =some (.cells L1.toArray 47 (0,0)):=setRow_heap _ _ _ _ _ _ hg0
 have hX1:(w.drew.setRow g L1.toArray).heap[vb]? =some (.cells x.cells.toArray 47 (0,0)):=(setRow_other w.drew g vb _ hvb).trans hx
 have hC1:Chg (fun q _=>q=g) w (w.drew.setRow g L1.toArray):=⟨rfl,rfl,rfl,by simp [World.setRow],fun k hk hn=>setRow_other w.drew g k _ (fun e=>hn 0 e),fun k hn c e f hc=>by
  obtain ⟨j,hj⟩:=hn
  exact ⟨c,(setRow_other w.drew g k _ hj).trans hc,rfl,fun _ _=>rfl⟩⟩
 obtain ⟨W1,hWW1⟩:=ex_eq (w.drew.setRow g L1.toArray)
 rw [hWW1] at hW1 hX1 hC1 hcp1
 have hcp2: ∀ty dc,(Builtin.copy_ #[32, 32] ty #[.slice (some ⟨g,i*14,none⟩) (n+1 - i) dc,.slice (some ⟨vb,0,none⟩) 1 1]).run Tryz.prog W1= .ok (goInt 1) (W1.setRow g (L1.take (i*14)++x.cells++L1.drop (i*14+14)).toArray):=fun ty dc=>by
  have h:=run_copy_rowN (P:= Tryz.prog) W1 32 32 ty 47 g (i*14) (n+1 - i) dc ⟨vb,0,none⟩ 1 1 14 1 _ 47 x.cells Tryz.underlying32 Tryz.sizeRc hW1 (by show min _ _=_;omega) rfl (fun j v hj=>by
   rw [add_none,Nat.zero_add]
   exact (cell_of_row _ _ _ _ _ _ hX1).trans (by rw [List.getElem?_toArray];exact hj)) (by simp only [List.size_toArray,hL1l,RcV.len];omega) x.one
  rw [h]
  rfl
 obtain ⟨L2,hL2⟩:=ex_eq (L1.take (i*14)++x.cells++L1.drop (i*14+14))
 rw [hL2] at hcp2
 have hL2e:L2=rcv (xs.take i++x::xs.drop i)++rest.drop 14:=by
  have h:=ins_lists (A:=rcv (xs.take i)) (D:=rcv (xs.drop i)) (R:=rest) (X:=x.cells) (m:=i*14) (k:=14) (n:=(n - i)*14) hA (by rw [List.length_append,hD];omega) rfl hD
  rw [hL1,hL2] at h
  rw [h,rcv_app]
  show _=rcv (xs.take i)++(x.cells++rcv (xs.drop i))++rest.drop 14
  simp only [List.append_assoc]
 have hW2:(W1.setRow g L2.toArray).heap[g]? =some (.cells L2.toArray 47 (0,0)):=setRow_heap _ _ _ _ _ _ hW1
 have hC2:Chg (fun q _=>q=g) W1 (W1.setRow g L2.toArray):=⟨rfl,rfl,rfl,by simp [World.setRow],fun k hk hn=>setRow_other W1 g k _ (fun e=>hn 0 e),fun k hn c e f hc=>by
  obtain ⟨j,hj⟩:=hn
  exact ⟨c,(setRow_other W1 g k _ hj).trans hc,rfl,fun _ _=>rfl⟩⟩
 obtain ⟨W2,hWW2⟩:=ex_eq (W1.setRow g L2.toArray)
 rw [hWW2] at hW2 hC2 hcp2
 have HFIN:Hid (RowN RcV.cells 14 47 W2 g cap (xs.take i++x::xs.drop i)∧Chg (fun q _=>q=g) w W2):=hid ⟨⟨rest.drop 14,by rw [hL2e] at hW2;exact hW2,by rw [List.length_append,List.length_cons,List.length_take,List.length_drop];omega,hcm,by
  show (rcv (xs.take i++x::xs.drop i)++rest.drop 14).length=_
  rw [List.length_append,rcv_len,List.length_append,List.length_cons,List.length_take,List.length_drop,List.length_drop]
  omega⟩,hC1.trans hC2⟩
 have hov: ∀o lb cb,(callFunc 215 #[.slice (some ⟨vb,0,none⟩) 1 1,.slice (some ⟨g,o,none⟩) lb cb]).run Tryz.prog w= .ok (.value (.bool false)) w:=fun o lb cb=>by
  rw [run_callFunc_extern Tryz.func215 (by kernel_rfl) (by kernel_rfl) (by kernel_rfl) (e:=Extern.SlicesOverlaps.overlaps #[32, 32] #[4]) (by kernel_rfl),
   Lib.run_overlaps_apart w 32 4 47 Tryz.underlying32 14 (fun w=>by kernel_rfl) ⟨vb,0,none⟩ ⟨g,o,none⟩ 1 1 lb cb hvb _ _ _ _ (shape_of_row hx) (shape_of_row hg0) (by rw [List.size_toArray,hlen0];omega) (frozen_of_row _ _ _ _ _ hx) (frozen_of_row _ _ _ _ _ hx)]
  rfl
 have hw1:IntKind.i64.wrap ((i:Int)+1)=(i:Int)+1:=by rw [IntKind.wrap_i64];omega
 have hw2:IntKind.i64.wrap ((n:Int)+1)=(n:Int)+1:=by rw [IntKind.wrap_i64];omega
 have hb1:(0:Int)≤(i:Int)+1:=by omega
 have hb3:(i:Int)≤(n:Int)+1:=by omega
 have hb2: ¬(cap=i+1):=by omega
 have hb4: ¬(cap=i):=by omega
 have hin:i≤n:=by omega
 have hz2: ¬((i:Int)=(n:Int)):=by omega
 have htn:((i:Int)+1).toNat=i+1:=by omega
 have hcap: ¬((cap:Int)<(n:Int)+1):=by omega
 have hc63:cap≤9223372036854775807:=by unfold maxLen at hcm;omega
 clear hA hD hAD hg0 hlen0 hrl hL1 hL1l hsrc1 hW1 hX1 hC1 hWW1 hL2 hL2e hW2 hC2 hWW2 hg hxc hcm hlen
 go_enter Tryz.func133,Tryz.ntmps133
 go_wp2_with (simp only [hov])
 go_region_law (refine step_copyRun rfl _ _ 32 32 rfl _ _ (by simp [Act.eval,Act.put]) (by simp [Act.eval,Act.put]) (hcp1 _ _ _) ?_)
 go_wp2_with (at_builtin;refine wpList_copyRun _ rfl _ _ 32 32 rfl _ _ rfl rfl (hcp2 _ _) ?_)
 go_ret
 exact ⟨rfl,HFIN.o⟩
theorem insert_nil (vb:Nat) (x:RcV) (w:World) (hx:w.heap[vb]? =some (.cells x.cells.toArray 47 (0,0))):
    Calls Tryz.prog 133 #[.slice none 0 0,.int .i64 0,.slice (some ⟨vb,0,none⟩) 1 1] w fun e w'=> ∃bl cap,e= .returned (.slice (some ⟨bl,0,none⟩) 1 cap)∧w.heap.size≤bl∧RowN RcV.cells 14 47 w' bl cap [x]∧Below w.heap.size w w':=by
 have hsrc: ∀j u,x.cells[j]? =some u→w.cell? ((⟨vb,0,none⟩:Addr).add j)=some u:=fun j u hj=>by
  rw [add_none,Nat.zero_add]
  exact (cell_of_row _ _ _ _ _ _ hx).trans (by rw [List.getElem?_toArray];exact hj)
 go_enter Tryz.func133,Tryz.ntmps133
 go_wp2_with (first
  | (at_builtin
     refine app_rc rfl _ _ rfl w.heap.size (.slice none 0 0) 0 [] (by rfl) (World.ownsRow_nil _ _ _ _) (Nat.le_refl _) (by decide) x ⟨vb,0,none⟩ 1 (by rfl) hsrc ?_
     intro bl cap w1 h1 h2 h3
     have H1:=hid h1
     have H2:=hid h2
     have H3:=hid h3
     clear h1 h2 h3))
 go_ret
 obtain ⟨h4,h5⟩:=RowN.of RcV.len H1.o rfl
 exact ⟨bl,cap,rfl,h5,h4,⟨H2.o.os,H2.o.tape,H2.o.output,H2.o.size,fun k hk=>H2.o.block k hk (by simp [Value.ownBlock])⟩⟩
theorem insert_end (g cap n vb:Nat) (xs:List RcV) (x:RcV) (hn:xs.length=n) (hn2:n≤1000000) (w:World) (hR:RowN RcV.cells 14 47 w g cap xs) (hx:w.heap[vb]? =some (.cells x.cells.toArray 47 (0,0))):
    Calls Tryz.prog 133 #[.slice (some ⟨g,0,none⟩) n cap,.int .i64 (n:Int),.slice (some ⟨vb,0,none⟩) 1 1] w fun e w'=> ∃bl cap',e= .returned (.slice (some ⟨bl,0,none⟩) (n+1) cap')∧(bl=g∨w.heap.size≤bl)∧RowN RcV.cells 14 47 w' bl cap' (xs++[x])∧Chg (fun q _=>q=g) w w':=by
 have hsrc: ∀j u,x.cells[j]? =some u→w.cell? ((⟨vb,0,none⟩:Addr).add j)=some u:=fun j u hj=>by
  rw [add_none,Nat.zero_add]
  exact (cell_of_row _ _ _ _ _ _ hx).trans (by rw [List.getElem?_toArray];exact hj)
 have hown:w.ownsRow 0 47 14 (.slice (some ⟨g,0,none⟩) n cap) n (rcv xs):=by
  have h:=hR.own RcV.len (by decide) (Nat.zero_le g)
  rw [hn] at h
  exact h
 have hcap:n≤cap:=by obtain ⟨_,_,h,_⟩:=hR;omega
 have hc63:cap≤9223372036854775807:=by obtain ⟨_,_,_,h,_⟩:=hR;unfold maxLen at h;omega
 have HL:Hid ((xs++[x]).length=n+1):=hid (by rw [List.length_append,hn];rfl)
 clear hR hn
 go_enter Tryz.func133,Tryz.ntmps133
 go_wp2_with (first
  | (at_builtin
     refine app_rc rfl _ _ rfl 0 (.slice (some ⟨g,0,none⟩) n cap) n xs (by rfl) hown (Nat.zero_le _) hn2 x ⟨vb,0,none⟩ 1 (by rfl) hsrc ?_
     intro bl cap' w1 h1 h2 h3
     have H1:=hid h1
     have H2:=hid h2
     have H3:=hid h3
     clear h1 h2 h3))
 all_goals
  go_ret
  obtain ⟨h4,h5⟩:=RowN.of RcV.len H1.o HL.o
  refine ⟨bl,cap',rfl,?_,h4,Chg.of_grown H2.o (fun k i e=> ?_)⟩
  ·rcases H3.o with e | e
   ·injection e with e;exact .inl e
   ·exact .inr (by omega)
  ·injection e with e;exact e.symm
theorem grow_lists {α:Type} {A D Z X:List α} {m k n:Nat} (hA:A.length=m) (hX:X.length=k) (hD:D.length=n) (hZ:k+n≤Z.length):
    (((A++Z).take m++X++(A++Z).drop (m+k)).take (m+k)++D++((A++Z).take m++X++(A++Z).drop (m+k)).drop (m+k+n))=A++X++D++Z.drop (k+n):=by
 have h1:(A++Z).take m=A:=by rw [← hA,List.take_left]
 have h2:(A++Z).drop (m+k)=Z.drop k:=by rw [List.drop_append,List.drop_eq_nil_of_le (by omega),List.nil_append,hA,Nat.add_sub_cancel_left]
 rw [h1,h2]
 have h3:(A++X++Z.drop k).take (m+k)=A++X:=by rw [← hA,← hX,← List.length_append,List.take_left]
 have h4:(A++X++Z.drop k).drop (m+k+n)=Z.drop (k+n):=by
  rw [List.drop_append,List.drop_eq_nil_of_le (by rw [List.length_append];omega),List.nil_append,List.length_append,hA,hX,List.drop_drop]
  congr 1
  omega
 rw [h3,h4]
theorem chg_setRowQ (w:World) (g:Nat) (cs:Array Value):Chg (fun q _=>q=g) w (w.setRow g cs):=⟨rfl,rfl,rfl,by simp [World.setRow],fun k hk hn=>setRow_other w g k _ (fun e=>hn 0 e),fun k hn c e f hc=>by
 obtain ⟨j,hj⟩:=hn
 exact ⟨c,(setRow_other w g k _ hj).trans hc,rfl,fun _ _=>rfl⟩⟩
theorem insert_grow (g n i vb:Nat) (xs:List RcV) (x:RcV) (hn:xs.length=n) (hi:i<n) (hn2:n≤1000000) (w:World) (hR:RowN RcV.cells 14 47 w g n xs) (hx:w.heap[vb]? =some (.cells x.cells.toArray 47 (0,0))):
    Calls Tryz.prog 133 #[.slice (some ⟨g,0,none⟩) n n,.int .i64 (i:Int),.slice (some ⟨vb,0,none⟩) 1 1] w fun e w'=> ∃bl cap',e= .returned (.slice (some ⟨bl,0,none⟩) (n+1) cap')∧w.heap.size≤bl∧RowN RcV.cells 14 47 w' bl cap' (xs.take i++x::xs.drop i)∧Below w.heap.size w w':=by
 obtain ⟨rest,hg,hxc,hcm,hlen⟩:=hR
 obtain ⟨i0,hi0,hz0,hz1,hz2⟩:=info_parts Tryz.infoRc
 have hA:(rcv (xs.take i)).length=i*14:=by rw [rcv_len,List.length_take,Nat.min_eq_left (by omega)]
 have hD:(rcv (xs.drop i)).length=(n - i)*14:=by rw [rcv_len,List.length_drop,hn]
 have hAD:rcv xs=rcv (xs.take i)++rcv (xs.drop i):=by rw [← rcv_app,List.take_append_drop]
 have hg0:w.heap[g]? =some (.cells (rcv xs++rest).toArray 47 (0,0)):=hg
 rw [hAD] at hg0
 have hgw:g<w.heap.size:=(gS hg0).1
 have hvw:vb<w.heap.size:=(gS hx).1
 have hcells: ∀j u,(rcv (xs.take i)++rcv (xs.drop i))[j]? =some u→w.cell? ⟨g,j,none⟩=some u:=fun j u hj=>by
  refine (cell_of_row _ _ _ _ _ _ hg0).trans ?_
  rw [List.getElem?_toArray,List.getElem?_append_left (List.getElem?_eq_some_iff.1 hj).1]
  exact hj
 have hold:(Builtin.firstCells i0.size i (.slice (some ⟨g,0,none⟩) i n)).run Tryz.prog w.drew= .ok (rcv (xs.take i)).toArray w.drew:=by
  have h:=run_loadCells_list (P:= Tryz.prog) w.drew ⟨g,0,none⟩ (rcv (xs.take i)) (fun j u hj=>by
   rw [add_none,Nat.zero_add]
   exact hcells j u (by rw [List.getElem?_append_left (List.getElem?_eq_some_iff.1 hj).1];exact hj))
  rw [hA] at h
  unfold Builtin.firstCells
  rw [hz1]
  exact h
 have hG:=grownCap_ge w (n+1) n 47
 have hG2:=grownCap_le_maxLen w (n+1) n 47 (by unfold maxLen;omega)
 have hrz: ∀ty,(Builtin.append_ #[32,3] ty #[.slice (some ⟨g,0,none⟩) i n,.int .i64 ((n:Int)+1 - (i:Int))]).run Tryz.prog w=
     .ok (.slice (some ⟨w.heap.size,0,none⟩) (n+1) (grownCap w (n+1) n 47)) (w.drew.alloc (.cells ((rcv (xs.take i)).toArray++Builtin.zeroCells (Value.agg zeroRV.cells.toArray).cells (n+1 - i)++Builtin.zeroCells (Value.agg zeroRV.cells.toArray).cells (grownCap w (n+1) n 47 - (n+1))) 47)):=fun ty=>by
  have h:=Lib.run_append_grow_zeros (P:= Tryz.prog) w 32 3 ty 47 i0 _ .i64 .i64 Tryz.underlying32 Tryz.underlying3 hi0 hz0 (some ⟨g,0,none⟩) i n (rcv (xs.take i)) hold (n+1 - i) (by omega) (by rw [hz1];decide) (by omega) (by omega) (by rw [hz2];omega) (by rw [hz2,show i+(n+1 - i)=n+1 by omega];exact growslice_fits (by omega) (by omega))
  rw [show i+(n+1 - i)=n+1 by omega] at h
  rw [show (n:Int)+1 - (i:Int)=((n+1 - i:Nat):Int) by omega]
  exact h
 obtain ⟨G,hGe⟩:=ex_eq (grownCap w (n+1) n 47)
 rw [hGe] at hrz hG hG2
 obtain ⟨Z,hZ⟩:=ex_eq ((Builtin.zeroCells (Value.agg zeroRV.cells.toArray).cells (n+1 - i)).toList++(Builtin.zeroCells (Value.agg zeroRV.cells.toArray).cells (G - (n+1))).toList)
 have hZl:Z.length=(G - i)*14:=by
  rw [← hZ,List.length_append,Array.length_toList,Array.length_toList]
  have e: ∀q,(Builtin.zeroCells (Value.agg zeroRV.cells.toArray).cells q).size=q*14:=fun q=>by
   unfold Builtin.zeroCells
   rw [Array.size_map,Array.size_range]
   rfl
  rw [e,e]
  omega
 have hrow:(rcv (xs.take i)).toArray++Builtin.zeroCells (Value.agg zeroRV.cells.toArray).cells (n+1 - i)++Builtin.zeroCells (Value.agg zeroRV.cells.toArray).cells (G - (n+1))=(rcv (xs.take i)++Z).toArray:=by
  rw [← hZ]
  apply Array.ext'
  simp
 rw [hrow] at hrz
 obtain ⟨N,hN⟩:=ex_eq w.heap.size
 have hW1:(w.drew.alloc (.cells (rcv (xs.take i)++Z).toArray 47)).heap[N]? =some (.cells (rcv (xs.take i)++Z).toArray 47 (0,0)):=by rw [← hN];exact heap_alloc_new _ _
 have hB1:Below N w (w.drew.alloc (.cells (rcv (xs.take i)++Z).toArray 47)):=by rw [← hN];exact ((Below.refl _ _).drew).alloc (Nat.le_refl _) _
 obtain ⟨W1,hWW1⟩:=ex_eq (w.drew.alloc (.cells (rcv (xs.take i)++Z).toArray 47))
 rw [hWW1,hN] at hrz
 rw [hWW1] at hW1 hB1
 have hcpA: ∀ty dc,(Builtin.copy_ #[32, 32] ty #[.slice (some ⟨N,i*14,none⟩) (n+1 - i) dc,.slice (some ⟨vb,0,none⟩) 1 1]).run Tryz.prog W1= .ok (goInt 1) (W1.setRow N ((rcv (xs.take i)++Z).take (i*14)++x.cells++(rcv (xs.take i)++Z).drop (i*14+14)).toArray):=fun ty dc=>by
  have h:=run_copy_rowN (P:= Tryz.prog) W1 32 32 ty 47 N (i*14) (n+1 - i) dc ⟨vb,0,none⟩ 1 1 14 1 _ 47 x.cells Tryz.underlying32 Tryz.sizeRc hW1 (by show min _ _=_;omega) rfl (fun j v hj=>by
   rw [add_none,Nat.zero_add]
   exact (cell_of_row _ _ _ _ _ _ ((hB1.block vb (by omega)).trans hx)).trans (by rw [List.getElem?_toArray];exact hj)) (by simp only [List.size_toArray,List.length_append,hA,hZl,RcV.len];omega) x.one
  rw [h]
  rfl
 obtain ⟨L1,hL1⟩:=ex_eq ((rcv (xs.take i)++Z).take (i*14)++x.cells++(rcv (xs.take i)++Z).drop (i*14+14))
 rw [hL1] at hcpA
 have hL1l:L1.length=G*14:=by
  rw [← hL1,List.length_append,List.length_append,List.length_take,List.length_drop,List.length_append,hA,hZl,RcV.len,Nat.min_eq_left (by omega)]
  omega
 have hW2:(W1.setRow N L1.toArray).heap[N]? =some (.cells L1.toArray 47 (0,0)):=setRow_heap _ _ _ _ _ _ hW1
 have hC2:=chg_setRowQ W1 N L1.toArray
 obtain ⟨W2,hWW2⟩:=ex_eq (W1.setRow N L1.toArray)
 rw [hWW2] at hW2 hC2 hcpA
 have hB2:Below N w W2:=hB1.trans (hC2.below (Nat.le_trans (Nat.le_of_eq hN.symm) hB1.size) (fun k j hk e=>by omega))
 have hcpB: ∀ty dc sc,(Builtin.copy_ #[32, 32] ty #[.slice (some ⟨N,(i+1)*14,none⟩) (n - i) dc,.slice (some ⟨g,i*14,none⟩) (n - i) sc]).run Tryz.prog W2.drew= .ok (goInt ((n - i:Nat):Int)) (W2.drew.setRow N (L1.take (i*14+14)++rcv (xs.drop i)++L1.drop (i*14+14+(n - i)*14)).toArray):=fun ty dc sc=>by
  have h:=run_copy_rowN (P:= Tryz.prog) W2.drew 32 32 ty 47 N ((i+1)*14) (n - i) dc ⟨g,i*14,none⟩ (n - i) sc 14 (n - i) _ 47 (rcv (xs.drop i)) Tryz.underlying32 Tryz.sizeRc hW2 (by show min _ _=_;omega) hD (fun j v hj=>by
   rw [add_none]
   have h0:w.cell? ⟨g,i*14+j,none⟩=some v:=hcells _ _ (by rw [List.getElem?_append_right (by rw [hA];omega),hA,Nat.add_sub_cancel_left];exact hj)
   exact (hB2.cell (p:=⟨g,i*14+j,none⟩) (by show g<N;omega)).trans h0) (by simp only [List.size_toArray,hL1l,hD];omega) (rcv_one _)
  rw [h,hD]
  simp only [show (i+1)*14=i*14+14 by omega]
 obtain ⟨L2,hL2⟩:=ex_eq (L1.take (i*14+14)++rcv (xs.drop i)++L1.drop (i*14+14+(n - i)*14))
 rw [hL2] at hcpB
 have hW3:(W2.drew.setRow N L2.toArray).heap[N]? =some (.cells L2.toArray 47 (0,0)):=setRow_heap _ _ _ _ _ _ hW2
 have hC3:=chg_setRowQ W2.drew N L2.toArray
 obtain ⟨W3,hWW3⟩:=ex_eq (W2.drew.setRow N L2.toArray)
 rw [hWW3] at hW3 hC3 hcpB
 have hB3:Below N w W3:=hB2.trans ((Below.refl _ _).drew.trans (hC3.below (Nat.le_trans (Nat.le_of_eq hN.symm) hB2.size) (fun k j hk e=>by omega)))
 have hL2e:L2=rcv (xs.take i++x::xs.drop i)++Z.drop (14+(n - i)*14):=by
  have h:=grow_lists (A:=rcv (xs.take i)) (D:=rcv (xs.drop i)) (Z:=Z) (X:=x.cells) (m:=i*14) (k:=14) (n:=(n - i)*14) hA rfl hD (by rw [hZl];omega)
  rw [hL1,hL2] at h
  rw [h,rcv_app]
  show _=rcv (xs.take i)++(x.cells++rcv (xs.drop i))++_
  simp only [List.append_assoc]
 have HFIN:Hid (RowN RcV.cells 14 47 W3 N G (xs.take i++x::xs.drop i)∧Below N w W3):=hid ⟨⟨Z.drop (14+(n - i)*14),by rw [hL2e] at hW3;exact hW3,by rw [List.length_append,List.length_cons,List.length_take,List.length_drop];omega,hG2,by
  show (rcv (xs.take i++x::xs.drop i)++Z.drop (14+(n - i)*14)).length=_
  rw [List.length_append,rcv_len,List.length_append,List.length_cons,List.length_take,List.length_drop,List.length_drop,hZl]
  omega⟩,hB3⟩
 have hw1:IntKind.i64.wrap ((i:Int)+1)=(i:Int)+1:=by rw [IntKind.wrap_i64];omega
 have hw2:IntKind.i64.wrap ((n:Int)+1)=(n:Int)+1:=by rw [IntKind.wrap_i64];omega
 have hw3:IntKind.i64.wrap ((n:Int)+1 - (i:Int))=(n:Int)+1 - (i:Int):=by rw [IntKind.wrap_i64];omega
 have hb1:(0:Int)≤(i:Int)+1:=by omega
 have hb3:(i:Int)≤(n:Int):=by omega
 have hin:i≤n:=by omega
 have hz3: ¬((i:Int)=(n:Int)):=by omega
 have htn:((i:Int)+1).toNat=i+1:=by omega
 have hcap:(n:Int)<(n:Int)+1:=by omega
 have hGi: ¬(G=i):=by omega
 have hGim: ¬(G=i+1):=by omega
 have hci: ¬(n=i):=by omega
 have hG63:G≤9223372036854775807:=by unfold maxLen at hG2;omega
 have hi3:(i:Int)+1≤(n:Int)+1:=by omega
 have HN:=hid hN
 clear hA hD hAD hg0 hgw hvw hcells hold hGe hZ hZl hrow hN hW1 hB1 hWW1 hL1 hL1l hW2 hC2 hWW2 hB2 hL2 hW3 hC3 hWW3 hB3 hL2e hg hxc hcm hlen hi0 hz0 hz1 hz2
 go_enter Tryz.func133,Tryz.ntmps133
 go_wp2_with (first
  | (at_builtin;refine Lib.wpList_append_run _ rfl _ _ _ _ rfl _ _ rfl rfl _ _ (hrz _) ?_)
  | (at_builtin;refine wpList_copyRun _ rfl _ _ 32 32 rfl _ _ rfl rfl (hcpA _ _) ?_))
 go_region_law (refine step_copyRun rfl _ _ 32 32 rfl _ _ (by simp [Act.eval,Act.put]) (by simp [Act.eval,Act.put]) (hcpB _ _ _) ?_)
 go_wp2_with fail
 go_ret
 exact ⟨N,G,rfl,by rw [HN.o];exact Nat.le_refl _,HFIN.o.1,by rw [HN.o];exact HFIN.o.2⟩
end Go.Proofs.YtndlihclgdkpaaaGreatDoor
namespace Go.Proofs.YtndlihclgdkpaaaGreatDoor
open Go.RowKit
open Go.Maps
open Kit (Chg)
open Sha (v)
open Go.Proofs.YtndlihclgdkpaaaGreatDoor.One

structure BRow where
 g:Nat
 cap:Nat
 xs:List RcV
def BRow.val (r:BRow):Value:= .slice (some ⟨r.g,0,none⟩) r.xs.length r.cap
def sgV (r:Rc):Value:= .agg #[.int .i64 r.hol,.int .i64 r.vlt,.int .i64 r.sz,.int .i64 r.day,.int .i64 r.ser,.string r.str,.int .i64 r.ix]
def listF (R:Pc→Option BRow):Value→Option Value
 | .agg ⟨[.string s,.int .i64 i]⟩=>(R ⟨s,i⟩).map BRow.val
 | _=>none
def numF (m:List Rc):Value→Option Value
 | .agg ⟨[.int .i64 h,.int .i64 s]⟩=>(findN m h s).map sgV
 | _=>none
theorem listF_piece (R:Pc→Option BRow) (s:ByteArray) (i:Int):listF R (pieceV s i)=(R ⟨s,i⟩).map BRow.val:=rfl
theorem numF_number (m:List Rc) (h s:Int):numF m (numberV h s)=(findN m h s).map sgV:=rfl
def RcV.blk (x:RcV) (q:Nat):Prop:=(x.r.path≠[]∧ ∃ad,x.a1=some ad∧ad.block=q)∨(x.r.parts≠[]∧ ∃ad,x.a2=some ad∧ad.block=q)∨(x.r.sp≠[]∧ ∃ad,x.a3=some ad∧ad.block=q)
theorem RcV.ok.keepB {w w':World} {M:Nat→Nat→Prop} {x:RcV} (h:x.ok w) (hc:Chg M w w') (hm: ∀q,x.blk q→ ∀i,¬M q i):x.ok w':=
 ⟨h.n1,h.n2,h.n3,h.s1.keep hc (fun ad e hl=>hm ad.block (.inl ⟨List.length_pos_iff.1 hl,ad,e,rfl⟩)),h.s2.keep hc (fun ad e hl=>hm ad.block (.inr (.inl ⟨List.length_pos_iff.1 hl,ad,e,rfl⟩))),h.s3.keep hc (fun ad e hl=>hm ad.block (.inr (.inr ⟨List.length_pos_iff.1 hl,ad,e,rfl⟩)))⟩
theorem strs_block {w:World} {a:Option Addr} {ss:List ByteArray} (h:StrsAt w a ss) (hn:ss≠[]) {ad:Addr} (e:a=some ad): ∃c t f,w.heap[ad.block]? =some (.cells c t f):=by
 rcases h with h | ⟨b,o,e2,hc⟩
 ·exact absurd h hn
 ·rw [e2] at e
  cases e
  have h0:=hc 0 (List.length_pos_iff.2 hn)
  unfold World.cell? at h0
  split at h0
  ·rename_i c t f hb
   exact ⟨c,t,f,hb⟩
  ·cases h0
theorem RcV.ok.block {w:World} {x:RcV} (h:x.ok w) {q:Nat} (hq:x.blk q): ∃c t f,w.heap[q]? =some (.cells c t f):=by
 rcases hq with ⟨h1,ad,e,rfl⟩ | ⟨h1,ad,e,rfl⟩ | ⟨h1,ad,e,rfl⟩
 ·exact strs_block h.s1 h1 e
 ·exact strs_block h.s2 h1 e
 ·exact strs_block h.s3 h1 e
theorem RcV.ok.blk_lt {w:World} {x:RcV} (h:x.ok w) {q:Nat} (hq:x.blk q):q<w.heap.size:=by
 obtain ⟨c,t,f,hb⟩:=h.block hq
 exact (gS hb).1
structure BookR (w:World) (O:Nat→Prop) (bk b1 b2:Nat) (R:Pc→Option BRow) (m:List Rc) (c:Nat):Prop where
 good:GoodB m
 len:m.length≤c
 cell:w.heap[bk]? =some (.cells #[.map (some b1),.map (some b2)] 198 (0,0))
 m1:MapV Tryz.prog 42 w b1 c (listF R)
 m2:MapV Tryz.prog 200 w b2 c (numF m)
 ne12:b1≠b2
 row: ∀p r,R p=some r→RowN RcV.cells 14 47 w r.g r.cap r.xs∧r.xs.map RcV.r=ofB m p∧r.xs≠[]
 no: ∀p,R p=none→ofB m p=[]
 ok: ∀p r,R p=some r→ ∀x ∈ r.xs,x.ok w∧(∀q,x.blk q→O q)∧ ∀p' r',R p'=some r'→ ¬x.blk r'.g
 apart: ∀p r p' r',R p=some r→R p'=some r'→r.g=r'.g→p=p'
 o0:O bk
 o1:O b1
 o2:O b2
 og: ∀p r,R p=some r→O r.g
 lt: ∀q,O q→q<w.heap.size
def BookAt (w:World) (O:Nat→Prop) (bk:Nat) (m:List Rc) (c:Nat):Prop:= ∃b1 b2 R,BookR w O bk b1 b2 R m c
theorem BookR.keep {w w':World} {O:Nat→Prop} {bk b1 b2:Nat} {R:Pc→Option BRow} {m:List Rc} {c:Nat} {M:Nat→Nat→Prop} (h:BookR w O bk b1 b2 R m c) (hc:Chg M w w') (hM: ∀q,O q→ ∀i,¬M q i):BookR w' O bk b1 b2 R m c:=by
 have e: ∀q,O q→w'.heap[q]? =w.heap[q]? :=fun q hq=>hc.other q (h.lt q hq) (hM q hq)
 exact ⟨h.good,h.len,(e bk h.o0).trans h.cell,h.m1.keep (e b1 h.o1),h.m2.keep (e b2 h.o2),h.ne12,fun p r hr=>⟨(h.row p r hr).1.keep (e r.g (h.og p r hr)),(h.row p r hr).2⟩,h.no,fun p r hr x hx=>⟨(h.ok p r hr x hx).1.keepB hc (fun q hq=>hM q ((h.ok p r hr x hx).2.1 q hq)),(h.ok p r hr x hx).2⟩,h.apart,h.o0,h.o1,h.o2,h.og,fun q hq=>Nat.lt_of_lt_of_le (h.lt q hq) hc.size⟩
theorem BookR.later {w w':World} {O:Nat→Prop} {bk b1 b2:Nat} {R:Pc→Option BRow} {m:List Rc} {c:Nat} (h:BookR w O bk b1 b2 R m c) (hb:Below w.heap.size w w'):BookR w' O bk b1 b2 R m c:=h.keep (Chg.of_below (M:=fun _ _=>False) hb) (fun _ _ _ h=>h)
theorem BookAt.later {w w':World} {O:Nat→Prop} {bk:Nat} {m:List Rc} {c:Nat} (h:BookAt w O bk m c) (hb:Below w.heap.size w w'):BookAt w' O bk m c:=by
 obtain ⟨b1,b2,R,h⟩:=h
 exact ⟨b1,b2,R,h.later hb⟩
theorem BookAt.lt {w:World} {O:Nat→Prop} {bk:Nat} {m:List Rc} {c:Nat} (h:BookAt w O bk m c): ∀q,O q→q<w.heap.size:=by
 obtain ⟨b1,b2,R,h⟩:=h
 exact h.lt
theorem BookAt.good {w:World} {O:Nat→Prop} {bk:Nat} {m:List Rc} {c:Nat} (h:BookAt w O bk m c):GoodB m:=by
 obtain ⟨b1,b2,R,h⟩:=h
 exact h.good
theorem listZero (w:World):(zeroValue 32).run Tryz.prog w= .ok (.slice none 0 0) w:=by kernel_rfl
def sgZ:Value:= .agg #[.int .i64 0,.int .i64 0,.int .i64 0,.int .i64 0,.int .i64 0,.string ByteArray.empty,.int .i64 0]
theorem sgZero (w:World):(zeroValue 193).run Tryz.prog w= .ok sgZ w:=by kernel_rfl
theorem listF_none (v:Value):listF (fun _=>none) v=none:=by
 unfold listF
 split<;> rfl
theorem numF_nil (v:Value):numF [] v=none:=by
 unfold numF
 split<;> rfl
theorem newBook_any (w:World):Calls Tryz.prog 38 #[] w fun e w'=> ∃bk,e= .returned (.pointer (some ⟨bk,0,none⟩))∧w.heap.size≤bk∧BookAt w' (fun q=>w.heap.size≤q∧q<w'.heap.size) bk [] 0∧Below w.heap.size w w':=by
 have hmm:= @run_makeMap Tryz.prog
 go_enter Tryz.func38,Tryz.ntmps38
 go_wp2_with fail
 go_ret
 have e1:(w.alloc (.map #[] 0)).heap.size=w.heap.size+1:=World.size_alloc _ _
 have e2:((w.alloc (.map #[] 0)).alloc (.map #[] 0)).heap.size=w.heap.size+2:=by rw [World.size_alloc,e1]
 have e3:(((w.alloc (.map #[] 0)).alloc (.map #[] 0)).alloc (.cells #[.map (some w.heap.size),.map (some (w.heap.size+1))] 198)).heap.size=w.heap.size+3:=by rw [World.size_alloc,e2]
 have b1:Below (w.heap.size+1) (w.alloc (.map #[] 0)) ((w.alloc (.map #[] 0)).alloc (.map #[] 0)):=(Below.refl _ _).alloc (by rw [e1];exact Nat.le_refl _) _
 have b2:Below (w.heap.size+2) ((w.alloc (.map #[] 0)).alloc (.map #[] 0)) (((w.alloc (.map #[] 0)).alloc (.map #[] 0)).alloc (.cells #[.map (some w.heap.size),.map (some (w.heap.size+1))] 198)):=(Below.refl _ _).alloc (by rw [e2];exact Nat.le_refl _) _
 have m1:MapV Tryz.prog 42 (w.alloc (.map #[] 0)) w.heap.size 0 (fun _=>none):=MapV.start w
 have m2:MapV Tryz.prog 200 ((w.alloc (.map #[] 0)).alloc (.map #[] 0)) (w.heap.size+1) 0 (fun _=>none):=by have h:=MapV.start (P:= Tryz.prog) (k:= 200) (w.alloc (.map #[] 0));rw [e1] at h;exact h
 refine ⟨w.heap.size+2,rfl,by omega,⟨w.heap.size,w.heap.size+1,fun _=>none,⟨goodB_nil,Nat.le_refl _,?_,?_,?_,by omega,fun p r h=>(by cases h),fun p _=>rfl,fun p r h=>(by cases h),fun p r _ _ h=>(by cases h),?_,?_,?_,fun p r h=>(by cases h),fun q hq=>hq.2⟩⟩,?_⟩
 ·have h:=heap_alloc_new ((w.alloc (.map #[] 0)).alloc (.map #[] 0)) (.cells #[.map (some w.heap.size),.map (some (w.heap.size+1))] 198 (0,0))
  rw [e2] at h
  exact h
 ·exact ((m1.later (b1.mono (by rw [e1];exact Nat.le_refl _))).later (b2.mono (by rw [e2];exact Nat.le_refl _))).congr (fun key kl _=>listF_none key)
 ·exact (m2.later (b2.mono (by rw [e2];exact Nat.le_refl _))).congr (fun key kl _=>numF_nil key)
 ·rw [e3];omega
 ·rw [e3];omega
 ·rw [e3];omega
 ·exact (((Below.refl _ w).alloc (Nat.le_refl _) _).alloc (by rw [e1];omega) _).alloc (by rw [e2];omega) _
def CurOut (O:Nat→Prop) (w':World) (m:List Rc) (p:Pc) (e:Ending):Prop:=(curB m p=none∧e= .returned (.tuple #[.agg #[.int .i64 0,.int .i64 0,.string ByteArray.empty,.int .i64 0,.int .i64 0,.int .i64 0,.int .i64 0,.int .i64 0,.int .i64 0,.string ByteArray.empty,.slice none 0 0,.int .i64 0,.slice none 0 0,.slice none 0 0],.bool false]))∨ ∃x:RcV,curB m p=some x.r∧e= .returned (.tuple #[.agg x.cells.toArray,.bool true])∧x.ok w'∧ ∀q,x.blk q→O q
theorem BookR.look {w:World} {O:Nat→Prop} {bk b1 b2:Nat} {R:Pc→Option BRow} {m:List Rc} {c:Nat} (h:BookR w O bk b1 b2 R m c) {s:ByteArray} {i:Int} (hs:s.size≤maxLen) (hi:(Lit.int .i64 i).wf=true):(Instr.lookup 195 (.map (some b1)) (.agg #[.string s,.int .i64 i]) false).run Tryz.prog w= .ok (((R ⟨s,i⟩).map BRow.val).getD (.slice none 0 0)) w:=by
 obtain ⟨l,hl⟩:=pieceKey hs hi
 exact h.m1.look1 pieceKeyed Tryz.underlying195 (listZero w) hl
theorem BookR.cells {w:World} {O:Nat→Prop} {bk b1 b2:Nat} {R:Pc→Option BRow} {m:List Rc} {c:Nat} (h:BookR w O bk b1 b2 R m c):w.cell? ⟨bk,0,none⟩=some (.map (some b1))∧w.cell? ⟨bk,1,none⟩=some (.map (some b2)):=⟨cr h.cell,cr h.cell⟩
theorem curB_rows {xs:List RcV} {m:List Rc} {p:Pc} (h:xs.map RcV.r=ofB m p) {k:Nat} (hk:xs.length=k+1):curB m p=some (xs[k]'(by omega)).r:=by
 unfold curB
 rw [← h,List.getLast?_map,List.getLast?_eq_getElem?,show xs.length - 1=k by omega,lE (show k<xs.length by omega)]
 rfl
theorem current_any (O:Nat→Prop) (bk:Nat) (m:List Rc) (c:Nat) (hc:c≤100000) (s:ByteArray) (i:Int) (hs:s.size≤maxLen) (hi:(Lit.int .i64 i).wf=true) (w:World) (hB:BookAt w O bk m c):Calls Tryz.prog 137 #[.pointer (some ⟨bk,0,none⟩),.agg #[.string s,.int .i64 i]] w fun e w'=>CurOut O w' m ⟨s,i⟩ e∧Below w.heap.size w w':=by
 obtain ⟨b1,b2,R,hB⟩:=hB
 have HBK:=hid hB
 have HKS:=hid hs
 have HKI:=hid hi
 clear hs hi
 cases hR:R ⟨s,i⟩ with
 | none=>
   have HRP:Hid (((R ⟨s,i⟩).map BRow.val).getD (.slice none 0 0)= .slice none 0 0):=hid (by rw [hR];rfl)
   have HNO:Hid (curB m ⟨s,i⟩=none):=hid (by unfold curB;rw [hB.no _ hR];rfl)
   clear hB hR
   go_enter Tryz.func137,Tryz.ntmps137
   go_upto_region 1 with fail
   refine wp_over (fun W=>Hid (W.heap[w.heap.size]? =some (.cells #[.string s,.int .i64 i] 42 (0,0)))∧Hid (W.heap[w.heap.size+1]? =some (.cells #[.int .i64 0,.int .i64 0,.string ByteArray.empty,.int .i64 0,.int .i64 0,.int .i64 0,.int .i64 0,.int .i64 0,.int .i64 0,.string ByteArray.empty,.slice none 0 0,.int .i64 0,.slice none 0 0,.slice none 0 0] 47 (0,0)))∧Hid (Below w.heap.size w W)∧Hid (W.heap.size=w.heap.size+2)) ⟨two_rows1,two_rows2,two_below,two_size⟩ ?_
   rintro W ⟨HG,HZ,HB,HW⟩
   obtain ⟨N,hN⟩:=ex_eq w.heap.size
   rw [hN] at HG HZ HB HW ⊢
   have HN:=hid hN
   clear hN
   have HSB:Hid (∀V,Below N w V→Below (N+2) W V→V.cell? ⟨bk,0,none⟩=some (.map (some b1))∧(V.cell? ⟨N,0,none⟩=some (.string s)∧V.cell? ⟨N,1,none⟩=some (.int .i64 i))∧(Instr.lookup 195 (.map (some b1)) (.agg #[.string s,.int .i64 i]) false).run Tryz.prog V= .ok (.slice none 0 0) V):=hid (fun V h h2=>by
    have hb:=HBK.o.later (by rw [HN.o];exact h)
    have hl:=hb.look HKS.o HKI.o
    have hg:=(h2.block N (by omega)).trans HG.o
    rw [HRP.o] at hl
    exact ⟨hb.cells.1,⟨cr hg,cr hg⟩,hl⟩)
   have HDR:Hid (Below (N+2) W W.drew):=hid (Below.refl _ _).drew
   obtain ⟨VD,hVD⟩:=ex_eq W.drew
   rw [hVD] at HDR
   refine Kit.wp_region_gplan (fun V=>V.cell? ⟨bk,0,none⟩=some (.map (some b1))∧(V.cell? ⟨N,0,none⟩=some (.string s)∧V.cell? ⟨N,1,none⟩=some (.int .i64 i))∧(Instr.lookup 195 (.map (some b1)) (.agg #[.string s,.int .i64 i]) false).run Tryz.prog V= .ok (.slice none 0 0) V) [(true,0),(true,1),(true,2),(true,3),(true,4),(true,5),(true,6)] (by kernel_rfl) (by kernel_rfl) (by kernel_rfl) (by kernel_rfl) (by rw [hVD];exact HSB.o _ (HB.o.trans (HDR.o.mono (by omega))) HDR.o) ?_
   rw [hVD]
   clear hVD
   iterate 7 (refine Kit.ghd (h:= ?_))
   refine Kit.gdn (h:=?_)
   have HZ2:=hid ((HDR.o.block (N+1) (by omega)).trans HZ.o)
   obtain ⟨z0,z1,z2,z3,z4,z5,z6,z7,z8,z9,z10,z11,z12,z13⟩:=row14 HZ2.o
   have fz: ∀i,VD.frozen? ⟨N+1,i,none⟩=false:=fun i=>frozen_of_row _ _ _ _ _ HZ2.o
   go_wp2_with fail
   refine bodyPost_ret (results_cell_row_tmp (p:=4) (u:=5) rfl _ _ (N+1) 47 #[.int .i64 0,.int .i64 0,.string ByteArray.empty,.int .i64 0,.int .i64 0,.int .i64 0,.int .i64 0,.int .i64 0,.int .i64 0,.string ByteArray.empty,.slice none 0 0,.int .i64 0,.slice none 0 0,.slice none 0 0] (0,0) _ (by rfl) (putL_full (cur:=[.int .i64 0,.int .i64 0,.string ByteArray.empty,.int .i64 0,.int .i64 0,.int .i64 0,.int .i64 0,.int .i64 0,.int .i64 0,.string ByteArray.empty,.slice none 0 0,.int .i64 0,.slice none 0 0,.slice none 0 0]) (vs:=[.int .i64 0,.int .i64 0,.string ByteArray.empty,.int .i64 0,.int .i64 0,.int .i64 0,.int .i64 0,.int .i64 0,.int .i64 0,.string ByteArray.empty,.slice none 0 0,.int .i64 0,.slice none 0 0,.slice none 0 0]) HZ2.o rfl) Tryz.underlying47 rfl (by kernel_rfl)) rfl ?_
   exact ⟨.inl ⟨HNO.o,rfl⟩,by rw [HN.o];exact HB.o.trans (putL_below (Nat.le_succ N) [.int .i64 0,.int .i64 0,.string ByteArray.empty,.int .i64 0,.int .i64 0,.int .i64 0,.int .i64 0,.int .i64 0,.int .i64 0,.string ByteArray.empty,.slice none 0 0,.int .i64 0,.slice none 0 0,.slice none 0 0] 0 VD (HDR.o.mono (by omega)))⟩
 | some r=>
   obtain ⟨g,cap,xs⟩:=r
   obtain ⟨h1,h2,h3⟩:=hB.row _ _ hR
   simp only at h1 h2 h3
   obtain ⟨n,hn⟩:=ex_eq xs.length
   obtain ⟨k,hk⟩: ∃k,n=k+1:=⟨n - 1,by have:=List.length_pos_iff.2 h3;omega⟩
   have HRP:Hid (((R ⟨s,i⟩).map BRow.val).getD (.slice none 0 0)= .slice (some ⟨g,0,none⟩) n cap):=hid (by rw [hR,← hn];rfl)
   have HKL:Hid (k<xs.length):=hid (by omega)
   have HCU:Hid (curB m ⟨s,i⟩=some (xs[k]'HKL.o).r):=hid (curB_rows h2 (by omega))
   have HOK:=hid (hB.ok _ _ hR (xs[k]'HKL.o) (List.getElem_mem _))
   have HRW:=hid h1
   have hle:n≤100000:=by
    have e1:=congrArg List.length h2
    rw [List.length_map] at e1
    have e2:(ofB m ⟨s,i⟩).length≤m.length:=List.length_filter_le _ _
    have:=hB.len
    omega
   have hkn:(n:Int) - 1=(k:Int):=by omega
   have hk2:(k:Int)<(n:Int):=by omega
   have hn0:((n:Int)==0)=false:=by rw [beq_eq_false_iff_ne];omega
   clear hB hR h1 h2 h3 hn hk
   go_enter Tryz.func137,Tryz.ntmps137
   go_upto_region 1 with fail
   refine wp_over (fun W=>Hid (W.heap[w.heap.size]? =some (.cells #[.string s,.int .i64 i] 42 (0,0)))∧Hid (W.heap[w.heap.size+1]? =some (.cells #[.int .i64 0,.int .i64 0,.string ByteArray.empty,.int .i64 0,.int .i64 0,.int .i64 0,.int .i64 0,.int .i64 0,.int .i64 0,.string ByteArray.empty,.slice none 0 0,.int .i64 0,.slice none 0 0,.slice none 0 0] 47 (0,0)))∧Hid (Below w.heap.size w W)∧Hid (W.heap.size=w.heap.size+2)) ⟨two_rows1,two_rows2,two_below,two_size⟩ ?_
   rintro W ⟨HG,HZ,HB,HW⟩
   obtain ⟨N,hN⟩:=ex_eq w.heap.size
   rw [hN] at HG HZ HB HW ⊢
   have HN:=hid hN
   clear hN
   have HSB:Hid (∀V,Below N w V→Below (N+2) W V→V.cell? ⟨bk,0,none⟩=some (.map (some b1))∧(V.cell? ⟨N,0,none⟩=some (.string s)∧V.cell? ⟨N,1,none⟩=some (.int .i64 i))∧(Instr.lookup 195 (.map (some b1)) (.agg #[.string s,.int .i64 i]) false).run Tryz.prog V= .ok (.slice (some ⟨g,0,none⟩) n cap) V):=hid (fun V h h2=>by
    have hb:=HBK.o.later (by rw [HN.o];exact h)
    have hl:=hb.look HKS.o HKI.o
    have hg:=(h2.block N (by omega)).trans HG.o
    rw [HRP.o] at hl
    exact ⟨hb.cells.1,⟨cr hg,cr hg⟩,hl⟩)
   have HDR:Hid (Below (N+2) W W.drew):=hid (Below.refl _ _).drew
   obtain ⟨VD,hVD⟩:=ex_eq W.drew
   rw [hVD] at HDR
   refine Kit.wp_region_gplan (fun V=>V.cell? ⟨bk,0,none⟩=some (.map (some b1))∧(V.cell? ⟨N,0,none⟩=some (.string s)∧V.cell? ⟨N,1,none⟩=some (.int .i64 i))∧(Instr.lookup 195 (.map (some b1)) (.agg #[.string s,.int .i64 i]) false).run Tryz.prog V= .ok (.slice (some ⟨g,0,none⟩) n cap) V) [(true,0),(true,1),(true,2),(true,3),(true,4),(true,5),(true,6)] (by kernel_rfl) (by kernel_rfl) (by kernel_rfl) (by kernel_rfl) (by rw [hVD];exact HSB.o _ (HB.o.trans (HDR.o.mono (by omega))) HDR.o) ?_
   rw [hVD]
   clear hVD
   iterate 7 (refine Kit.ghd (h:= ?_))
   refine Kit.gdn (h:=?_)
   have HZ2:=hid ((HDR.o.block (N+1) (by omega)).trans HZ.o)
   have HVW:Hid (Below w.heap.size w VD):=hid (by rw [HN.o];exact HB.o.trans (HDR.o.mono (by omega)))
   have hce:=((HRW.o.later HVW.o).cells RcV.len k HKL.o).1
   have HXK:=hid (HOK.o.1.later HVW.o)
   have HXO:=hid HOK.o.2.1
   obtain ⟨x,hx⟩:=ex_eq (xs[k]'HKL.o)
   rw [hx] at hce HXK HXO HCU
   clear hx
   have HCE:Hid (x.cells=x.cells):=hid rfl
   obtain ⟨⟨hol,vlt,str,ix,sz,day,ser,cnt,pl,root,pa,si,pt,sq⟩,ap,c1,aq,c2,ar,c3⟩:=x
   simp only [RcV.cells] at hce HCE
   obtain ⟨n1,e1⟩:=ex_eq pa.length
   obtain ⟨n2,e2⟩:=ex_eq pt.length
   obtain ⟨n3,e3⟩:=ex_eq sq.length
   rw [e1,e2,e3] at hce
   have HE:=hid (And.intro e1 (And.intro e2 e3))
   clear e1 e2 e3
   have c50:=hce 0 (by decide)
   have c51:=hce 1 (by decide)
   have c52:=hce 2 (by decide)
   have c53:=hce 3 (by decide)
   have c54:=hce 4 (by decide)
   have c55:=hce 5 (by decide)
   have c56:=hce 6 (by decide)
   have c57:=hce 7 (by decide)
   have c58:=hce 8 (by decide)
   have c59:=hce 9 (by decide)
   have c60:=hce 10 (by decide)
   have c61:=hce 11 (by decide)
   have c62:=hce 12 (by decide)
   have c63:=hce 13 (by decide)
   simp only [List.getElem?_cons_zero,List.getElem?_cons_succ,Nat.add_zero] at c50 c51 c52 c53 c54 c55 c56 c57 c58 c59 c60 c61 c62 c63
   clear hce
   obtain ⟨z0,z1,z2,z3,z4,z5,z6,z7,z8,z9,z10,z11,z12,z13⟩:=row14 HZ2.o
   have fz: ∀i,VD.frozen? ⟨N+1,i,none⟩=false:=fun i=>frozen_of_row _ _ _ _ _ HZ2.o
   go_wp2_with fail
   refine bodyPost_ret (results_cell_row_tmp (p:=4) (u:=5) rfl _ _ (N+1) 47 #[.int .i64 hol,.int .i64 vlt,.string str,.int .i64 ix,.int .i64 sz,.int .i64 day,.int .i64 ser,.int .i64 cnt,.int .i64 pl,.string root,.slice ap n1 c1,.int .i64 si,.slice aq n2 c2,.slice ar n3 c3] (0,0) _ (by rfl) (putL_full (cur:=[.int .i64 0,.int .i64 0,.string ByteArray.empty,.int .i64 0,.int .i64 0,.int .i64 0,.int .i64 0,.int .i64 0,.int .i64 0,.string ByteArray.empty,.slice none 0 0,.int .i64 0,.slice none 0 0,.slice none 0 0]) (vs:=[.int .i64 hol,.int .i64 vlt,.string str,.int .i64 ix,.int .i64 sz,.int .i64 day,.int .i64 ser,.int .i64 cnt,.int .i64 pl,.string root,.slice ap n1 c1,.int .i64 si,.slice aq n2 c2,.slice ar n3 c3]) HZ2.o rfl) Tryz.underlying47 rfl (by kernel_rfl)) rfl ?_
   have hch:Chg (fun q _=>q=N+1) VD (putL (N+1) 0 [.int .i64 hol,.int .i64 vlt,.string str,.int .i64 ix,.int .i64 sz,.int .i64 day,.int .i64 ser,.int .i64 cnt,.int .i64 pl,.string root,.slice ap n1 c1,.int .i64 si,.slice aq n2 c2,.slice ar n3 c3] VD):=putL_chg (fun _=>rfl) _ 0 VD (Chg.refl _ _)
   have hlo: ∀q,(⟨⟨hol,vlt,str,ix,sz,day,ser,cnt,pl,root,pa,si,pt,sq⟩,ap,c1,aq,c2,ar,c3⟩:RcV).blk q→q<N:=fun q hq=>by rw [← HN.o];exact HBK.o.lt q (HXO.o q hq)
   exact ⟨.inr ⟨⟨⟨hol,vlt,str,ix,sz,day,ser,cnt,pl,root,pa,si,pt,sq⟩,ap,c1,aq,c2,ar,c3⟩,HCU.o,by simp only [RcV.cells,HE.o.1,HE.o.2.1,HE.o.2.2];rfl,HXK.o.keepB hch (fun q hq i e=>by have:=hlo q hq;omega),HXO.o⟩,by rw [HN.o];exact HB.o.trans (putL_below (Nat.le_succ N) [.int .i64 hol,.int .i64 vlt,.string str,.int .i64 ix,.int .i64 sz,.int .i64 day,.int .i64 ser,.int .i64 cnt,.int .i64 pl,.string root,.slice ap n1 c1,.int .i64 si,.slice aq n2 c2,.slice ar n3 c3] 0 VD (HDR.o.mono (by omega)))⟩
theorem current_none (O:Nat→Prop) (bk:Nat) (m:List Rc) (c:Nat) (hc:c≤100000) (s:ByteArray) (i:Int) (hs:s.size≤maxLen) (hi:(Lit.int .i64 i).wf=true) (h:curB m ⟨s,i⟩=none) (w:World) (hB:BookAt w O bk m c):Calls Tryz.prog 137 #[.pointer (some ⟨bk,0,none⟩),.agg #[.string s,.int .i64 i]] w fun e w'=>e= .returned (.tuple #[.agg #[.int .i64 0,.int .i64 0,.string ByteArray.empty,.int .i64 0,.int .i64 0,.int .i64 0,.int .i64 0,.int .i64 0,.int .i64 0,.string ByteArray.empty,.slice none 0 0,.int .i64 0,.slice none 0 0,.slice none 0 0],.bool false])∧Below w.heap.size w w':=
 (current_any O bk m c hc s i hs hi w hB).mono fun e w' h1=>by
   obtain ⟨h1,h2⟩:=h1
   rcases h1 with ⟨_,h3⟩ | ⟨x,h3,_⟩
   ·exact ⟨h3,h2⟩
   ·rw [h] at h3;cases h3
theorem current_some (O:Nat→Prop) (bk:Nat) (m:List Rc) (c:Nat) (hc:c≤100000) (s:ByteArray) (i:Int) (hs:s.size≤maxLen) (hi:(Lit.int .i64 i).wf=true) (hol vlt:Int) (str:ByteArray) (ix sz day ser cnt pl:Int) (root:ByteArray) (si:Int) (pa pt sq:List ByteArray) (n1 n2 n3:Nat) (h1:pa.length=n1) (h2:pt.length=n2) (h3:sq.length=n3) (h:curB m ⟨s,i⟩=some ⟨hol,vlt,str,ix,sz,day,ser,cnt,pl,root,pa,si,pt,sq⟩) (w:World) (hB:BookAt w O bk m c):Calls Tryz.prog 137 #[.pointer (some ⟨bk,0,none⟩),.agg #[.string s,.int .i64 i]] w fun e w'=> ∃ap c1 aq c2 ar c3,e= .returned (.tuple #[.agg #[.int .i64 hol,.int .i64 vlt,.string str,.int .i64 ix,.int .i64 sz,.int .i64 day,.int .i64 ser,.int .i64 cnt,.int .i64 pl,.string root,.slice ap n1 c1,.int .i64 si,.slice aq n2 c2,.slice ar n3 c3],.bool true])∧(⟨⟨hol,vlt,str,ix,sz,day,ser,cnt,pl,root,pa,si,pt,sq⟩,ap,c1,aq,c2,ar,c3⟩:RcV).ok w'∧(∀q,(⟨⟨hol,vlt,str,ix,sz,day,ser,cnt,pl,root,pa,si,pt,sq⟩,ap,c1,aq,c2,ar,c3⟩:RcV).blk q→O q)∧Below w.heap.size w w':=
 (current_any O bk m c hc s i hs hi w hB).mono fun e w' h4=>by
   obtain ⟨h4,h5⟩:=h4
   subst h1 h2 h3
   rcases h4 with ⟨h3,_⟩ | ⟨x,h3,rfl,h6,h7⟩
   ·rw [h] at h3;cases h3
   ·rw [h] at h3
    obtain ⟨r,ap,c1,aq,c2,ar,c3⟩:=x
    simp only at h3
    have h3:=Option.some.inj h3
    subst h3
    exact ⟨ap,c1,aq,c2,ar,c3,rfl,h6,h7,h5⟩
theorem curB_sizes {m:List Rc} (hg:GoodB m) {p:Pc} {r:Rc} (h:curB m p=some r):r.path.length≤8∧r.parts.length≤300∧r.sp.length≤8:=by
 have hv:=hg.v r (curB_some h).1
 exact ⟨hv.pn,hv.an,hv.qn⟩
theorem getCurrent_none (O:Nat→Prop) (bk:Nat) (m:List Rc) (c:Nat) (hc:c≤100000) (s:ByteArray) (i:Int) (hs:s.size≤maxLen) (hi:(Lit.int .i64 i).wf=true) (h:curB m ⟨s,i⟩=none) (w:World) (hB:BookAt w O bk m c):Calls Tryz.prog 44 #[.pointer (some ⟨bk,0,none⟩),.agg #[.string s,.int .i64 i]] w fun e w'=>e= .returned (.tuple #[.agg #[.int .i64 0,.int .i64 0,.string ByteArray.empty,.int .i64 0,.int .i64 0,.int .i64 0,.int .i64 0,.int .i64 0,.int .i64 0,.string ByteArray.empty,.slice none 0 0,.int .i64 0,.slice none 0 0,.slice none 0 0],.int .i64 4])∧Below w.heap.size w w':=by
 have HCU:Hid (∀V,Below w.heap.size w V→Calls Tryz.prog 137 #[.pointer (some ⟨bk,0,none⟩),.agg #[.string s,.int .i64 i]] V fun e w'=>e= .returned (.tuple #[.agg #[.int .i64 0,.int .i64 0,.string ByteArray.empty,.int .i64 0,.int .i64 0,.int .i64 0,.int .i64 0,.int .i64 0,.int .i64 0,.string ByteArray.empty,.slice none 0 0,.int .i64 0,.slice none 0 0,.slice none 0 0],.bool false])∧Below V.heap.size V w'):=hid (fun V hV=>current_none O bk m c hc s i hs hi h V (hB.later hV))
 clear hB hs hi h
 go_enter Tryz.func44,Tryz.ntmps44
 go_upto_region 1 with fail
 refine wp_over (fun W=>Hid (W.heap[w.heap.size]? =some (.cells #[.string s,.int .i64 i] 42 (0,0)))∧Hid (W.heap[w.heap.size+1]? =some (.cells #[.int .i64 0,.int .i64 0,.string ByteArray.empty,.int .i64 0,.int .i64 0,.int .i64 0,.int .i64 0,.int .i64 0,.int .i64 0,.string ByteArray.empty,.slice none 0 0,.int .i64 0,.slice none 0 0,.slice none 0 0] 47 (0,0)))∧Hid (Below w.heap.size w W)∧Hid (W.heap.size=w.heap.size+2)) ⟨two_rows1,two_rows2,two_below,two_size⟩ ?_
 rintro W ⟨HG,HZ,HB,HW⟩
 obtain ⟨N,hN⟩:=ex_eq w.heap.size
 rw [hN] at HG HZ HB HW ⊢
 have HN:=hid hN
 clear hN
 have p0:W.cell? ⟨N,0,none⟩=some (.string s):=cr HG.o
 have p1:W.cell? ⟨N,1,none⟩=some (.int .i64 i):=cr HG.o
 have HCW:=hid (HCU.o W (by rw [HN.o];exact HB.o))
 clear HCU
 go_upto_region 2 with (first
  | (go_at_call 137
     (with_reducible refine HCW.o.mono ?_)
     rintro e w2 ⟨rfl,h2⟩
     have H2:Hid (Below (N+2) W w2):=hid (h2.mono (by have:=HW.o;omega))
     clear h2 p0 p1))
 refine wp_over (fun V=>Hid (Below (N+2) W V)) (hid (H2.o.alloc (by have:=H2.o.size;have:=HW.o;omega) _)) ?_
 rintro V HV
 have HZ2:=hid ((HV.o.block (N+1) (by omega)).trans HZ.o)
 obtain ⟨z0,z1,z2,z3,z4,z5,z6,z7,z8,z9,z10,z11,z12,z13⟩:=row14 HZ2.o
 have fz: ∀i,V.frozen? ⟨N+1,i,none⟩=false:=fun i=>frozen_of_row _ _ _ _ _ HZ2.o
 go_wp2_with fail
 refine bodyPost_ret (results_cell_row_tmp (p:=4) (u:=5) rfl _ _ (N+1) 47 #[.int .i64 0,.int .i64 0,.string ByteArray.empty,.int .i64 0,.int .i64 0,.int .i64 0,.int .i64 0,.int .i64 0,.int .i64 0,.string ByteArray.empty,.slice none 0 0,.int .i64 0,.slice none 0 0,.slice none 0 0] (0,0) _ (by rfl) (putL_full (cur:=[.int .i64 0,.int .i64 0,.string ByteArray.empty,.int .i64 0,.int .i64 0,.int .i64 0,.int .i64 0,.int .i64 0,.int .i64 0,.string ByteArray.empty,.slice none 0 0,.int .i64 0,.slice none 0 0,.slice none 0 0]) (vs:=[.int .i64 0,.int .i64 0,.string ByteArray.empty,.int .i64 0,.int .i64 0,.int .i64 0,.int .i64 0,.int .i64 0,.int .i64 0,.string ByteArray.empty,.slice none 0 0,.int .i64 0,.slice none 0 0,.slice none 0 0]) HZ2.o rfl) Tryz.underlying47 rfl (by kernel_rfl)) rfl ?_
 exact ⟨rfl,by rw [HN.o];exact HB.o.trans (putL_below (Nat.le_succ N) [.int .i64 0,.int .i64 0,.string ByteArray.empty,.int .i64 0,.int .i64 0,.int .i64 0,.int .i64 0,.int .i64 0,.int .i64 0,.string ByteArray.empty,.slice none 0 0,.int .i64 0,.slice none 0 0,.slice none 0 0] 0 V (HV.o.mono (by omega)))⟩
theorem clone_ok {w':World} {B:Nat} {hol vlt:Int} {str:ByteArray} {ix sz day ser cnt pl:Int} {root:ByteArray} {si:Int} {pa pt sq:List ByteArray} {n1 n2 n3:Nat} (h1:pa.length=n1) (h2:pt.length=n2) (h3:sq.length=n3) (l1:n1≤100000000) (l2:n2≤100000000) (l3:n3≤100000000) {a6 a7 a8:Option Addr} {d6 d7 d8:Nat} (s1:StrsAt w' a6 pa) (s2:StrsAt w' a7 pt) (s3:StrsAt w' a8 sq) (g1: ∀ad,a6=some ad→B≤ad.block) (g2: ∀ad,a7=some ad→B≤ad.block) (g3: ∀ad,a8=some ad→B≤ad.block):(⟨⟨hol,vlt,str,ix,sz,day,ser,cnt,pl,root,pa,si,pt,sq⟩,a6,d6,a7,d7,a8,d8⟩:RcV).ok w'∧ ∀q,(⟨⟨hol,vlt,str,ix,sz,day,ser,cnt,pl,root,pa,si,pt,sq⟩,a6,d6,a7,d7,a8,d8⟩:RcV).blk q→B≤q:=by
 subst h1 h2 h3
 refine ⟨⟨by show pa.length<_;omega,by show pt.length<_;omega,by show sq.length<_;omega,s1,s2,s3⟩,fun q hq=> ?_⟩
 rcases hq with ⟨_,ad,e,rfl⟩ | ⟨_,ad,e,rfl⟩ | ⟨_,ad,e,rfl⟩
 ·exact g1 ad e
 ·exact g2 ad e
 ·exact g3 ad e
theorem getCurrent_some (O:Nat→Prop) (bk:Nat) (m:List Rc) (c:Nat) (hc:c≤100000) (s:ByteArray) (i:Int) (hs:s.size≤maxLen) (hi:(Lit.int .i64 i).wf=true) (hol vlt:Int) (str:ByteArray) (ix sz day ser cnt pl:Int) (root:ByteArray) (si:Int) (pa pt sq:List ByteArray) (n1 n2 n3:Nat) (h1:pa.length=n1) (h2:pt.length=n2) (h3:sq.length=n3) (h:curB m ⟨s,i⟩=some ⟨hol,vlt,str,ix,sz,day,ser,cnt,pl,root,pa,si,pt,sq⟩) (w:World) (hB:BookAt w O bk m c):Calls Tryz.prog 44 #[.pointer (some ⟨bk,0,none⟩),.agg #[.string s,.int .i64 i]] w fun e w'=> ∃a6 d6 a7 d7 a8 d8,e= .returned (.tuple #[.agg #[.int .i64 hol,.int .i64 vlt,.string str,.int .i64 ix,.int .i64 sz,.int .i64 day,.int .i64 ser,.int .i64 cnt,.int .i64 pl,.string root,.slice a6 n1 d6,.int .i64 si,.slice a7 n2 d7,.slice a8 n3 d8],.int .i64 0])∧(⟨⟨hol,vlt,str,ix,sz,day,ser,cnt,pl,root,pa,si,pt,sq⟩,a6,d6,a7,d7,a8,d8⟩:RcV).ok w'∧(∀q,(⟨⟨hol,vlt,str,ix,sz,day,ser,cnt,pl,root,pa,si,pt,sq⟩,a6,d6,a7,d7,a8,d8⟩:RcV).blk q→w.heap.size≤q)∧Below w.heap.size w w':=by
 have HSZ:=hid (curB_sizes hB.good h)
 have HLN:Hid (pa.length=n1∧pt.length=n2∧sq.length=n3):=hid ⟨h1,h2,h3⟩
 have HCU:Hid (∀V,Below w.heap.size w V→Calls Tryz.prog 137 #[.pointer (some ⟨bk,0,none⟩),.agg #[.string s,.int .i64 i]] V fun e w'=> ∃ap c1 aq c2 ar c3,e= .returned (.tuple #[.agg #[.int .i64 hol,.int .i64 vlt,.string str,.int .i64 ix,.int .i64 sz,.int .i64 day,.int .i64 ser,.int .i64 cnt,.int .i64 pl,.string root,.slice ap n1 c1,.int .i64 si,.slice aq n2 c2,.slice ar n3 c3],.bool true])∧(⟨⟨hol,vlt,str,ix,sz,day,ser,cnt,pl,root,pa,si,pt,sq⟩,ap,c1,aq,c2,ar,c3⟩:RcV).ok w'∧(∀q,(⟨⟨hol,vlt,str,ix,sz,day,ser,cnt,pl,root,pa,si,pt,sq⟩,ap,c1,aq,c2,ar,c3⟩:RcV).blk q→O q)∧Below V.heap.size V w'):=hid (fun V hV=>current_some O bk m c hc s i hs hi hol vlt str ix sz day ser cnt pl root si pa pt sq n1 n2 n3 h1 h2 h3 h V (hB.later hV))
 have HOL:=hid hB.lt
 clear hB hs hi h h1 h2 h3
 go_enter Tryz.func44,Tryz.ntmps44
 go_upto_region 1 with fail
 refine wp_over (fun W=>Hid (W.heap[w.heap.size]? =some (.cells #[.string s,.int .i64 i] 42 (0,0)))∧Hid (W.heap[w.heap.size+1]? =some (.cells #[.int .i64 0,.int .i64 0,.string ByteArray.empty,.int .i64 0,.int .i64 0,.int .i64 0,.int .i64 0,.int .i64 0,.int .i64 0,.string ByteArray.empty,.slice none 0 0,.int .i64 0,.slice none 0 0,.slice none 0 0] 47 (0,0)))∧Hid (Below w.heap.size w W)∧Hid (W.heap.size=w.heap.size+2)) ⟨two_rows1,two_rows2,two_below,two_size⟩ ?_
 rintro W ⟨HG,HZ,HB,HW⟩
 obtain ⟨N,hN⟩:=ex_eq w.heap.size
 rw [hN] at HG HZ HB HW ⊢
 have HN:=hid hN
 clear hN
 have p0:W.cell? ⟨N,0,none⟩=some (.string s):=cr HG.o
 have p1:W.cell? ⟨N,1,none⟩=some (.int .i64 i):=cr HG.o
 have HCW:=hid (HCU.o W (by rw [HN.o];exact HB.o))
 clear HCU
 go_upto_region 2 with (first
  | (go_at_call 137
     (with_reducible refine HCW.o.mono ?_)
     rintro e w2 ⟨ap,c1,aq,c2,ar,c3,rfl,hok,ho,h2⟩
     have HOK:=hid hok
     have HO:=hid ho
     have H2:Hid (Below (N+2) W w2):=hid (h2.mono (by have:=HW.o;omega))
     clear hok ho h2 p0 p1))
 refine wp_over (fun V=>Hid (V.heap[w2.heap.size]? =some (.cells #[.int .i64 hol,.int .i64 vlt,.string str,.int .i64 ix,.int .i64 sz,.int .i64 day,.int .i64 ser,.int .i64 cnt,.int .i64 pl,.string root,.slice ap n1 c1,.int .i64 si,.slice aq n2 c2,.slice ar n3 c3] 47 (0,0)))∧Hid (Below w2.heap.size w2 V)) ⟨heap_alloc_new _ _,(Below.refl _ _).alloc (Nat.le_refl _) _⟩ ?_
 rintro V ⟨HVG,HVB⟩
 obtain ⟨B,hB⟩:=ex_eq w2.heap.size
 have HBN:Hid (N+2≤B):=hid (by have:=H2.o.size;have:=HW.o;omega)
 have HV:Hid (Below (N+2) W V):=hid (H2.o.trans (HVB.o.mono (by have:=HBN.o;omega)))
 have HOV:=hid (HOK.o.later HVB.o)
 rw [hB] at HVG HVB ⊢
 clear hB
 obtain ⟨q0,q1,q2,q3,q4,q5,q6,q7,q8,q9,q10,q11,q12,q13⟩:=row14 HVG.o
 go_upto_region 4 with fail
 have HCL:=hid (cloneR_any hol vlt str ix sz day ser cnt pl root ap n1 c1 si aq n2 c2 ar n3 c3 pa pt sq V HLN.o.1 HLN.o.2.1 HLN.o.2.2 (by have:=HSZ.o;have:=HLN.o;omega) (by have:=HSZ.o;have:=HLN.o;omega) (by have:=HSZ.o;have:=HLN.o;omega) HOV.o.s1 HOV.o.s2 HOV.o.s3)
 go_wp2_with (first
  | (go_at_call 134
     (with_reducible refine HCL.o.mono ?_)
     rintro e w3 ⟨a6,d6,a7,d7,a8,d8,rfl,hb6,hb7,hb8,hg6,hg7,hg8,h3⟩
     have HCK:=hid (clone_ok (hol:=hol) (vlt:=vlt) (str:=str) (ix:=ix) (sz:=sz) (day:=day) (ser:=ser) (cnt:=cnt) (pl:=pl) (root:=root) (si:=si) HLN.o.1 HLN.o.2.1 HLN.o.2.2 (by have:=HSZ.o;have:=HLN.o;omega) (by have:=HSZ.o;have:=HLN.o;omega) (by have:=HSZ.o;have:=HLN.o;omega) (d6:=d6) (d7:=d7) (d8:=d8) hb6 hb7 hb8 hg6 hg7 hg8)
     have H3:Hid (Below (N+2) W w3):=hid (HV.o.trans (h3.mono (by have:=HV.o.size;have:=HW.o;omega)))
     have HVN:Hid (N+2≤V.heap.size):=hid (by have:=HV.o.size;have:=HW.o;omega)
     clear hb6 hb7 hb8 hg6 hg7 hg8 h3 q0 q1 q2 q3 q4 q5 q6 q7 q8 q9 q10 q11 q12 q13
     have HZ2:=hid ((H3.o.block (N+1) (by omega)).trans HZ.o)
     obtain ⟨z0,z1,z2,z3,z4,z5,z6,z7,z8,z9,z10,z11,z12,z13⟩:=row14 HZ2.o
     have fz: ∀i,w3.frozen? ⟨N+1,i,none⟩=false:=fun i=>frozen_of_row _ _ _ _ _ HZ2.o))
 refine bodyPost_ret (results_cell_row_tmp (p:=4) (u:=5) rfl _ _ (N+1) 47 #[.int .i64 hol,.int .i64 vlt,.string str,.int .i64 ix,.int .i64 sz,.int .i64 day,.int .i64 ser,.int .i64 cnt,.int .i64 pl,.string root,.slice a6 n1 d6,.int .i64 si,.slice a7 n2 d7,.slice a8 n3 d8] (0,0) _ (by rfl) (putL_full (cur:=[.int .i64 0,.int .i64 0,.string ByteArray.empty,.int .i64 0,.int .i64 0,.int .i64 0,.int .i64 0,.int .i64 0,.int .i64 0,.string ByteArray.empty,.slice none 0 0,.int .i64 0,.slice none 0 0,.slice none 0 0]) (vs:=[.int .i64 hol,.int .i64 vlt,.string str,.int .i64 ix,.int .i64 sz,.int .i64 day,.int .i64 ser,.int .i64 cnt,.int .i64 pl,.string root,.slice a6 n1 d6,.int .i64 si,.slice a7 n2 d7,.slice a8 n3 d8]) HZ2.o rfl) Tryz.underlying47 rfl (by kernel_rfl)) rfl ?_
 have hch:Chg (fun q _=>q=N+1) w3 (putL (N+1) 0 [.int .i64 hol,.int .i64 vlt,.string str,.int .i64 ix,.int .i64 sz,.int .i64 day,.int .i64 ser,.int .i64 cnt,.int .i64 pl,.string root,.slice a6 n1 d6,.int .i64 si,.slice a7 n2 d7,.slice a8 n3 d8] w3):=putL_chg (fun _=>rfl) _ 0 w3 (Chg.refl _ _)
 exact ⟨a6,d6,a7,d7,a8,d8,rfl,HCK.o.1.keepB hch (fun q hq i e=>by have:=HCK.o.2 q hq;have:=HVN.o;omega),fun q hq=>by have:=HCK.o.2 q hq;have:=HVN.o;have:=HN.o;omega,by rw [HN.o];exact HB.o.trans (putL_below (Nat.le_succ N) [.int .i64 hol,.int .i64 vlt,.string str,.int .i64 ix,.int .i64 sz,.int .i64 day,.int .i64 ser,.int .i64 cnt,.int .i64 pl,.string root,.slice a6 n1 d6,.int .i64 si,.slice a7 n2 d7,.slice a8 n3 d8] 0 w3 (H3.o.mono (by omega)))⟩
end Go.Proofs.YtndlihclgdkpaaaGreatDoor
