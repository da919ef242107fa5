/- Plain books of receipts. -/
import Derived.Test.YtndlihclgdkpaaaGreatDoorQsg
set_option linter.unusedVariables false
set_option linter.unusedSimpArgs false
open Go.Lib (hid)
namespace Go.Proofs.YtndlihclgdkpaaaGreatDoor
open Go.Proofs.YtndlihclgdkpaaaGreatDoor.One

structure Pc where
 s:ByteArray
 i:Int
deriving DecidableEq
def Rc.pc (r:Rc):Pc:=⟨r.str,r.ix⟩
def isPc (p:Pc) (r:Rc):Bool:=decide (r.pc=p)
def sameN (a b:Rc):Bool:=decide (a.hol=b.hol) && decide (a.ser=b.ser)
theorem sameN_iff {a b:Rc}:sameN a b=true↔a.hol=b.hol∧a.ser=b.ser:=by
 unfold sameN
 simp only [Bool.and_eq_true,decide_eq_true_eq]
theorem befR_iff {a b:Rc}:befR a b=true↔a.day<b.day∨a.day=b.day∧(a.hol<b.hol∨a.hol=b.hol∧a.ser<b.ser):=by
 unfold befR
 split
 ·rw [decide_eq_true_eq];omega
 ·split
  ·rw [decide_eq_true_eq];omega
  ·rw [decide_eq_true_eq];omega
theorem befR_trans {a b c:Rc} (h:befR a b=true) (k:befR b c=true):befR a c=true:=by
 rw [befR_iff] at h k ⊢
 omega
theorem befR_total {a b:Rc} (h: ¬(a.hol=b.hol∧a.ser=b.ser)):befR a b=true∨befR b a=true:=by
 rw [befR_iff,befR_iff]
 omega
theorem befR_anti {a b:Rc} (h:befR a b=true):befR b a=false:=by
 rw [← Bool.not_eq_true,befR_iff]
 rw [befR_iff] at h
 omega
structure GoodB (m:List Rc):Prop where
 v: ∀x ∈ m,ValidR x
 s:m.Pairwise fun a b=>befR a b=true
 u:m.Pairwise fun a b=> ¬(a.hol=b.hol∧a.ser=b.ser)
theorem goodB_nil:GoodB []:=⟨fun x h=>by simp at h,.nil,.nil⟩
theorem GoodB.filter {m:List Rc} (h:GoodB m) (q:Rc→Bool):GoodB (m.filter q):=⟨fun x hx=>h.v x (List.mem_filter.1 hx).1,h.s.filter q,h.u.filter q⟩
theorem GoodB.uniq {m:List Rc} (h:GoodB m) {x y:Rc} (hx:x ∈ m) (hy:y ∈ m) (he:x.hol=y.hol∧x.ser=y.ser):x=y:=by
 have hu:=h.u
 clear h
 induction m with
 | nil=>simp at hx
 | cons a m ih=>
   obtain ⟨h1,h2⟩:=List.pairwise_cons.1 hu
   rcases List.mem_cons.1 hx with e1 | e1<;> rcases List.mem_cons.1 hy with e2 | e2
   ·rw [e1,e2]
   ·subst e1;exact absurd he (h1 y e2)
   ·subst e2;exact absurd ⟨he.1.symm,he.2.symm⟩ (h1 x e1)
   ·exact ih e1 e2 h2
theorem GoodB.nodup {m:List Rc} (h:GoodB m):m.Nodup:=h.u.imp (fun hn e=>hn (by rw [e];exact ⟨rfl,rfl⟩))
def insB (m:List Rc) (r:Rc):List Rc:=m.filter (fun x=>befR x r)++r::m.filter (fun x=> !befR x r)
theorem filter_down {α:Type} {p:α→Bool}: ∀{m:List α},m.Pairwise (fun a b=>p b=true→p a=true)→m.filter p=m.take (m.countP p)∧m.filter (fun x=> !p x)=m.drop (m.countP p)
 | [],_=>⟨rfl,rfl⟩
 | a::m,h=>by
   obtain ⟨h1,h2⟩:=List.pairwise_cons.1 h
   obtain ⟨i1,i2⟩:=filter_down h2
   cases ha:p a with
   | true=>simp [ha,i1,i2]
   | false=>
     have hz:m.countP p=0:=List.countP_eq_zero.2 fun x hx hp=>by
      have:=h1 x hx hp
      rw [ha] at this
      cases this
     have hf:m.filter p=[]:=by rw [i1,hz];rfl
     have hg:m.filter (fun x=> !p x)=m:=by rw [i2,hz];rfl
     simp [ha,hz,hf,hg]
theorem GoodB.down {m:List Rc} (h:GoodB m) (r:Rc):m.Pairwise (fun a b=>befR b r=true→befR a r=true):=h.s.imp (fun hab hb=>befR_trans hab hb)
theorem filter_comm' {α:Type} (p q:α→Bool) (l:List α):(l.filter p).filter q=(l.filter q).filter p:=by
 rw [List.filter_filter,List.filter_filter]
 exact List.filter_congr fun x _=>Bool.and_comm _ _
theorem insB_filter {m:List Rc} (h:GoodB m) (r:Rc) (q:Rc→Bool):(insB m r).filter q=if q r then insB (m.filter q) r else m.filter q:=by
 unfold insB
 rw [List.filter_append,List.filter_cons,filter_comm',filter_comm' (fun x=> !befR x r)]
 cases hq:q r with
 | true=>simp
 | false=>
   simp only [Bool.false_eq_true,if_false]
   obtain ⟨h1,h2⟩:=filter_down ((h.filter q).down r)
   rw [h1,h2,List.take_append_drop]
theorem mem_insB {m:List Rc} {r x:Rc}:x ∈ insB m r↔x=r∨x ∈ m:=by
 unfold insB
 simp only [List.mem_append,List.mem_cons,List.mem_filter,Bool.not_eq_true']
 constructor
 ·rintro (⟨h,_⟩ | h | ⟨h,_⟩)
  ·exact .inr h
  ·exact .inl h
  ·exact .inr h
 ·rintro (h | h)
  ·exact .inr (.inl h)
  ·cases hb:befR x r
   ·exact .inr (.inr ⟨h,rfl⟩)
   ·exact .inl ⟨h,rfl⟩
theorem GoodB.ins {m:List Rc} (h:GoodB m) {r:Rc} (hr:ValidR r) (hn: ∀x ∈ m,¬(x.hol=r.hol∧x.ser=r.ser)):GoodB (insB m r):=by
 refine ⟨fun x hx=> ?_,?_,?_⟩
 ·rcases mem_insB.1 hx with e | e
  ·rw [e];exact hr
  ·exact h.v x e
 ·unfold insB
  rw [List.pairwise_append,List.pairwise_cons]
  refine ⟨h.s.filter _,⟨fun a ha=> ?_,h.s.filter _⟩,fun a ha b hb=> ?_⟩
  ·obtain ⟨h1,h2⟩:=List.mem_filter.1 ha
   rcases befR_total (hn a h1) with h3 | h3
   ·rw [h3] at h2;cases h2
   ·exact h3
  ·obtain ⟨h1,h2⟩:=List.mem_filter.1 ha
   rcases List.mem_cons.1 hb with e | e
   ·rw [e];exact h2
   ·obtain ⟨h3,h4⟩:=List.mem_filter.1 e
    rcases befR_total (hn b h3) with h5 | h5
    ·rw [h5] at h4;cases h4
    ·exact befR_trans h2 h5
 ·unfold insB
  rw [List.pairwise_append,List.pairwise_cons]
  refine ⟨h.u.filter _,⟨fun a ha=>fun e=>hn a (List.mem_filter.1 ha).1 ⟨e.1.symm,e.2.symm⟩,h.u.filter _⟩,fun a ha b hb=> ?_⟩
  obtain ⟨h1,h2⟩:=List.mem_filter.1 ha
  rcases List.mem_cons.1 hb with e | e
  ·rw [e];exact hn a h1
  ·obtain ⟨h3,h4⟩:=List.mem_filter.1 e
   intro he
   have:=h.uniq h1 h3 he
   subst this
   rw [h2] at h4
   cases h4
theorem insB_len (m:List Rc) (r:Rc):(insB m r).length=m.length+1:=by
 unfold insB
 rw [List.length_append,List.length_cons]
 have:=List.length_eq_countP_add_countP (fun x=>befR x r) (l:=m)
 rw [← List.countP_eq_length_filter,← List.countP_eq_length_filter]
 simp only [Bool.not_eq_true',Bool.not_eq_true] at*
 have e:List.countP (fun x=> !befR x r) m=List.countP (fun a=>decide (befR a r=false)) m:=List.countP_congr fun x _=>by simp
 omega
def findN (m:List Rc) (h s:Int):Option Rc:=m.find? fun x=>decide (x.hol=h) && decide (x.ser=s)
theorem findN_some {m:List Rc} {h s:Int} {x:Rc} (e:findN m h s=some x):x ∈ m∧x.hol=h∧x.ser=s:=by
 unfold findN at e
 have h1:=List.find?_some e
 simp only [Bool.and_eq_true,decide_eq_true_eq] at h1
 exact ⟨List.mem_of_find?_eq_some e,h1.1,h1.2⟩
theorem findN_none {m:List Rc} {h s:Int}:findN m h s=none↔ ∀x ∈ m,¬(x.hol=h∧x.ser=s):=by
 unfold findN
 rw [List.find?_eq_none]
 simp only [Bool.and_eq_true,decide_eq_true_eq]
theorem findN_eq {m:List Rc} (hg:GoodB m) {x:Rc} (hx:x ∈ m):findN m x.hol x.ser=some x:=by
 cases hf:findN m x.hol x.ser with
 | none=>exact absurd ⟨rfl,rfl⟩ (findN_none.1 hf x hx)
 | some y=>
   obtain ⟨h1,h2,h3⟩:=findN_some hf
   rw [hg.uniq hx h1 ⟨h2.symm,h3.symm⟩]
theorem findN_ins {m:List Rc} (hg:GoodB m) {r:Rc} (hr:ValidR r) (hn:findN m r.hol r.ser=none) (h s:Int):findN (insB m r) h s=if h=r.hol∧s=r.ser then some r else findN m h s:=by
 have hg2:=hg.ins hr (findN_none.1 hn)
 split
 ·rename_i e
  rw [e.1,e.2]
  exact findN_eq hg2 (mem_insB.2 (.inl rfl))
 ·rename_i e
  cases hf:findN m h s with
  | none=>
    refine findN_none.2 fun x hx hh=> ?_
    rcases mem_insB.1 hx with e1 | e1
    ·subst e1;exact e ⟨hh.1.symm,hh.2.symm⟩
    ·exact findN_none.1 hf x e1 hh
  | some y=>
    obtain ⟨h1,h2,h3⟩:=findN_some hf
    rw [← h2,← h3]
    exact findN_eq hg2 (mem_insB.2 (.inr h1))
def addP (m:List Rc) (r:Rc):List Rc × Int:=if validR r=true then (match findN m r.hol r.ser with | some x=>if x.sg=r.sg then (m,5) else (m,13) | none=>(insB m r,0)) else (m,1)
def ofB (m:List Rc) (p:Pc):List Rc:=m.filter (isPc p)
def curB (m:List Rc) (p:Pc):Option Rc:=(ofB m p).getLast?
def carB (m:List Rc) (s:ByteArray) (n:Nat):List Int:=(List.range n).map fun (i:Nat)=>match curB m ⟨s,(i:Int)⟩ with | some r=>r.hol | none=> -1
theorem curB_some {m:List Rc} {p:Pc} {x:Rc} (h:curB m p=some x):x ∈ m∧x.pc=p:=by
 have h1:=List.mem_of_getLast? h
 obtain ⟨h2,h3⟩:=List.mem_filter.1 h1
 exact ⟨h2,of_decide_eq_true h3⟩
theorem ofB_ins {m:List Rc} (hg:GoodB m) (r:Rc) (p:Pc):ofB (insB m r) p=if r.pc=p then insB (ofB m p) r else ofB m p:=by
 unfold ofB
 rw [insB_filter hg]
 unfold isPc
 by_cases h:r.pc=p<;> simp [h]
def ltS (a b:ByteArray):Bool:=decide (a.toList<b.toList)
def ltP (a b:Rc):Bool:=ltS a.str b.str || (decide (a.str=b.str) && decide (a.ix<b.ix))
theorem ltS_trans {a b c:ByteArray} (h:ltS a b=true) (k:ltS b c=true):ltS a c=true:=decide_eq_true (List.lt_trans (of_decide_eq_true h) (of_decide_eq_true k))
theorem ltS_irrefl (a:ByteArray):ltS a a=false:=decide_eq_false (List.lt_irrefl _)
theorem ltS_total {a b:ByteArray} (h:a≠b):ltS a b=true∨ltS b a=true:=by
 unfold ltS
 simp only [decide_eq_true_eq]
 by_cases h1:a.toList<b.toList
 ·exact .inl h1
 ·by_cases h2:b.toList<a.toList
  ·exact .inr h2
  ·exact absurd ((tol_iff a b).1 (List.le_antisymm (List.not_lt.1 h2) (List.not_lt.1 h1))) h
theorem ltP_iff {a b:Rc}:ltP a b=true↔ltS a.str b.str=true∨a.str=b.str∧a.ix<b.ix:=by
 unfold ltP
 simp only [Bool.or_eq_true,Bool.and_eq_true,decide_eq_true_eq]
theorem ltP_trans {a b c:Rc} (h:ltP a b=true) (k:ltP b c=true):ltP a c=true:=by
 rw [ltP_iff] at h k ⊢
 rcases h with h | ⟨h1,h2⟩<;> rcases k with k | ⟨k1,k2⟩
 ·exact .inl (ltS_trans h k)
 ·exact .inl (by rw [← k1];exact h)
 ·exact .inl (by rw [h1];exact k)
 ·exact .inr ⟨h1.trans k1,by omega⟩
theorem ltP_irrefl (a:Rc):ltP a a=false:=by
 rw [← Bool.not_eq_true,ltP_iff,ltS_irrefl]
 rintro (h | ⟨_,h⟩)
 ·cases h
 ·omega
theorem ltP_total {a b:Rc} (h:a.pc≠b.pc):ltP a b=true∨ltP b a=true:=by
 rw [ltP_iff,ltP_iff]
 by_cases hs:a.str=b.str
 ·have:a.ix≠b.ix:=fun e=>h (by unfold Rc.pc;rw [hs,e])
  rcases Int.lt_or_gt_of_ne this with h1 | h1
  ·exact .inl (.inr ⟨hs,h1⟩)
  ·exact .inr (.inr ⟨hs.symm,h1⟩)
 ·rcases ltS_total hs with h1 | h1
  ·exact .inl (.inl h1)
  ·exact .inr (.inl h1)
theorem ltP_anti {a b:Rc} (h:ltP a b=true):ltP b a=false:=by
 cases hb:ltP b a with
 | false=>rfl
 | true=>
   have:=ltP_trans h hb
   rw [ltP_irrefl] at this
   cases this
def isCur (m:List Rc) (h:Int) (x:Rc):Bool:=decide (x.hol=h) && (match curB m x.pc with | some r=>sameN r x | none=>false)
def curs (m:List Rc) (h:Int):List Rc:=m.filter (isCur m h)
theorem mem_curs {m:List Rc} (hg:GoodB m) {h:Int} {x:Rc}:x ∈ curs m h↔x ∈ m∧x.hol=h∧curB m x.pc=some x:=by
 unfold curs
 rw [List.mem_filter]
 unfold isCur
 simp only [Bool.and_eq_true,decide_eq_true_eq]
 constructor
 ·rintro ⟨h1,h2,h3⟩
  cases hc:curB m x.pc with
  | none=>rw [hc] at h3;cases h3
  | some r=>
    rw [hc] at h3
    obtain ⟨h4,h5⟩:=curB_some hc
    have:=hg.uniq h4 h1 (sameN_iff.1 h3)
    subst this
    exact ⟨h1,h2,rfl⟩
 ·rintro ⟨h1,h2,h3⟩
  rw [h3]
  exact ⟨h1,h2,sameN_iff.2 ⟨rfl,rfl⟩⟩
theorem curs_nodup {m:List Rc} (hg:GoodB m) (h:Int):(curs m h).Nodup:=(hg.filter _).nodup
theorem curs_apart {m:List Rc} (hg:GoodB m) {h:Int} {x y:Rc} (hx:x ∈ curs m h) (hy:y ∈ curs m h) (he:x.pc=y.pc):x=y:=by
 have h1:=((mem_curs hg).1 hx).2.2
 have h2:=((mem_curs hg).1 hy).2.2
 rw [he,h2] at h1
 exact (Option.some.inj h1).symm
def insP (l:List Rc) (x:Rc):List Rc:=l.takeWhile (fun y=>ltP y x)++x::l.dropWhile (fun y=>ltP y x)
def holdB (m:List Rc) (h:Int):List Rc:=(curs m h).foldl insP []
theorem insP_perm (l:List Rc) (x:Rc):(insP l x).Perm (x::l):=by
 unfold insP
 refine List.perm_middle.trans (List.Perm.cons x ?_)
 rw [List.takeWhile_append_dropWhile]
theorem fold_perm (l:List Rc): ∀a:List Rc,(l.foldl insP a).Perm (a++l):=by
 induction l with
 | nil=>intro a;rw [List.append_nil];exact .refl _
 | cons x l ih=>
   intro a
   refine (ih _).trans (((insP_perm a x).append_right l).trans ?_)
   exact List.perm_middle.symm
theorem holdB_perm (m:List Rc) (h:Int):(holdB m h).Perm (curs m h):=fold_perm _ []
theorem takeW_all {α:Type} {p:α→Bool}: ∀{l:List α} {x:α},x ∈ l.takeWhile p→p x=true
 | [],x,h=>by simp at h
 | y::l,x,h=>by
   rw [List.takeWhile_cons] at h
   split at h
   ·rcases List.mem_cons.1 h with e | e
    ·rw [e];assumption
    ·exact takeW_all e
   ·simp at h
theorem insP_sorted {l:List Rc} {x:Rc} (hs:l.Pairwise (fun a b=>ltP a b=true)) (hn: ∀y ∈ l,y.pc≠x.pc):(insP l x).Pairwise (fun a b=>ltP a b=true):=by
 unfold insP
 rw [List.pairwise_append,List.pairwise_cons]
 have hd: ∀b ∈ l.dropWhile (fun y=>ltP y x),ltP x b=true:=by
  induction l with
  | nil=>intro b hb;simp at hb
  | cons y l ih=>
    obtain ⟨h1,h2⟩:=List.pairwise_cons.1 hs
    rw [List.dropWhile_cons]
    split
    ·exact ih h2 (fun z hz=>hn z (List.mem_cons_of_mem _ hz))
    ·rename_i hf
     have hxy:ltP x y=true:=(ltP_total (hn y (List.mem_cons_self ..))).resolve_left hf
     intro b hb
     rcases List.mem_cons.1 hb with e | e
     ·rw [e];exact hxy
     ·exact ltP_trans hxy (h1 b e)
 refine ⟨hs.sublist (List.takeWhile_sublist _),⟨hd,hs.sublist (List.dropWhile_sublist _)⟩,fun a ha b hb=> ?_⟩
 have h1:=takeW_all ha
 rcases List.mem_cons.1 hb with e | e
 ·rw [e];exact h1
 ·exact ltP_trans h1 (hd b e)
theorem fold_sorted (l:List Rc): ∀a:List Rc,a.Pairwise (fun a b=>ltP a b=true)→(a++l).Pairwise (fun a b=>a.pc≠b.pc)→(l.foldl insP a).Pairwise (fun a b=>ltP a b=true):=by
 induction l with
 | nil=>intro a h _;exact h
 | cons x l ih=>
   intro a h hn
   obtain ⟨h1,h2,h3⟩:=List.pairwise_append.1 hn
   obtain ⟨h4,h5⟩:=List.pairwise_cons.1 h2
   refine ih _ (insP_sorted h (fun y hy=>h3 y hy x (List.mem_cons_self ..))) ?_
   rw [List.pairwise_append]
   refine ⟨((insP_perm a x).symm.pairwise_iff (fun {_ _} e=>Ne.symm e)).1 (List.pairwise_cons.2 ⟨fun y hy=>(h3 y hy x (List.mem_cons_self ..)).symm,h1⟩),h5,fun y hy z hz=> ?_⟩
   rcases List.mem_cons.1 ((insP_perm a x).mem_iff.1 hy) with e | e
   ·rw [e];exact h4 z hz
   ·exact h3 y e z (List.mem_cons_of_mem _ hz)
theorem curs_pcs {m:List Rc} (hg:GoodB m) (h:Int):(curs m h).Pairwise (fun a b=>a.pc≠b.pc):=by
 refine List.Pairwise.imp_of_mem ?_ (curs_nodup hg h)
 intro a b ha hb hne he
 exact hne (curs_apart hg ha hb he)
theorem holdB_sorted {m:List Rc} (hg:GoodB m) (h:Int):(holdB m h).Pairwise (fun a b=>ltP a b=true):=fold_sorted _ [] .nil (by rw [List.nil_append];exact curs_pcs hg h)
theorem holdB_eq {m:List Rc} (hg:GoodB m) {h:Int} {l:List Rc} (hp:l.Perm (curs m h)) (hs:l.Pairwise (fun a b=>ltP a b=true)):l=holdB m h:=by
 refine List.Perm.eq_of_pairwise (le:=fun a b=>ltP a b=true) ?_ hs (holdB_sorted hg h) (hp.trans (holdB_perm m h).symm)
 intro a b _ _ h1 h2
 rw [ltP_anti h1] at h2
 cases h2
def Seen (m:List Rc) (h:Int) (P:Pc→Prop) (L:List Rc):Prop:=L.Nodup∧ ∀x,x ∈ L↔(x ∈ curs m h∧ ¬P x.pc)
theorem seen_start {m:List Rc} {h:Int} {P:Pc→Prop} (hP: ∀x ∈ m,P x.pc):Seen m h P []:=⟨.nil,fun x=>⟨fun hx=>by simp at hx,fun hx=>absurd (hP x (List.mem_filter.1 hx.1).1) hx.2⟩⟩
theorem seen_hit {m:List Rc} (hg:GoodB m) {h:Int} {P:Pc→Prop} {L:List Rc} (hs:Seen m h P L) {p:Pc} (hp:P p) {x:Rc} (hc:curB m p=some x) (hx:x.hol=h):Seen m h (fun q=>P q∧q≠p) (L++[x]):=by
 obtain ⟨h1,h2⟩:=hs
 obtain ⟨h3,h4⟩:=curB_some hc
 have hxc:x ∈ curs m h:=(mem_curs hg).2 ⟨h3,hx,by rw [h4];exact hc⟩
 refine ⟨List.nodup_append.2 ⟨h1,by simp,fun a ha b hb e=> ?_⟩,fun y=> ?_⟩
 ·rw [List.mem_singleton] at hb
  subst hb
  subst e
  exact ((h2 a).1 ha).2 (by rw [h4];exact hp)
 ·rw [List.mem_append,List.mem_singleton,h2]
  constructor
  ·rintro (⟨a,b⟩ | e)
   ·exact ⟨a,fun c=>b c.1⟩
   ·subst e
    exact ⟨hxc,fun c=>c.2 h4⟩
  ·rintro ⟨a,b⟩
   by_cases hq:y.pc=p
   ·exact .inr (curs_apart hg a hxc (hq.trans h4.symm))
   ·exact .inl ⟨a,fun c=>b ⟨c,hq⟩⟩
theorem seen_miss {m:List Rc} (hg:GoodB m) {h:Int} {P:Pc→Prop} {L:List Rc} (hs:Seen m h P L) {p:Pc} (hc: ∀x,curB m p=some x→x.hol≠h):Seen m h (fun q=>P q∧q≠p) L:=by
 obtain ⟨h1,h2⟩:=hs
 refine ⟨h1,fun y=> ?_⟩
 rw [h2]
 constructor
 ·rintro ⟨a,b⟩
  exact ⟨a,fun c=>b c.1⟩
 ·rintro ⟨a,b⟩
  refine ⟨a,fun c=>b ⟨c,fun e=> ?_⟩⟩
  obtain ⟨_,h3,h4⟩:=(mem_curs hg).1 a
  exact hc y (by rw [← e];exact h4) h3
end Go.Proofs.YtndlihclgdkpaaaGreatDoor
