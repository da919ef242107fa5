/- Texts Kit, Held, Sha, Mem, Rot, Proc, Stat, Summ, Sums, Nb, Join, Pad, merged. -/
import Derived.Laws.Rows
import Derived.Lib.Hide
import Derived.WalkKit
import Derived.StillTailTactics
import Derived.Deep.QuietTactic
import Derived.BigQuiet
import Derived.BigRegion
import Derived.Deep.RegionHeld3
import Derived.Laws.BitsLemmas
import Derived.Great.FillDense
import Derived.Laws.CopyOwn
import Derived.Laws.AppendOwnNone
import Derived.Laws.BytesArg
import Derived.Maps.AppendAt
import Derived.RangeFuncBox
import Derived.OwnWalk
import Derived.WalkSpells
import Derived.WalkLawsBesides
import Derived.Lib.Bytes
import Derived.Lib.Strings
import Derived.Deep.Cut
import Derived.Deep.WholeRow
import Derived.Lib.ConvBytes
import Derived.Test.YtndlihclgdkpaaaGreatDoorRows
/- General lemmas for walks: no program is named here. -/
set_option linter.unusedVariables false
set_option linter.unusedSimpArgs false
open Go.Lib (hid)
set_option maxHeartbeats 4000000
set_option maxRecDepth 100000
namespace Go.Proofs.YtndlihclgdkpaaaGreatDoor
theorem gS {α:Type} {xs:Array α} {i:Nat} {b:α} (h:xs[i]? =some b):∃h:i<xs.size,xs[i]=b:=Array.getElem?_eq_some_iff.1 h
theorem lE {α:Type} {l:List α} {i:Nat} (h:i<l.length):l[i]? =some l[i]:=List.getElem?_eq_getElem h
theorem lD {α:Type} {l:List α} {i:Nat} {a:α}:l.getD i a=(l[i]?).getD a:=List.getD_eq_getElem?_getD
theorem cr {w:World} {g i:Nat} {cur:Array Value} {T:TypeId} {f:Nat × Nat} {x:Value} (h:w.heap[g]? =some (.cells cur T f)) (hx:cur[i]? =some x:=by rfl):w.cell? ⟨g,i,none⟩=some x:=(cell_of_row _ _ _ _ _ _ h).trans hx
namespace Kit
theorem _root_.Go.RowKit.Hid.o {p:Prop} (h:Go.RowKit.Hid p):p:=h.out
section
variable {P:Program} {ops:Array Oper}

theorem still_of_quiet {W:World} {Q:Act→Prop}: ∀(l:List Oper) (a:Act),wpQuiet P ops (fun w'=>w'=W) Q l a→wpStill P ops W Q l a
 | [],_,h=>h
 | o::rest,a,h=>by
   simp only [wpQuiet] at h
   simp only [wpStill]
   split
   ·rename_i hw
    rw [if_pos hw] at h
    obtain ⟨v,hq,hn⟩:=h
    have hq:=hq W rfl
    unfold Oper.quietAt at hq
    unfold Oper.still
    have hrest:=still_of_quiet rest _ hn
    generalize (execOp a.eval o).run P W=r at hq
    match r,hq with
    | .ok (.value u) w',hq=>obtain ⟨h1,rfl⟩:=hq;exact ⟨h1,hrest⟩
    | .ok .skip w',hq=>obtain ⟨h1,rfl⟩:=hq;exact ⟨h1,hrest⟩
    | .ok (.enter f args) w',hq=>obtain ⟨h1,h2⟩:=hq;exact ⟨h1,v,h2,hrest⟩
   ·rename_i hw
    rw [if_neg hw] at h
    exact still_of_quiet rest _ h

theorem wp_region_quiet_tail {id:Nat} {Q:Exit→Act→World→Prop} {a:Act} {w:World} {l:List Oper} (n:Nat) (hm:P.follows .mixedOrders=true) (hB:Region.lexTailB .any l.toArray n=true)
    (h:wpQuiet P l.toArray (fun w'=>w'=w.drew) (fun a'=>wpList P l.toArray Q (l.drop n) a' w.drew) (l.take n) a):(Code.region id l.toArray true).wp P Q a w:=
 wp_region_still_tail n hm hB (still_of_quiet _ _ h)
end

/-! ### What a call may have changed -/

structure Chg (M:Nat→Nat→Prop) (w w':World):Prop where
 os:w'.os=w.os
 tape:w'.tape=w.tape
 output:w'.output=w.output
 size:w.heap.size≤w'.heap.size
 other: ∀k,k<w.heap.size→(∀i,¬M k i)→w'.heap[k]? =w.heap[k]?
 cells: ∀k,(∃i,¬M k i)→ ∀c e f,w.heap[k]? =some (.cells c e f)→ ∃c',w'.heap[k]? =some (.cells c' e f)∧c'.size=c.size∧ ∀i,¬M k i→c'[i]? =c[i]?

namespace Chg
variable {M:Nat→Nat→Prop} {w w' w'':World}
theorem refl (M:Nat→Nat→Prop) (w:World):Chg M w w:=⟨rfl,rfl,rfl,Nat.le_refl _,fun _ _ _=>rfl,fun _ _ c _ _ h=>⟨c,h,rfl,fun _ _=>rfl⟩⟩
theorem trans (h:Chg M w w') (k:Chg M w' w''):Chg M w w'':=
 ⟨k.os.trans h.os,k.tape.trans h.tape,k.output.trans h.output,Nat.le_trans h.size k.size,fun b hb hM=>(k.other b (Nat.lt_of_lt_of_le hb h.size) hM).trans (h.other b hb hM),
  fun b hM c e f hc=>by
   obtain ⟨c1,h1,h2,h3⟩:=h.cells b hM c e f hc
   obtain ⟨c2,k1,k2,k3⟩:=k.cells b hM c1 e f h1
   exact ⟨c2,k1,k2.trans h2,fun i hi=>(k3 i hi).trans (h3 i hi)⟩⟩
theorem mono {M':Nat→Nat→Prop} (h:Chg M w w') (hM: ∀k i,k<w.heap.size→M k i→M' k i):Chg M' w w':=
 ⟨h.os,h.tape,h.output,h.size,fun b hb hn=>h.other b hb (fun i hi=>hn i (hM b i hb hi)),fun b hn c e f hc=>by
  have hb:b<w.heap.size:=(gS hc).1
  obtain ⟨i0,hi0⟩:=hn
  obtain ⟨c',h1,h2,h3⟩:=h.cells b ⟨i0,fun hm=>hi0 (hM b i0 hb hm)⟩ c e f hc
  exact ⟨c',h1,h2,fun i hi=>h3 i (fun hm=>hi (hM b i hb hm))⟩⟩
theorem drewN (h:Chg M w w') (n:Nat):Chg M w (w'.drewN n):=⟨h.os,h.tape,h.output,h.size,h.other,h.cells⟩
theorem drew (h:Chg M w w'):Chg M w w'.drew:=⟨h.os,h.tape,h.output,h.size,h.other,h.cells⟩
theorem of_heap (h1:w'.heap=w.heap) (h2:w'.os=w.os) (h3:w'.tape=w.tape) (h4:w'.output=w.output):Chg M w w':=
 ⟨h2,h3,h4,by rw [h1];exact Nat.le_refl _,fun b _ _=>by rw [h1],fun b _ c e f hc=>⟨c,by rw [h1];exact hc,rfl,fun _ _=>rfl⟩⟩
theorem setCell1 (w:World) (b o:Nat) (v:Value) (hM:M b o):Chg M w (w.setCell ⟨b,o,none⟩ v):=by
 refine ⟨rfl,rfl,rfl,by simp [World.setCell],fun k hk hn=> ?_,fun k hn c e f hc=> ?_⟩
 ·exact Go.RowKit.Below.heap_setCell _ _ _ _ (fun e=>hn o (by simpa [e] using hM))
 ·by_cases hk:k=b
  ·subst hk
   refine ⟨c.setIfInBounds o v,?_,by simp,fun i hi=> ?_⟩
   ·simp [World.setCell,Array.getElem?_modify,hc]
   ·rw [Array.getElem?_setIfInBounds_ne]
    rintro rfl
    exact hi hM
  ·exact ⟨c,by rw [Go.RowKit.Below.heap_setCell _ _ _ _ hk];exact hc,rfl,fun _ _=>rfl⟩
theorem setCell {b o:Nat} (h:Chg M w w') (v:Value) (hM:M b o):Chg M w (w'.setCell ⟨b,o,none⟩ v):=h.trans (setCell1 _ _ _ _ hM)
theorem alloc1 (w:World) (o:Obj):Chg M w (w.alloc o):=
 ⟨rfl,rfl,rfl,by simp,fun k hk _=>Go.RowKit.Below.heap_alloc _ _ _ hk,fun k _ c e f hc=>
  ⟨c,by rw [Go.RowKit.Below.heap_alloc _ _ _ (gS hc).1];exact hc,rfl,fun _ _=>rfl⟩⟩
theorem alloc (h:Chg M w w') (o:Obj):Chg M w (w'.alloc o):=h.trans (alloc1 _ _)
theorem of_below (h:Go.RowKit.Below w.heap.size w w'):Chg M w w':=
 ⟨h.os,h.tape,h.output,h.size,fun k hk _=>h.block k hk,fun k _ c e f hc=>
  ⟨c,by rw [h.block k (gS hc).1];exact hc,rfl,fun _ _=>rfl⟩⟩
theorem of_below' {B:Nat} (h:Go.RowKit.Below B w w') (hM: ∀k i,B≤k→k<w.heap.size→M k i):Chg M w w':=
 ⟨h.os,h.tape,h.output,h.size,fun k hk hn=>h.block k (Nat.lt_of_not_le fun hB=>hn 0 (hM k 0 hB hk)),fun k hn c e f hc=>by
  have hk:k<w.heap.size:=(gS hc).1
  obtain ⟨i,hi⟩:=hn
  exact ⟨c,by rw [h.block k (Nat.lt_of_not_le fun hB=>hi (hM k i hB hk))];exact hc,rfl,fun _ _=>rfl⟩⟩
theorem of_grown {row:Option Nat} (h:w.grownBy w' row) (hM: ∀k i,row=some k→M k i):Chg M w w':=
 ⟨h.os,h.tape,h.output,h.size,fun k hk hn=>h.block k hk (fun e=>hn 0 (hM k 0 e.symm)),fun k hn c e f hc=>by
  obtain ⟨i,hi⟩:=hn
  exact ⟨c,by rw [h.block k (gS hc).1 (fun e=>hi (hM k i e.symm))];exact hc,rfl,fun _ _=>rfl⟩⟩
theorem below (h:Chg M w w') {B:Nat} (hB:B≤w.heap.size) (hM: ∀k i,k<B→ ¬M k i):Go.RowKit.Below B w w':=
 ⟨h.os,h.tape,h.output,h.size,fun k hk=>h.other k (Nat.lt_of_lt_of_le hk hB) (fun i=>hM k i hk)⟩
theorem cell (h:Chg M w w') {b o:Nat} {v:Value} (hc:w.cell? ⟨b,o,none⟩=some v) (hM: ¬M b o):w'.cell? ⟨b,o,none⟩=some v:=by
 unfold World.cell? at hc ⊢
 split at hc
 ·rename_i c e f hb
  obtain ⟨c',h1,_,h3⟩:=h.cells b ⟨o,hM⟩ c e f hb
  simp only [h1]
  simpa [h3 o hM] using hc
 ·cases hc
end Chg
end Kit
namespace Kit
section
variable {P:Program} {md:Region.Mode} {Q:Exit→Act→World→Prop} {S:World→Prop}

def heads (P:Program) (S:World→Prop) (R:Act→Prop) (l:List Oper):List Nat→Act→Prop
 | [],a=>R a
 | i::rest,a=> ∃o,l[i]? =some o∧ ∃v,YieldsIf P l.toArray S o v a∧heads P S R l rest (a.put o.dst v)

def chain (P:Program) (Q:Exit→Act→World→Prop) (S:World→Prop) (l:List Oper):List Nat→Act→World→Prop
 | [],a,w=>Q .normal a w
 | i::rest,a,w=> ∃o,l[i]? =some o∧o.guard=none∧ ∀K:Act→World→Prop,(∀a w,S w→chain P Q S l rest a w→K a w)→o.wp P a w K Q

def chainOk (md:Region.Mode) (ops:Array Oper):List Nat→Array Bool→Bool
 | [],listed=>(Region.ready md ops listed).isEmpty
 | i::rest,listed=>decide (Region.ready md ops listed=[i]) && chainOk md ops rest (listed.setIfInBounds i true)
def headsOk (md:Region.Mode) (ops:Array Oper) (tail:List Nat):List Nat→Array Bool→Bool
 | [],listed=>chainOk md ops tail listed
 | i::rest,listed=>Region.free md ops listed i && (Region.ready md ops listed).contains i && headsOk md ops tail rest (listed.setIfInBounds i true)

theorem any_of_chain {l:List Oper}: ∀(tail:List Nat) (listed:Array Bool) (a:Act) (w:World),chainOk md l.toArray tail listed=true→chain P Q S l tail a w→wpAnyH P md l.toArray Q S tail.length listed a w
 | [],listed,a,w,hB,h=>by
   simp only [chainOk,List.isEmpty_iff] at hB
   exact wpAnyH_done hB h 0
 | i::rest,listed,a,w,hB,h=>by
   simp only [chainOk,Bool.and_eq_true,decide_eq_true_eq] at hB
   obtain ⟨o,ho,hg,hw⟩:=h
   refine wpAnyH_all hB.1 (by simp) ?_
   intro j hj
   have hji:j=i:=by simpa using hj
   subst hji
   have ho':l.toArray[j]? =some o:=by simpa using ho
   unfold wpOp
   rw [ho']
   show if Region.wanted o (yielded l.toArray a.tmps)=true then _ else _
   rw [if_pos (by simp [Region.wanted,hg])]
   exact .inl (hw _ fun a w hS hc=>⟨hS,any_of_chain rest _ a w hB.2 hc⟩)

theorem any_of_heads {l:List Oper} {tail:List Nat} {w:World} (hsel:Region.noSelect l.toArray=true) (hQ: ∀c a d v w,Q (.panic c) (a.put d v) w→Q (.panic c) a w) (hS:S w):
    ∀(idx:List Nat) (listed:Array Bool) (a:Act),headsOk md l.toArray tail idx listed=true→heads P S (fun a=>chain P Q S l tail a w) l idx a→wpAnyH P md l.toArray Q S (idx.length+tail.length) listed a w
 | [],listed,a,hB,h=>by
   rw [List.length_nil,Nat.zero_add]
   exact any_of_chain tail listed a w hB h
 | i::rest,listed,a,hB,h=>by
   simp only [headsOk,Bool.and_eq_true] at hB
   obtain ⟨o,ho,v,hy,hr⟩:=h
   rw [List.length_cons,show rest.length+1+tail.length=rest.length+tail.length+1 by omega]
   exact wpAnyH_take (by simpa using ho) hsel hB.1.1 hB.1.2 (fun c a w=>hQ c a _ v w) hy hS (any_of_heads hsel hQ hS rest _ _ hB.2 hr)

theorem wp_region_heads {id:Nat} {a:Act} {w:World} {l:List Oper} (S:World→Prop) (idx tail:List Nat) (hm:P.follows .mixedOrders=true) (hsel:Region.noSelect l.toArray=true) (hn:l.length=idx.length+tail.length)
    (hB:headsOk .any l.toArray tail idx (Array.replicate l.length false)=true) (hS:S w.drew)
    (h:heads P S (fun a=>chain P (NoPanic Q) S l tail a w.drew) l idx a):(Code.region id l.toArray true).wp P Q a w:=by
 refine wp_region_noPanic (wp_region_held (S:=S) hm ?_)
 have H:=any_of_heads hsel (fun _ _ _ _ _ h=>h) hS idx _ _ hB h
 rw [← hn] at H
 have e:l.toArray.size=l.length:=List.size_toArray
 rw [e]
 exact H
theorem chain_done {l:List Oper} {a:Act} {w:World} (h:Q .normal a w):chain P (NoPanic Q) S l [] a w:=h
theorem heads_nil {R:Act→Prop} {l:List Oper} {a:Act} (h:R a):heads P S R l [] a:=h
theorem heads_cons {R:Act→Prop} {l:List Oper} {a:Act} {i:Nat} {rest:List Nat} {o:Oper} {v:Value} (ho:l[i]? =some o) (hy:YieldsIf P l.toArray S o v a) (h:heads P S R l rest (a.put o.dst v)):heads P S R l (i::rest) a:=⟨o,ho,v,hy,h⟩
theorem chain_cons {l:List Oper} {a:Act} {w:World} {i:Nat} {rest:List Nat} {o:Oper} (ho:l[i]? =some o) (hg:o.guard=none) (h: ∀K:Act→World→Prop,(∀a w,S w→chain P Q S l rest a w→K a w)→o.wp P a w K Q):chain P Q S l (i::rest) a w:=⟨o,ho,hg,h⟩
end
end Kit
namespace Kit
section
variable {P:Program} {md:Region.Mode} {Q:Exit→Act→World→Prop} {S:World→Prop}
end
end Kit
namespace Kit
section
variable {P:Program} {ops:Array Oper} {md:Region.Mode} {Q:Exit→Act→World→Prop} {S:World→Prop} {L:Nat}

def anyS (P:Program) (md:Region.Mode) (ops:Array Oper) (Q:Exit→Act→World→Prop) (S:World→Prop) (L:Nat):Nat→Array Bool→Act→World→Prop
 | 0,listed,a,w=>Region.ready md ops listed=[]∧Q .normal a w
 | fuel+1,listed,a,w=>
   (Region.ready md ops listed=[]→Q .normal a w)∧
   ∀i ∈ Region.ready md ops listed,wpOp P ops Q i (fun a' w'=>(i≠L→S w')∧anyS P md ops Q S L fuel (listed.setIfInBounds i true) a' w') a w

theorem any_of_anyS: ∀(fuel:Nat) (listed:Array Bool) (a:Act) (w:World),anyS P md ops Q S L fuel listed a w→wpAny P md ops Q fuel listed a w
 | 0,_,_,_,h=>h
 | fuel+1,_,_,_,h=>⟨h.1,fun i hi=>wpOp_mono (fun a' w' h'=>any_of_anyS fuel _ a' w' h'.2) (h.2 i hi)⟩

theorem anyS_first {i:Nat} {oi:Oper} {v:Value} (hi:ops[i]? =some oi) (hsel: ∀(j:Nat) (o:Oper) cs b,ops[j]? =some o→o.op≠ .select cs b)
    (hQ: ∀c a w,Q (.panic c) (a.put oi.dst v) w→Q (.panic c) a w) (hL:Region.waitsFor md ops L i=true) (hiL:i≠L):
    ∀(fuel:Nat) (listed:Array Bool) (a:Act) (w:World),
     (∀(j:Nat) (oj:Oper),ops[j]? =some oj→j≠i→listed.getD j true=false→(∀e ∈ oj.after,Region.binds md e=true→e.on≠i)→oi.apart ops oj=true)→
     i ∈ Region.ready md ops listed→YieldsIf P ops S oi v a→S w→
     anyS P md ops Q S L fuel (listed.setIfInBounds i true) (a.put oi.dst v) w→anyS P md ops Q S L (fuel+1) listed a w:=by
 intro fuel
 induction fuel with
 | zero=>
   intro listed a w _ hr hy hS H
   refine ⟨fun h=>(by rw [h] at hr;cases hr),fun j hj=> ?_⟩
   by_cases hji:j=i
   ·subst hji;exact hy.wpOp hi hS ⟨fun _=>hS,H⟩
   ·have:=ready_mono hj hji
    rw [H.1] at this
    cases this
 | succ fuel ih=>
   intro listed a w hfree hr hy hS H
   refine ⟨fun h=>(by rw [h] at hr;cases hr),fun j hj=> ?_⟩
   by_cases hji:j=i
   ·subst hji;exact hy.wpOp hi hS ⟨fun _=>hS,H⟩
   ·have h1:=H.2 j (ready_mono hj hji)
    obtain ⟨hjun,oj,hoj,hall⟩:=mem_ready.1 hj
    have hnot: ∀e ∈ oj.after,Region.binds md e=true→e.on≠i:=fun e he hb heq=>by
     have h1:=hall e he hb
     have h0:=(mem_ready.1 hr).1
     rw [heq] at h1
     rcases Nat.lt_or_ge i listed.size with h' | h'
     ·simp [h'] at h0 h1;rw [h0] at h1;cases h1
     ·simp [Array.getElem?_eq_none h'] at h1
    have hjL:j≠L:=by
     rintro rfl
     obtain ⟨o',ho',e,he,hb,hon⟩:=Region.waitsFor_spec hL
     rw [hoj] at ho'
     cases ho'
     exact hnot e he hb hon
    have h2:=wpOp_putIf hoj (hfree j oj hoj hji hjun hnot) (fun cs b=>hsel i oi cs b hi) (fun cs b=>hsel j oj cs b hoj) hQ hy h1
    have hfree': ∀(k:Nat) (ok:Oper),ops[k]? =some ok→k≠i→(listed.setIfInBounds j true).getD k true=false→
        (∀e ∈ ok.after,Region.binds md e=true→e.on≠i)→oi.apart ops ok=true:=fun k ok hk hki hun hno=>by
     refine hfree k ok hk hki ?_ hno
     by_cases hjk:j=k
     ·subst hjk;exact hjun
     ·rw [getD_set_ne true hjk] at hun;exact hun
    refine wpOp_mono (fun a' w' h3=>⟨h3.2.1,ih (listed.setIfInBounds j true) a' w' hfree' (ready_mono hr (Ne.symm hji)) h3.1 (h3.2.1 hjL) ?_⟩) h2
    rw [Array.setIfInBounds_comm _ _ hji]
    exact h3.2.2

def chainL (P:Program) (Q:Exit→Act→World→Prop) (S:World→Prop) (L:Nat) (l:List Oper):List Nat→Act→World→Prop
 | [],a,w=>Q .normal a w
 | i::rest,a,w=> ∃o,l[i]? =some o∧o.guard=none∧ ∀K:Act→World→Prop,(∀a w,(i≠L→S w)→chainL P Q S L l rest a w→K a w)→o.wp P a w K Q
def headsLOk (md:Region.Mode) (ops:Array Oper) (L:Nat) (tail:List Nat):List Nat→Array Bool→Bool
 | [],listed=>chainOk md ops tail listed
 | i::rest,listed=>Region.free md ops listed i && (Region.ready md ops listed).contains i && Region.waitsFor md ops L i && decide (i≠L) && headsLOk md ops L tail rest (listed.setIfInBounds i true)

theorem anyS_of_chain {l:List Oper}: ∀(tail:List Nat) (listed:Array Bool) (a:Act) (w:World),chainOk md l.toArray tail listed=true→chainL P Q S L l tail a w→anyS P md l.toArray Q S L tail.length listed a w
 | [],_,_,_,hB,h=>by
   simp only [chainOk,List.isEmpty_iff] at hB
   exact ⟨hB,h⟩
 | i::rest,listed,a,w,hB,h=>by
   simp only [chainOk,Bool.and_eq_true,decide_eq_true_eq] at hB
   obtain ⟨o,ho,hg,hw⟩:=h
   refine ⟨fun h0=>(by rw [hB.1] at h0;cases h0),fun j hj=> ?_⟩
   rw [hB.1] at hj
   have hji:j=i:=by simpa using hj
   subst hji
   have ho':l.toArray[j]? =some o:=by simpa using ho
   unfold wpOp
   rw [ho']
   show if Region.wanted o (yielded l.toArray a.tmps)=true then _ else _
   rw [if_pos (by simp [Region.wanted,hg])]
   exact .inl (hw _ fun a w hS hc=>⟨hS,anyS_of_chain rest _ a w hB.2 hc⟩)

theorem anyS_of_heads {l:List Oper} {tail:List Nat} {w:World} (hsel:Region.noSelect l.toArray=true) (hQ: ∀c a d v w,Q (.panic c) (a.put d v) w→Q (.panic c) a w) (hS:S w):
    ∀(idx:List Nat) (listed:Array Bool) (a:Act),headsLOk md l.toArray L tail idx listed=true→heads P S (fun a=>chainL P Q S L l tail a w) l idx a→anyS P md l.toArray Q S L (idx.length+tail.length) listed a w
 | [],listed,a,hB,h=>by
   rw [List.length_nil,Nat.zero_add]
   exact anyS_of_chain tail listed a w hB h
 | i::rest,listed,a,hB,h=>by
   simp only [headsLOk,Bool.and_eq_true,decide_eq_true_eq] at hB
   obtain ⟨o,ho,v,hy,hr⟩:=h
   rw [List.length_cons,show rest.length+1+tail.length=rest.length+tail.length+1 by omega]
   have ho':l.toArray[i]? =some o:=by simpa using ho
   exact anyS_first ho' (Region.noSelect_spec hsel) (fun c a w=>hQ c a _ v w) hB.1.1.2 hB.1.2 _ _ _ _ (Region.free_spec ho' hB.1.1.1.1) (by simpa using hB.1.1.1.2) hy hS (anyS_of_heads hsel hQ hS rest _ _ hB.2 hr)

theorem chainL_cons {l:List Oper} {a:Act} {w:World} {i:Nat} {rest:List Nat} {o:Oper} (ho:l[i]? =some o) (hg:o.guard=none) (h: ∀K:Act→World→Prop,(∀a w,(i≠L→S w)→chainL P Q S L l rest a w→K a w)→o.wp P a w K Q):chainL P Q S L l (i::rest) a w:=⟨o,ho,hg,h⟩
theorem chainL_done {l:List Oper} {a:Act} {w:World} (h:Q .normal a w):chainL P (NoPanic Q) S L l [] a w:=h

theorem wp_region_headsL {id:Nat} {a:Act} {w:World} {l:List Oper} (S:World→Prop) (L:Nat) (idx tail:List Nat) (hm:P.follows .mixedOrders=true) (hsel:Region.noSelect l.toArray=true) (hn:l.length=idx.length+tail.length)
    (hB:headsLOk .any l.toArray L tail idx (Array.replicate l.length false)=true) (hS:S w.drew)
    (h:heads P S (fun a=>chainL P (NoPanic Q) S L l tail a w.drew) l idx a):(Code.region id l.toArray true).wp P Q a w:=by
 refine wp_region_noPanic (wp_region_any hm (any_of_anyS _ _ _ _ (S:=S) (L:=L) ?_))
 have H:=anyS_of_heads hsel (fun _ _ _ _ _ h=>h) hS idx _ _ hB h
 rw [← hn] at H
 have e:l.toArray.size=l.length:=List.size_toArray
 rw [e]
 exact H

end
end Kit
namespace Sha
open Go.RowKit (Hid)

def v (x:BitVec 32):Int:=(x.toNat:Int)
theorem v_nonneg (x:BitVec 32):0≤v x:=Int.natCast_nonneg _
theorem wrap32 (n:Int):IntKind.u32.wrap n=n % 4294967296:=IntKind.wrap_u32 n
theorem ofInt_v (x:BitVec 32):BitVec.ofInt 32 (v x)=x:=by
 apply BitVec.eq_of_toNat_eq
 unfold v
 rw [BitVec.toNat_ofInt]
 have:=x.isLt
 omega
theorem add_v (x y:BitVec 32):IntKind.u32.wrap (v x+v y)=v (x+y):=by
 rw [wrap32];unfold v;rw [BitVec.toNat_add];omega
theorem xor_v (x y:BitVec 32):bits .xor .u32 (v x) (v y)=v (x ^^^ y):=by
 show IntKind.u32.wrap ((BitVec.ofInt 32 (v x) ^^^ BitVec.ofInt 32 (v y)).toNat:Int)=_
 rw [ofInt_v,ofInt_v,wrap32];unfold v;have:=(x ^^^ y).isLt;omega
theorem or_v (x y:BitVec 32):bits .or .u32 (v x) (v y)=v (x ||| y):=by
 show IntKind.u32.wrap ((BitVec.ofInt 32 (v x) ||| BitVec.ofInt 32 (v y)).toNat:Int)=_
 rw [ofInt_v,ofInt_v,wrap32];unfold v;have:=(x ||| y).isLt;omega
theorem and_v (x y:BitVec 32):bits .and .u32 (v x) (v y)=v (x &&& y):=by
 show IntKind.u32.wrap ((BitVec.ofInt 32 (v x) &&& BitVec.ofInt 32 (v y)).toNat:Int)=_
 rw [ofInt_v,ofInt_v,wrap32];unfold v;have:=(x &&& y).isLt;omega
theorem shr_v (x:BitVec 32) (k:Nat):v x/((2 ^ k:Nat):Int)=v (x >>> k):=by
 unfold v;rw [BitVec.toNat_ushiftRight,Nat.shiftRight_eq_div_pow,Int.natCast_ediv]
theorem shl_v (x:BitVec 32) (k:Nat):IntKind.u32.wrap (v x*((2 ^ k:Nat):Int))=v (x <<< k):=by
 rw [wrap32];unfold v;rw [BitVec.toNat_shiftLeft,Nat.shiftLeft_eq,Int.natCast_emod,Int.natCast_mul];rfl
theorem ofNat_v (n:Nat) (h:n<4294967296):v (BitVec.ofNat 32 n)=(n:Int):=by
 unfold v;rw [BitVec.toNat_ofNat];omega
theorem byte_shl (n k c:Nat) (h:n<256) (hc:2 ^ k=c) (hk:k≤24):(n:Int)*(c:Int)=v (BitVec.ofNat 32 n <<< k):=by
 unfold v
 rw [BitVec.toNat_shiftLeft,BitVec.toNat_ofNat,Nat.shiftLeft_eq,Nat.mod_eq_of_lt (a:=n) (by omega),hc]
 have h1:c≤16777216:=by rw [← hc];exact Nat.pow_le_pow_right (by omega) hk
 have h2:n*c≤255*16777216:=Nat.mul_le_mul (by omega) h1
 rw [Nat.mod_eq_of_lt (by omega)]
 exact (Int.natCast_mul n c).symm
/-! ### The functions of the standard -/
def rot (x:BitVec 32) (k:Nat):BitVec 32:=x >>> k ||| x <<< (32 - k)
def kList:List Nat:=[
 0x428a2f98,0x71374491,0xb5c0fbcf,0xe9b5dba5,0x3956c25b,0x59f111f1,0x923f82a4,0xab1c5ed5,
 0xd807aa98,0x12835b01,0x243185be,0x550c7dc3,0x72be5d74,0x80deb1fe,0x9bdc06a7,0xc19bf174,
 0xe49b69c1,0xefbe4786,0x0fc19dc6,0x240ca1cc,0x2de92c6f,0x4a7484aa,0x5cb0a9dc,0x76f988da,
 0x983e5152,0xa831c66d,0xb00327c8,0xbf597fc7,0xc6e00bf3,0xd5a79147,0x06ca6351,0x14292967,
 0x27b70a85,0x2e1b2138,0x4d2c6dfc,0x53380d13,0x650a7354,0x766a0abb,0x81c2c92e,0x92722c85,
 0xa2bfe8a1,0xa81a664b,0xc24b8b70,0xc76c51a3,0xd192e819,0xd6990624,0xf40e3585,0x106aa070,
 0x19a4c116,0x1e376c08,0x2748774c,0x34b0bcb5,0x391c0cb3,0x4ed8aa4a,0x5b9cca4f,0x682e6ff3,
 0x748f82ee,0x78a5636f,0x84c87814,0x8cc70208,0x90befffa,0xa4506ceb,0xbef9a3f7,0xc67178f2]
theorem kList_length:kList.length=64:=by decide
theorem kList_lt: ∀t,t<64→kList.getD t 0<4294967296:=by decide
def kon (t:Nat):BitVec 32:=BitVec.ofNat 32 (kList.getD t 0)
def sig0 (y:BitVec 32):BitVec 32:=rot y 7 ^^^ rot y 18 ^^^ y >>> 3
def sig1 (x:BitVec 32):BitVec 32:=rot x 17 ^^^ rot x 19 ^^^ x >>> 10
def Sig1 (e:BitVec 32):BitVec 32:=rot e 6 ^^^ rot e 11 ^^^ rot e 25
def Sig0 (a:BitVec 32):BitVec 32:=rot a 2 ^^^ rot a 13 ^^^ rot a 22
def ch (e f g:BitVec 32):BitVec 32:=(e &&& f) ^^^ (~~~ e &&& g)
def maj (a b c:BitVec 32):BitVec 32:=(a &&& b) ^^^ (a &&& c) ^^^ (b &&& c)
def word (b0 b1 b2 b3:Nat):BitVec 32:=((BitVec.ofNat 32 b0 <<< 24 ||| BitVec.ofNat 32 b1 <<< 16) ||| BitVec.ofNat 32 b2 <<< 8) ||| BitVec.ofNat 32 b3
theorem word_bits (z0 z1 z2 z3:Nat) (h0:z0<256) (h1:z1<256) (h2:z2<256) (h3:z3<256):
    bits .or .u32 (bits .or .u32 (bits .or .u32 ((z0:Int)*(16777216:Int)) ((z1:Int)*(65536:Int))) ((z2:Int)*(256:Int))) (z3:Int)=v (word z0 z1 z2 z3):=by
 have s0:(z0:Int)*(16777216:Int)=v (BitVec.ofNat 32 z0 <<< 24):=byte_shl z0 24 16777216 h0 rfl (by omega)
 have s1:(z1:Int)*(65536:Int)=v (BitVec.ofNat 32 z1 <<< 16):=byte_shl z1 16 65536 h1 rfl (by omega)
 have s2:(z2:Int)*(256:Int)=v (BitVec.ofNat 32 z2 <<< 8):=byte_shl z2 8 256 h2 rfl (by omega)
 rw [s0,s1,s2,or_v,or_v,← ofNat_v z3 (by omega),or_v]
 rfl
def wordAt (b:List Nat) (t:Nat):BitVec 32:=word (b.getD (4*t) 0) (b.getD (4*t+1) 0) (b.getD (4*t+2) 0) (b.getD (4*t+3) 0)
def next (b:List Nat) (l:List (BitVec 32)) (t:Nat):BitVec 32:=
 if t<16 then wordAt b t else sig1 (l.getD (t - 2) 0)+l.getD (t - 7) 0+sig0 (l.getD (t - 15) 0)+l.getD (t - 16) 0
def sched (b:List Nat):Nat→List (BitVec 32)
 | 0=>[]
 | n+1=>sched b n++[next b (sched b n) n]
theorem sched_length (b:List Nat): ∀n,(sched b n).length=n
 | 0=>rfl
 | n+1=>by rw [sched,List.length_append,sched_length b n];rfl
def wAt (b:List Nat) (t:Nat):BitVec 32:=(sched b 64).getD t 0
theorem sched_getD (b:List Nat) (t n:Nat) (h:t<n):(sched b n).getD t 0=next b (sched b t) t:=by
 induction n with
 | zero=>omega
 | succ n ih=>
   rw [sched,List.getD_eq_getElem?_getD]
   by_cases e:t<n
   ·rw [List.getElem?_append_left (by rw [sched_length];exact e),← List.getD_eq_getElem?_getD,ih e]
   ·have:t=n:=by omega
    subst this
    rw [List.getElem?_append_right (by rw [sched_length];exact Nat.le_refl _),sched_length];simp

structure St where
 a:BitVec 32
 b:BitVec 32
 c:BitVec 32
 d:BitVec 32
 e:BitVec 32
 f:BitVec 32
 g:BitVec 32
 h:BitVec 32
def St.list (s:St):List (BitVec 32):=[s.a,s.b,s.c,s.d,s.e,s.f,s.g,s.h]
def t1 (s:St) (k w:BitVec 32):BitVec 32:=s.h+Sig1 s.e+ch s.e s.f s.g+k+w
def t2 (s:St):BitVec 32:=Sig0 s.a+maj s.a s.b s.c
def rnd (s:St) (k w:BitVec 32):St:=⟨t1 s k w+t2 s,s.a,s.b,s.c,s.d+t1 s k w,s.e,s.f,s.g⟩
def rounds (b:List Nat) (s:St):Nat→St
 | 0=>s
 | n+1=>rnd (rounds b s n) (kon n) (wAt b n)
def addSt (s t:St):St:=⟨s.a+t.a,s.b+t.b,s.c+t.c,s.d+t.d,s.e+t.e,s.f+t.f,s.g+t.g,s.h+t.h⟩
def comp (s:St) (b:List Nat):St:=addSt s (rounds b s 64)
def initL:List Nat:=[0x6a09e667,0xbb67ae85,0x3c6ef372,0xa54ff53a,0x510e527f,0x9b05688c,0x1f83d9ab,0x5be0cd19]
def init:St:=⟨BitVec.ofNat 32 0x6a09e667,BitVec.ofNat 32 0xbb67ae85,BitVec.ofNat 32 0x3c6ef372,BitVec.ofNat 32 0xa54ff53a,BitVec.ofNat 32 0x510e527f,BitVec.ofNat 32 0x9b05688c,BitVec.ofNat 32 0x1f83d9ab,BitVec.ofNat 32 0x5be0cd19⟩
def hs (ps:List Nat):Nat→St
 | 0=>init
 | k+1=>if (k+1) % 64=0 then comp (hs ps k) ((ps.take (k+1)).drop (k+1 - 64)) else hs ps k
theorem hs_stay (ps:List Nat) (k:Nat): ∀j,k % 64+j<64→hs ps (k+j)=hs ps k
 | 0,_=>rfl
 | j+1,h=>by
   have ih:=hs_stay ps k j (by omega)
   rw [← Nat.add_assoc,hs,if_neg (by omega),ih]
theorem hs_block (ps:List Nat) (k:Nat) (h:k % 64=0):hs ps (k+64)=comp (hs ps k) ((ps.take (k+64)).drop k):=by
 have e:hs ps (k+63)=hs ps k:=hs_stay ps k 63 (by omega)
 show hs ps (k+63+1)=_
 rw [hs,if_pos (by omega),e]
 congr 2
theorem hs_take (ps:List Nat) (n:Nat): ∀k,k≤n→hs (ps.take n) k=hs ps k
 | 0,_=>rfl
 | k+1,h=>by rw [hs,hs,hs_take ps n k (by omega),List.take_take,Nat.min_eq_left h]
theorem hs_append (ps qs:List Nat) (k:Nat) (h:k≤ps.length):hs (ps++qs) k=hs ps k:=by
 have:=hs_take (ps++qs) ps.length k h
 rw [List.take_left] at this
 exact this.symm
def bytes4 (x:BitVec 32):List Nat:=[x.toNat/16777216 % 256,x.toNat/65536 % 256,x.toNat/256 % 256,x.toNat % 256]
def digest (s:St):List Nat:=s.list.flatMap bytes4
theorem bytes4_lt (x:BitVec 32): ∀y ∈ bytes4 x,y<256:=by
 intro y hy
 simp only [bytes4,List.mem_cons,List.not_mem_nil,or_false] at hy
 omega
theorem digest_length (s:St):(digest s).length=32:=rfl
theorem digest_lt (s:St): ∀y ∈ digest s,y<256:=by
 intro y hy
 unfold digest at hy
 rw [List.mem_flatMap] at hy
 obtain ⟨x,_,hx⟩:=hy
 exact bytes4_lt x y hx
def be8 (n:Nat):List Nat:=(List.range 8).map fun i=>n/256 ^ (7 - i) % 256
def zeros (n:Nat):Nat:=(119 - n % 64) % 64
def pad (ps:List Nat):List Nat:=ps++128::(List.replicate (zeros ps.length) 0++be8 (8*ps.length))
theorem be8_length (n:Nat):(be8 n).length=8:=by simp [be8]
theorem be8_lt (n:Nat): ∀y ∈ be8 n,y<256:=by
 intro y hy
 simp only [be8,List.mem_map] at hy
 obtain ⟨i,_,rfl⟩:=hy
 exact Nat.mod_lt _ (by decide)
def sum (ps:List Nat):List Nat:=digest (hs (pad ps) (pad ps).length)
theorem sum_length (ps:List Nat):(sum ps).length=32:=digest_length _
theorem sum_lt (ps:List Nat): ∀y ∈ sum ps,y<256:=digest_lt _
/-! ### Rules for walks,under a hidden premise -/
section
variable (Q:Prop)
theorem f_add: ∀x y:BitVec 32,Hid Q→IntKind.u32.wrap (v x+v y)=v (x+y):=fun x y _=>add_v x y
theorem f_xor: ∀x y:BitVec 32,Hid Q→bits .xor .u32 (v x) (v y)=v (x ^^^ y):=fun x y _=>xor_v x y
theorem f_or: ∀x y:BitVec 32,Hid Q→bits .or .u32 (v x) (v y)=v (x ||| y):=fun x y _=>or_v x y
theorem f_and: ∀x y:BitVec 32,Hid Q→bits .and .u32 (v x) (v y)=v (x &&& y):=fun x y _=>and_v x y
theorem f_not: ∀x:BitVec 32,Hid Q→bits .xor .u32 (if IntKind.u32.signed=true then -1 else IntKind.u32.max) (v x)=v (~~~ x):=fun x _=>by
 have e:(if IntKind.u32.signed=true then (-1:Int) else IntKind.u32.max)=v (BitVec.allOnes 32):=by decide
 rw [e,xor_v]
 exact congrArg v (by rw [BitVec.xor_comm,BitVec.xor_allOnes])
theorem f_shr10: ∀x:BitVec 32,Hid Q→v x/(1024:Int)=v (x >>> 10):=fun x _=>shr_v x 10
theorem f_shr3: ∀x:BitVec 32,Hid Q→v x/(8:Int)=v (x >>> 3):=fun x _=>shr_v x 3
theorem f_nonneg: ∀x:BitVec 32,Hid Q→0≤v x:=fun x _=>v_nonneg x
theorem f_shr (k:Nat): ∀x:BitVec 32,Hid Q→v x/2 ^ k=v (x >>> k):=fun x _=>by
 have:=shr_v x k
 rw [Int.natCast_pow] at this
 exact this
theorem f_shl (k:Nat): ∀x:BitVec 32,Hid Q→IntKind.u32.wrap (v x*2 ^ k)=v (x <<< k):=fun x _=>by
 have:=shl_v x k
 rw [Int.natCast_pow] at this
 exact this
end
end Sha
end Go.Proofs.YtndlihclgdkpaaaGreatDoor
namespace Go.Proofs.YtndlihclgdkpaaaGreatDoor
open Go.RowKit
open Kit (Chg)
theorem ne_addr {b i j:Nat} (h:i≠j):(⟨b,i,none⟩:Addr)≠⟨b,j,none⟩:=by
 intro e;cases e;exact h rfl
theorem set_other {w:World} {b i j:Nat} {v x:Value} (h:w.cell? ⟨b,j,none⟩=some x) (hne:i≠j):(w.setCell ⟨b,i,none⟩ v).cell? ⟨b,j,none⟩=some x:=
 (World.cell?_setCell_other _ _ _ _ (ne_addr hne)).trans h
theorem wp_over {P:Program} {c:Code} {Q:Exit→Act→World→Prop} {a:Act} {w:World} (I:World→Prop) (h0:I w) (h: ∀w',I w'→c.wp P Q a w'):c.wp P Q a w:=h w h0
def Drawn (w1 wr:World):Prop:= ∃n,wr=w1.drewN n
theorem Drawn.refl (w:World):Drawn w w:=⟨0,rfl⟩
theorem ownsRow_keep {w w':World} {base e size n:Nat} {v:Value} {xs:List Value} {M:Nat→Nat→Prop} (h:w.ownsRow base e size v n xs) (hc:Chg M w w') (hM: ∀g,base≤g→ ∀i,¬M g i):w'.ownsRow base e size v n xs:=by
 refine ⟨h.1,?_⟩
 rcases h.2 with hn | ⟨g,cap,cur,rfl,hb,hg,r⟩
 ·exact .inl hn
 ·exact .inr ⟨g,cap,cur,rfl,hb,(hc.other g (gS hg).1 (hM g hb)).trans hg,r⟩
def BytesAt (w:World) (a:Option Addr) (bs:List Nat):Prop:=
 (bs=[]∨ ∃b o,a=some ⟨b,o,none⟩∧ ∀i,i<bs.length→w.cell? ⟨b,o+i,none⟩=some (.int .u8 ((bs.getD i 0:Nat):Int)))∧(∀x ∈ bs,x<256)∧bs.length≤maxLen
theorem BytesAt.some {w:World} {a:Option Addr} {bs:List Nat} (h:BytesAt w a bs) (hl:0<bs.length): ∃b o,a=Option.some ⟨b,o,none⟩∧ ∀i,i<bs.length→w.cell? ⟨b,o+i,none⟩=Option.some (.int .u8 ((bs.getD i 0:Nat):Int)):=by
 rcases h.1 with e | e
 ·subst e;simp at hl
 ·exact e
theorem BytesAt.getD_lt {w:World} {a:Option Addr} {bs:List Nat} (h:BytesAt w a bs) (k:Nat) (hk:k<bs.length):bs.getD k 0<256:=by
 rw [lD,lE hk];exact h.2.1 _ (List.getElem_mem hk)
theorem BytesAt.later {w w':World} {a:Option Addr} {bs:List Nat} (h:BytesAt w a bs) (hb:Below w.heap.size w w'):BytesAt w' a bs:=by
 refine ⟨?_,h.2.1,h.2.2⟩
 rcases h.1 with e | ⟨b,o,e,hc⟩
 ·exact .inl e
 ·exact .inr ⟨b,o,e,fun i hi=>(hb.cell (p:=⟨b,o+i,none⟩) (World.block_lt_of_cell? w _ (hc i hi))).trans (hc i hi)⟩
theorem ownsRow_keepM {w w':World} {base e size n:Nat} {v:Value} {xs:List Value} {M:Nat→Nat→Prop} (h:w.ownsRow base e size v n xs) (hc:Chg M w w') (hM: ∀g,v.ownBlock=some g→ ∀i,¬M g i):w'.ownsRow base e size v n xs:=by
 refine ⟨h.1,?_⟩
 rcases h.2 with hn | ⟨g,cap,cur,rfl,hb,hg,r⟩
 ·exact .inl hn
 ·exact .inr ⟨g,cap,cur,rfl,hb,(hc.other g (gS hg).1 (hM g rfl)).trans hg,r⟩
theorem row_type {w:World} {base e size n g:Nat} {v:Value} {xs:List Value} (h:w.ownsRow base e size v n xs) (hg:v.ownBlock=some g): ∃cur,w.heap[g]? =some (.cells cur e (0,0)):=by
 rcases h.2 with ⟨rfl,_⟩ | ⟨g',cap,cur,rfl,hb,hgg,r⟩
 ·simp [Value.ownBlock] at hg
 ·obtain rfl:g'=g:=by simpa [Value.ownBlock] using hg
  exact ⟨cur,hgg⟩
theorem not_row_of {W:World} {base e size n k:Nat} {v:Value} {xs:List Value} {c:Array Value} {T:TypeId} {f:Nat × Nat} (hr:W.ownsRow base e size v n xs) (hk:W.heap[k]? =some (.cells c T f)) (hT:T≠e):some k≠v.ownBlock:=by
 rcases hr.2 with ⟨rfl,_⟩ | ⟨g,cap,cur,rfl,_,hgb,_⟩
 ·simp [Value.ownBlock]
 ·intro e'
  obtain rfl:k=g:=by simpa [Value.ownBlock] using e'
  rw [hgb] at hk
  cases hk
  exact hT rfl
theorem rows_apart {w:World} {base base' e e' size size' n n':Nat} {v v':Value} {xs xs':List Value} (h:w.ownsRow base e size v n xs) (h':w.ownsRow base' e' size' v' n' xs') (he:e≠e') {g:Nat} (hg:v.ownBlock=some g):some g≠v'.ownBlock:=by
 obtain ⟨cur,ht⟩:=row_type h hg
 exact not_row_of h' ht he
def natV (zs:List Nat):List Value:=zs.map fun (z:Nat)=>Value.int .i64 (z:Int)
theorem natV_length (zs:List Nat):(natV zs).length=zs.length:=by simp [natV]
theorem natV_get (zs:List Nat) (i:Nat) (h:i<zs.length):(natV zs)[i]? =some (.int .i64 ((zs.getD i 0:Nat):Int)):=by simp [natV,h]
def IntsAt (w:World) (a:Option Addr) (zs:List Nat):Prop:=
 zs=[]∨ ∃b o,a=some ⟨b,o,none⟩∧ ∀i,i<zs.length→w.cell? ⟨b,o+i,none⟩=some (.int .i64 ((zs.getD i 0:Nat):Int))
theorem IntsAt.later {w w':World} {a:Option Addr} {zs:List Nat} (h:IntsAt w a zs) (hb:Below w.heap.size w w'):IntsAt w' a zs:=by
 rcases h with e | ⟨b,o,e,hc⟩
 ·exact .inl e
 ·exact .inr ⟨b,o,e,fun i hi=>(hb.cell (p:=⟨b,o+i,none⟩) (World.block_lt_of_cell? w _ (hc i hi))).trans (hc i hi)⟩
theorem ints_of_own {w:World} {base n:Nat} {v:Value} {zs:List Nat} (h:w.ownsRow base 3 1 v n (natV zs)):n=zs.length∧ ∃a cap,v= .slice a zs.length cap∧zs.length≤cap∧cap≤maxLen∧IntsAt w a zs∧(a=none→cap=0):=by
 obtain ⟨hl,hv⟩:=h
 rw [natV_length,Nat.mul_one] at hl
 subst hl
 refine ⟨rfl,?_⟩
 rcases hv with ⟨rfl,h0⟩ | ⟨g,cap,cur,rfl,_,hg,hnc,hcm,hcs,htake⟩
 ·exact ⟨none,0,by rw [h0],by omega,Nat.zero_le _,.inl (List.eq_nil_of_length_eq_zero h0),fun _=>rfl⟩
 ·refine ⟨some ⟨g,0,none⟩,cap,rfl,hnc,hcm,.inr ⟨g,0,rfl,fun i hi=> ?_⟩,fun e=>by cases e⟩
  rw [Nat.zero_add,cell_of_row _ _ _ _ _ _ hg]
  have h1:=natV_get zs i hi
  rw [← htake,Nat.mul_one,List.getElem?_take_of_lt hi] at h1
  simpa using h1
theorem ownsRow_base {w:World} {base base' e size n:Nat} {v:Value} {xs:List Value} (h:w.ownsRow base e size v n xs) (hb:base'≤base):w.ownsRow base' e size v n xs:=by
 refine ⟨h.1,?_⟩
 rcases h.2 with hn | ⟨g,cap,cur,rfl,hg,r⟩
 ·exact .inl hn
 ·exact .inr ⟨g,cap,cur,rfl,Nat.le_trans hb hg,r⟩
theorem natV_app (zs:List Nat) (x:Nat):natV (zs++[x])=natV zs++[.int .i64 (x:Int)]:=by simp [natV]
def SrcAt (w:World) (a:Option Addr) (m c size:Nat) (news:List Value):Prop:=
 (a=none∧m=0∧c=0∧news=[])∨(news.length=m*size∧ ∃ad,a=some ad∧ ∀j u,news[j]? =some u→w.cell? (ad.add j)=some u)
theorem wpList_append_src {P:Program} {w:World} {ops:Array Oper} {rest:List Oper} {o:Oper} {a:Act} {Q:Exit→Act→World→Prop} (hgd:o.guard=none) (s x:Operand) (t:TypeId)
    (ho:o.op= .call { callee:= .builtin .append,args:= #[s,x],argTypes:= #[t,t] })
    (base:Nat) (e:TypeId) (i:TypeInfo) (z:Value) (size bytes:Nat) (ht:P.underlying t=some (.slice e)) (hi:P.info? e=some i) (hz:i.zero=some z)
    (hsize:i.size=size) (hby:i.bytes=bytes) (hzs:z.cells.size=size) (hsz:0<size)
    (v:Value) (n:Nat) (xs:List Value) (hs:a.eval s=v) (hown:w.ownsRow base e size v n xs)
    (ao:Option Addr) (m c:Nat) (news:List Value) (hx:a.eval x= .slice ao m c) (hsrc:SrcAt w ao m c size news) (h1: ∀u ∈ news,u.oneCell'=true)
    (h63:n+m≤maxLen) (hbytes:(n+m)*bytes≤140737488355328) (hbase:base≤w.heap.size)
    (h: ∀v' w',w'.ownsRow base e size v' (n+m) (xs++news)→w.grownBy w' v.ownBlock→wpList P ops Q rest (a.put o.dst v') w'):wpList P ops Q (o::rest) a w:=by
 rcases hsrc with ⟨rfl,rfl,rfl,rfl⟩ | ⟨hl,ad,rfl,hnews⟩
 ·refine wpList_append_own_none hgd s x t ho base e i size ht hi v n xs hs hown hx ?_
  refine h v w ?_ ⟨rfl,rfl,rfl,Nat.le_refl _,fun _ _ _=>rfl⟩
  rw [List.append_nil,Nat.add_zero];exact hown
 ·exact wpList_append_own w hgd s x t ho base e i z size bytes ht hi hz hsize hby hzs hsz v n xs hs hown ad m c news hx hl hnews h1 h63 hbytes hbase (fun v' w' a b _=>h v' w' a b)
def bvals (bs:List Nat):List Value:=bs.map fun (x:Nat)=>Value.int .u8 (x:Int)
theorem bvals_length (bs:List Nat):(bvals bs).length=bs.length:=by simp [bvals]
theorem bvals_one (bs:List Nat): ∀v ∈ bvals bs,v.oneCell'=true:=by
 intro v hv
 simp only [bvals,List.mem_map] at hv
 obtain ⟨x,_,rfl⟩:=hv
 rfl
theorem bvals_append (bs cs:List Nat):bvals (bs++cs)=bvals bs++bvals cs:=by simp [bvals]
theorem add_none (b o j:Nat):(⟨b,o,none⟩:Addr).add j=⟨b,o+j,none⟩:=by unfold Addr.add;split<;> simp_all
theorem BytesAt.src {w:World} {a:Option Addr} {bs:List Nat} (h:BytesAt w a bs) (c:Nat) (hc:a=none→c=0):SrcAt w a bs.length c 1 (bvals bs):=by
 rcases h.1 with e | ⟨b,o,e,hcell⟩
 ·subst e
  cases a with
  | none=>exact .inl ⟨rfl,rfl,hc rfl,rfl⟩
  | some ad=>exact .inr ⟨rfl,ad,rfl,fun j u hu=>by simp [bvals] at hu⟩
 ·subst e
  refine .inr ⟨by rw [bvals_length,Nat.mul_one],_,rfl,fun j u hu=> ?_⟩
  have hj:j<bs.length:=by
   have:=(List.getElem?_eq_some_iff.1 hu).1
   rwa [bvals_length] at this
  rw [add_none,hcell j hj,← hu]
  simp [bvals,hj]
theorem bytes_of_own {w:World} {base n:Nat} {v:Value} {bs:List Nat} (h:w.ownsRow base 5 1 v n (bvals bs)) (hb: ∀x ∈ bs,x<256) (hm:bs.length≤maxLen):
    n=bs.length∧ ∃a cap,v= .slice a bs.length cap∧bs.length≤cap∧cap≤maxLen∧BytesAt w a bs∧(a=none→cap=0):=by
 obtain ⟨hl,hv⟩:=h
 rw [bvals_length,Nat.mul_one] at hl
 subst hl
 refine ⟨rfl,?_⟩
 rcases hv with ⟨rfl,h0⟩ | ⟨g,cap,cur,rfl,_,hg,hnc,hcm,hcs,htake⟩
 ·have:bs=[]:=List.eq_nil_of_length_eq_zero h0
  subst this
  exact ⟨none,0,rfl,Nat.le_refl _,Nat.zero_le _,⟨.inl rfl,hb,hm⟩,fun _=>rfl⟩
 ·refine ⟨some ⟨g,0,none⟩,cap,rfl,hnc,hcm,⟨.inr ⟨g,0,rfl,fun i hi=> ?_⟩,hb,hm⟩,fun e=>by cases e⟩
  rw [Nat.zero_add,cell_of_row _ _ _ _ _ _ hg]
  have h1:(bvals bs)[i]? =some (.int .u8 ((bs.getD i 0:Nat):Int)):=by simp [bvals,hi]
  rw [← htake,Nat.mul_one,List.getElem?_take_of_lt hi] at h1
  simpa using h1
theorem wp_append_src {P:Program} {w:World} {o:Oper} {a:Act} {K:Act→World→Prop} {Q:Exit→Act→World→Prop} (s x:Operand) (t:TypeId)
    (ho:o.op= .call { callee:= .builtin .append,args:= #[s,x],argTypes:= #[t,t] })
    (base:Nat) (e:TypeId) (i:TypeInfo) (z:Value) (size bytes:Nat) (ht:P.underlying t=some (.slice e)) (hi:P.info? e=some i) (hz:i.zero=some z)
    (hsize:i.size=size) (hby:i.bytes=bytes) (hzs:z.cells.size=size) (hsz:0<size)
    (v:Value) (n:Nat) (xs:List Value) (hs:a.eval s=v) (hown:w.ownsRow base e size v n xs)
    (ao:Option Addr) (m c:Nat) (news:List Value) (hx:a.eval x= .slice ao m c) (hsrc:SrcAt w ao m c size news) (h1: ∀u ∈ news,u.oneCell'=true)
    (h63:n+m≤maxLen) (hbytes:(n+m)*bytes≤140737488355328) (hbase:base≤w.heap.size)
    (h: ∀v' w',w'.ownsRow base e size v' (n+m) (xs++news)→w.grownBy w' v.ownBlock→K (a.put o.dst v') w'):o.wp P a w K Q:=by
 rcases hsrc with ⟨rfl,rfl,rfl,rfl⟩ | ⟨hl,ad,rfl,hnews⟩
 ·have hrun:=run_append_owned_none (P:=P) (w:=w) base t o.type e i size ht hi v n xs hown
  unfold Oper.wp
  simp [execOp,ho,resolve,invoke,builtin,hs,hx,hrun,Result.andThen]
  exact h v w (by rw [List.append_nil,Nat.add_zero];exact hown) ⟨rfl,rfl,rfl,Nat.le_refl _,fun _ _ _=>rfl⟩
 ·exact wp_append_own w s x t ho base e i z size bytes ht hi hz hsize hby hzs hsz v n xs hs hown ad m c news hx hl hnews h1 h63 hbytes hbase (fun v' w' a b _=>h v' w' a b)
theorem bvals_snoc (bs:List Nat) (x:Nat):bvals (bs++[x])=bvals bs++[.int .u8 (x:Int)]:=by simp [bvals]
def subA (a:Option Addr) (l cap:Nat):Option Addr:=if cap=l then a else a.map (·.add (l*1))
theorem subA_none {a:Option Addr} {l cap:Nat} (hnil:a=none→cap=0) (h:subA a l cap=none):cap - l=0:=by
 unfold subA at h
 split at h
 ·omega
 ·rw [Option.map_eq_none_iff] at h
  rw [hnil h];omega
theorem subA_some {b o l cap:Nat} (h:l<cap):subA (some ⟨b,o,none⟩) l cap=some ⟨b,o+l,none⟩:=by
 unfold subA
 rw [if_neg (by omega),Option.map_some,Nat.mul_one,add_none]
theorem bytesAt_sub {w:World} {a:Option Addr} {bs:List Nat} {cap:Nat} (h:BytesAt w a bs) (hc:bs.length≤cap) (l k:Nat):BytesAt w (subA a l cap) ((bs.take k).drop l):=by
 refine ⟨?_,fun x hx=>h.2.1 x (List.mem_of_mem_take (List.mem_of_mem_drop hx)),by rw [List.length_drop,List.length_take];have:=h.2.2;omega⟩
 by_cases h0:(bs.take k).drop l=[]
 ·exact .inl h0
 ·have h1:=List.length_pos_iff.2 h0
  rw [List.length_drop,List.length_take] at h1
  obtain ⟨b,o,rfl,hcell⟩:=h.some (by omega)
  refine .inr ⟨b,o+l,subA_some (by omega),fun i hi=> ?_⟩
  rw [List.length_drop,List.length_take] at hi
  rw [Nat.add_assoc,hcell (l+i) (by omega)]
  simp [List.getD,List.getElem?_take,show l+i<k by omega]
def strB (bs:List Nat):ByteArray:=strOfNums (bs.map fun (x:Nat)=>(x:Int))
theorem conv_bytes {w:World} {a:Option Addr} {bs:List Nat} (h:BytesAt w a bs) (cap:Nat):(convert 52 9 (.slice a bs.length cap)).run Tryz.prog w= .ok (.string (strB bs)) w:=by
 cases a with
 | none=>
   have hn:bs=[]:=by
    by_cases h0:bs=[]
    ·exact h0
    ·obtain ⟨b,o,e,_⟩:=h.some (by have:=List.length_pos_iff.2 h0;omega)
     cases e
   rw [hn]
   exact run_convert_bytes_nil w 52 5 (by exact Tryz.underlying52) (by exact Tryz.underlying5) _ _ 9 (by exact Tryz.underlying9)
 | some ad=>
   rcases h.1 with e | ⟨b,o,e,hc⟩
   ·have hn:bs=[]:=e
    subst hn
    rw [run_convert_bytes_string w 52 9 5 _ _ cap Tryz.underlying52 Tryz.underlying5 Tryz.underlying9]
    show (Conv.bytesToString (.slice (some ad) 0 cap)).run Tryz.prog w=_
    rw [run_bytesToString w ad 0 cap [] (by simpa using run_loadCells_list (P:= Tryz.prog) w ad [] (fun j v hj=>by simp at hj))]
    rfl
   ·cases e
    refine run_convert_bytes_arg w 52 5 Tryz.underlying52 Tryz.underlying5 b o bs.length cap _ (by simp) (fun i hi=> ?_) 9 Tryz.underlying9
    rw [hc i hi]
    simp [lE hi,List.getD]
theorem Tryz.sizeOf5 (W:World):(Go.sizeOf 5).run Tryz.prog W= .ok 1 W:=by kernel_rfl
theorem Tryz.elemB: Tryz.prog.elem 52 =5:=by kernel_rfl
theorem Tryz.info5:(Tryz.prog.info? 5).map (fun i=>(i.zero,i.size,i.bytes))=some (some (.int .u8 0),1,1):=by kernel_rfl
theorem Tryz.info3:(Tryz.prog.info? 3).map (fun i=>(i.zero,i.size,i.bytes))=some (some (.int .i64 0),1,8):=by kernel_rfl
theorem Tryz.info9:(Tryz.prog.info? 9).map (fun i=>(i.zero,i.size,i.bytes))=some (some (.string ByteArray.empty),1,16):=by kernel_rfl
theorem slice_lh (a:Option Addr) (n cap l h:Nat) (hl:l≤h) (hh:h≤cap) (W:World):(Instr.slice 52 (.slice a n cap) (some (.int .i64 (l:Int))) (some (.int .i64 (h:Int))) none).run Tryz.prog W= .ok (.slice (subA a l cap) (h - l) (cap - l)) W:=by
 rw [run_slice_lh W 52 _ _ _ (by rw [Tryz.elemB];exact Tryz.underlying52) .i64 .i64 _ _ (by omega) (by omega) (by omega),Tryz.elemB,Tryz.sizeOf5]
 simp [Result.andThen,sliced,subA]
theorem slice_h (a:Option Addr) (n cap h:Nat) (hh:h≤cap) (W:World):(Instr.slice 52 (.slice a n cap) none (some (.int .i64 (h:Int))) none).run Tryz.prog W= .ok (.slice (subA a 0 cap) h cap) W:=by
 rw [run_slice_h W 52 _ _ _ (by rw [Tryz.elemB];exact Tryz.underlying52) .i64 _ (by omega) (by omega),Tryz.elemB,Tryz.sizeOf5]
 simp [Result.andThen,sliced,subA]
theorem slice_l (a:Option Addr) (n cap l:Nat) (hl:l≤n) (W:World):(Instr.slice 52 (.slice a n cap) (some (.int .i64 (l:Int))) none none).run Tryz.prog W= .ok (.slice (subA a l cap) (n - l) (cap - l)) W:=by
 rw [run_slice_l W 52 _ _ _ (by rw [Tryz.elemB];exact Tryz.underlying52) .i64 _ (by omega) (by omega),Tryz.elemB,Tryz.sizeOf5]
 simp [Result.andThen,sliced,subA]
end Go.Proofs.YtndlihclgdkpaaaGreatDoor
namespace Go.Proofs.YtndlihclgdkpaaaGreatDoor
open Go.RowKit
open Kit (Chg)
open Sha (v)

theorem and31 (k:Nat) (h0:0<k) (h:k<32):bits .and .u64 (18446744073709551616 - (k:Int)) 31=((32 - k:Nat):Int):=by
 have e:(18446744073709551616:Int) - (k:Int)=((18446744073709551616 - k:Nat):Int):=by omega
 rw [e]
 have:=u64_and_nat (18446744073709551616 - k) 31 (by omega) (by decide)
 rw [nat_mask5] at this
 have e2:(18446744073709551616 - k) % 32=32 - k:=by omega
 rw [e2] at this
 exact this
theorem rotr_any (x:BitVec 32) (k:Nat) (h0:0<k) (h:k<32) (w:World):
    Calls Tryz.prog 290 #[.int .u32 (v x),.int .i64 (-(k:Int))] w fun e w'=>e= .returned (.int .u32 (v (Sha.rot x k)))∧w=w':=by
 have r1:=and31 k h0 h
 obtain ⟨m,hm⟩: ∃m,32 - k=m:=⟨_,rfl⟩
 have hk:k=32 - m:=by omega
 have hrot:Sha.rot x k=x <<< m ||| x >>> (32 - m):=by
  unfold Sha.rot
  rw [hm,← hk]
  exact BitVec.or_comm ..
 rw [hrot]
 rw [hm] at r1
 have hm32:m<32:=by omega
 have hm0:0<m:=by omega
 obtain ⟨Q0,hq0⟩: ∃Q:Prop,Hid Q:=⟨True,trivial⟩
 have r2:=Sha.f_shl Q0 m
 have r3:=Sha.f_shr Q0 (32 - m)
 have r4:=Sha.f_or Q0
 have r9:=Sha.f_nonneg Q0
 have e1:IntKind.u64.wrap (-(k:Int))=18446744073709551616 - (k:Int):=by rw [IntKind.wrap_u64];omega
 have e2:IntKind.u64.wrap (32 - (m:Int))=((32 - m:Nat):Int):=by rw [IntKind.wrap_u64];omega
 clear hm hk hrot
 go_enter Tryz.func290,Tryz.ntmps290
 go_wp2
 go_ret
 exact ⟨rfl,rfl⟩
theorem rotr2 (x:BitVec 32) (w:World):Calls Tryz.prog 290 #[.int .u32 (v x),.int .i64 (-2)] w fun e w'=>e= .returned (.int .u32 (v (Sha.rot x 2)))∧w=w':=rotr_any x 2 (by decide) (by decide) w
theorem rotr6 (x:BitVec 32) (w:World):Calls Tryz.prog 290 #[.int .u32 (v x),.int .i64 (-6)] w fun e w'=>e= .returned (.int .u32 (v (Sha.rot x 6)))∧w=w':=rotr_any x 6 (by decide) (by decide) w
theorem rotr7 (x:BitVec 32) (w:World):Calls Tryz.prog 290 #[.int .u32 (v x),.int .i64 (-7)] w fun e w'=>e= .returned (.int .u32 (v (Sha.rot x 7)))∧w=w':=rotr_any x 7 (by decide) (by decide) w
theorem rotr11 (x:BitVec 32) (w:World):Calls Tryz.prog 290 #[.int .u32 (v x),.int .i64 (-11)] w fun e w'=>e= .returned (.int .u32 (v (Sha.rot x 11)))∧w=w':=rotr_any x 11 (by decide) (by decide) w
theorem rotr13 (x:BitVec 32) (w:World):Calls Tryz.prog 290 #[.int .u32 (v x),.int .i64 (-13)] w fun e w'=>e= .returned (.int .u32 (v (Sha.rot x 13)))∧w=w':=rotr_any x 13 (by decide) (by decide) w
theorem rotr17 (x:BitVec 32) (w:World):Calls Tryz.prog 290 #[.int .u32 (v x),.int .i64 (-17)] w fun e w'=>e= .returned (.int .u32 (v (Sha.rot x 17)))∧w=w':=rotr_any x 17 (by decide) (by decide) w
theorem rotr18 (x:BitVec 32) (w:World):Calls Tryz.prog 290 #[.int .u32 (v x),.int .i64 (-18)] w fun e w'=>e= .returned (.int .u32 (v (Sha.rot x 18)))∧w=w':=rotr_any x 18 (by decide) (by decide) w
theorem rotr19 (x:BitVec 32) (w:World):Calls Tryz.prog 290 #[.int .u32 (v x),.int .i64 (-19)] w fun e w'=>e= .returned (.int .u32 (v (Sha.rot x 19)))∧w=w':=rotr_any x 19 (by decide) (by decide) w
theorem rotr22 (x:BitVec 32) (w:World):Calls Tryz.prog 290 #[.int .u32 (v x),.int .i64 (-22)] w fun e w'=>e= .returned (.int .u32 (v (Sha.rot x 22)))∧w=w':=rotr_any x 22 (by decide) (by decide) w
theorem rotr25 (x:BitVec 32) (w:World):Calls Tryz.prog 290 #[.int .u32 (v x),.int .i64 (-25)] w fun e w'=>e= .returned (.int .u32 (v (Sha.rot x 25)))∧w=w':=rotr_any x 25 (by decide) (by decide) w
def KonAt (w:World):Prop:= ∀t,t<64→w.cell? ⟨2,t,none⟩=some (.int .u32 (v (Sha.kon t)))
structure WAt (w:World) (N:Nat) (xs:List Nat) (k:Nat):Prop where
 done: ∀i,i<k→w.cell? ⟨N,i,none⟩=some (.int .u32 (v ((Sha.sched xs 64).getD i 0)))
 cell: ∀i,i<64→ ∃y,w.cell? ⟨N,i,none⟩=some y
 free: ∀i,i<64→w.frozen? ⟨N,i,none⟩=false
def WordsAt (w:World) (b o:Nat) (s:Sha.St):Prop:= ∀i,i<8→w.cell? ⟨b,o+i,none⟩=some (.int .u32 (v (s.list.getD i 0)))

theorem WordsAt.later {w w':World} {b o:Nat} {s:Sha.St} (h:WordsAt w b o s) (hb:Below w.heap.size w w'):WordsAt w' b o s:=fun i hi=>(hb.cell (p:=⟨b,o+i,none⟩) (World.block_lt_of_cell? w _ (h i hi))).trans (h i hi)
theorem WAt.later {w w':World} {N:Nat} {xs:List Nat} {k:Nat} (h:WAt w N xs k) (hb:Below w.heap.size w w'):WAt w' N xs k:=by
 refine ⟨fun i hi=>(hb.cell (p:=⟨N,i,none⟩) (World.block_lt_of_cell? w _ (h.done i hi))).trans (h.done i hi),fun i hi=> ?_,fun i hi=> ?_⟩
 ·obtain ⟨y,hy⟩:=h.cell i hi
  exact ⟨y,(hb.cell (p:=⟨N,i,none⟩) (World.block_lt_of_cell? w _ hy)).trans hy⟩
 ·obtain ⟨y,hy⟩:=h.cell i hi
  exact (hb.frozen (p:=⟨N,i,none⟩) (World.block_lt_of_cell? w _ hy)).trans (h.free i hi)
def RndRel (xs:List Nat) (s:Sha.St) (k:Nat) (a b c d e f g h:Value):Prop:=
 a= .int .u32 (v (Sha.rounds xs s k).a)∧b= .int .u32 (v (Sha.rounds xs s k).b)∧c= .int .u32 (v (Sha.rounds xs s k).c)∧d= .int .u32 (v (Sha.rounds xs s k).d)∧
 e= .int .u32 (v (Sha.rounds xs s k).e)∧f= .int .u32 (v (Sha.rounds xs s k).f)∧g= .int .u32 (v (Sha.rounds xs s k).g)∧h= .int .u32 (v (Sha.rounds xs s k).h)
structure FinAt (w:World) (b o:Nat) (t:Sha.St) (k:Nat):Prop where
 done: ∀i,i<k→w.cell? ⟨b,o+i,none⟩=some (.int .u32 (v (t.list.getD i 0)))
 cell: ∀i,i<8→ ∃y,w.cell? ⟨b,o+i,none⟩=some y
 free: ∀i,i<8→w.frozen? ⟨b,o+i,none⟩=false
theorem FinAt.step {w:World} {b o:Nat} {t:Sha.St} {k:Nat} {y:BitVec 32} (h:FinAt w b o t k) (hk:k<8) (hy:y=t.list.getD k 0):FinAt (w.setCell ⟨b,o+k,none⟩ (.int .u32 (v y))) b o t (k+1):=by
 obtain ⟨old,ho⟩:=h.cell k hk
 refine ⟨fun i hi=> ?_,fun i hi=> ?_,fun i hi=>by rw [World.frozen?_setCell];exact h.free i hi⟩
 ·by_cases e:i=k
  ·subst e
   rw [← hy]
   exact World.cell?_setCell_same _ _ _ ho
  ·exact set_other (h.done i (by omega)) (by omega)
 ·by_cases e:i=k
  ·subst e;exact ⟨_,World.cell?_setCell_same _ _ _ ho⟩
  ·obtain ⟨y',hy'⟩:=h.cell i hi
   exact ⟨y',set_other hy' (by omega)⟩
theorem FinAt.drew {w:World} {b o:Nat} {t:Sha.St} {k:Nat} (h:FinAt w b o t k):FinAt w.drew b o t k:=⟨h.done,h.cell,h.free⟩
theorem run_idx8 (R:Sha.St) (k:Nat) (h:k<8) (W:World):(Instr.index 305 (.agg #[.int .u32 (v R.a),.int .u32 (v R.b),.int .u32 (v R.c),.int .u32 (v R.d),.int .u32 (v R.e),.int .u32 (v R.f),.int .u32 (v R.g),.int .u32 (v R.h)]) (.int .i64 (k:Int))).run Tryz.prog W= .ok (.int .u32 (v (R.list.getD k 0))) W:=by
 have hu: Tryz.prog.underlying 305 =some (.array 8 304):= Tryz.underlying305
 have hk:(0:Int)≤(k:Int)∧(k:Int)<(8:Nat):=by omega
 simp [Instr.index,run_underlying hu,asIntOf,hk,go_sem]
 match k,h with
 | 0,_=>rfl
 | 1,_=>rfl
 | 2,_=>rfl
 | 3,_=>rfl
 | 4,_=>rfl
 | 5,_=>rfl
 | 6,_=>rfl
 | 7,_=>rfl
theorem addSt_getD (S R:Sha.St) (k:Nat) (h:k<8):S.list.getD k 0+R.list.getD k 0=(Sha.addSt S R).list.getD k 0:=by
 match k,h with
 | 0,_=>rfl
 | 1,_=>rfl
 | 2,_=>rfl
 | 3,_=>rfl
 | 4,_=>rfl
 | 5,_=>rfl
 | 6,_=>rfl
 | 7,_=>rfl
def Tryz.zeroW:Array Value:=(List.replicate 64 (Value.int .u32 0)).toArray
theorem Tryz.zeroW_size: Tryz.zeroW.size=64:=rfl
theorem WAt.step {w:World} {N:Nat} {xs:List Nat} {k:Nat} {y:BitVec 32} (h:WAt w N xs k) (hk:k<64) (hy:y=Sha.next xs (Sha.sched xs k) k):WAt (w.setCell ⟨N,k,none⟩ (.int .u32 (v y))) N xs (k+1):=by
 obtain ⟨old,ho⟩:=h.cell k hk
 refine ⟨fun i hi=> ?_,fun i hi=> ?_,fun i hi=>by rw [World.frozen?_setCell];exact h.free i hi⟩
 ·by_cases e:i=k
  ·subst e
   rw [Sha.sched_getD xs i 64 hk,← hy]
   exact World.cell?_setCell_same _ _ _ ho
  ·exact set_other (h.done i (by omega)) (fun e'=>e e'.symm)
 ·by_cases e:i=k
  ·subst e;exact ⟨_,World.cell?_setCell_same _ _ _ ho⟩
  ·obtain ⟨y',hy'⟩:=h.cell i hi
   exact ⟨y',set_other hy' (fun e'=>e e'.symm)⟩
theorem WAt.drawn {w:World} {N:Nat} {xs:List Nat} {k:Nat} (h:WAt w N xs k) (n:Nat):WAt (w.drewN n) N xs k:=⟨h.done,h.cell,h.free⟩
theorem WAt.drew {w:World} {N:Nat} {xs:List Nat} {k:Nat} (h:WAt w N xs k):WAt w.drew N xs k:=⟨h.done,h.cell,h.free⟩
theorem next_low {xs:List Nat} {k:Nat} (h:k<16):Sha.next xs (Sha.sched xs k) k=Sha.wordAt xs k:=by unfold Sha.next;rw [if_pos h]
theorem next_high {xs:List Nat} {k:Nat} (h: ¬k<16) (hk:k<64):Sha.next xs (Sha.sched xs k) k=Sha.sig1 ((Sha.sched xs 64).getD (k - 2) 0)+(Sha.sched xs 64).getD (k - 7) 0+Sha.sig0 ((Sha.sched xs 64).getD (k - 15) 0)+(Sha.sched xs 64).getD (k - 16) 0:=by
 have e: ∀j,j<k→(Sha.sched xs k).getD j 0=(Sha.sched xs 64).getD j 0:=fun j hj=>by rw [Sha.sched_getD xs j k hj,Sha.sched_getD xs j 64 (by omega)]
 unfold Sha.next
 rw [if_neg h,e _ (by omega),e _ (by omega),e _ (by omega),e _ (by omega)]

theorem process_any (b o:Nat) (s:Sha.St) (a:Option Addr) (cap:Nat) (xs:List Nat) (hx:xs.length=64) (hcap:64≤cap) (w:World) (hw:WordsAt w b o s) (hf: ∀i,i<8→w.frozen? ⟨b,o+i,none⟩=false) (hB:BytesAt w a xs) (hK:KonAt w):
    Calls Tryz.prog 246 #[.pointer (some ⟨b,o,none⟩),.slice a 64 cap] w fun e w'=>e= .returned (.tuple #[])∧WordsAt w' b o (Sha.comp s xs)∧Chg (fun k i=>k=b∧o≤i∧i<o+8) w w':=by
 have HX:=hid hx
 have HW:=hid hw
 have HF:=hid hf
 have HB:=hid hB
 have HK:=hid hK
 clear hx hw hf hB hK
 go_enter Tryz.func246,Tryz.ntmps246
 go_upto_region 1 with fail
 refine wp_over (fun W=>Hid (WAt W w.heap.size xs 0)∧Hid (Below w.heap.size w W)) ⟨?_,(Below.refl _ _).alloc (Nat.le_refl _) _⟩ ?_
 ·have hg:=heap_alloc_new w (.cells Tryz.zeroW 356)
  exact ⟨fun i hi=>by omega,fun i hi=>⟨_,(cell_of_row _ _ _ _ _ _ hg).trans (Array.getElem?_eq_getElem (by rw [Tryz.zeroW_size];exact hi))⟩,fun i hi=>frozen_of_row _ _ _ _ _ hg⟩
 rintro W ⟨HW0,HBW⟩
 generalize hN:w.heap.size=N at HW0 HBW ⊢
 have HN:=hid hN
 clear hN
 obtain ⟨Q0,hq0⟩: ∃Q:Prop,Hid Q:=⟨True,trivial⟩
 go_wp2_with fail
 have HBY:Hid (∀V,Below N W V→BytesAt V a xs):=fun V h=>HB.o.later (by rw [HN.o];exact HBW.o.trans h)
 go_loopw [27] (fun i wr=> ∃k:Nat,k≤64∧i= .int .i64 k∧Hid (WAt wr N xs k)∧Hid (Below N W wr)) (fun i _=>64 - (intOf i).toNat)
 case atStart=>exact ⟨0,by omega,rfl,HW0,Below.refl _ _⟩
 case round=>
  obtain ⟨k,hk,rfl,HWA,HBE⟩:=hrel
  by_cases hlt:k<64
  ·have hki:(k:Int)<64:=by omega
   obtain ⟨old,hold⟩:=HWA.o.cell k hlt
   have hfree:=HWA.o.free k hlt
   by_cases h16:k<16
   ·have hki2:(k:Int)<16:=by omega
    have hsl:=slice_lh a 64 cap (4*k) (4*k+4) (by omega) (by omega)
    rw [show ((4*k:Nat):Int)=4*(k:Int) by omega,show ((4*k+4:Nat):Int)=4*(k:Int)+4 by omega,show 4*k+4 - 4*k=4 by omega] at hsl
    obtain ⟨b',o',e',hc⟩:=(HBY.o _ HBE.o).some (by rw [HX.o];omega)
    subst e'
    rw [subA_some (by omega)] at hsl
    have c0:=hc (4*k) (by rw [HX.o];omega)
    have c1:=hc (4*k+1) (by rw [HX.o];omega)
    have c2:=hc (4*k+2) (by rw [HX.o];omega)
    have c3:=hc (4*k+3) (by rw [HX.o];omega)
    have x0:=(HBY.o _ HBE.o).getD_lt (4*k) (by rw [HX.o];omega)
    have x1:=(HBY.o _ HBE.o).getD_lt (4*k+1) (by rw [HX.o];omega)
    have x2:=(HBY.o _ HBE.o).getD_lt (4*k+2) (by rw [HX.o];omega)
    have x3:=(HBY.o _ HBE.o).getD_lt (4*k+3) (by rw [HX.o];omega)
    rw [← Nat.add_assoc] at c1 c2 c3
    have HNX:Hid (Sha.word (xs.getD (4*k) 0) (xs.getD (4*k+1) 0) (xs.getD (4*k+2) 0) (xs.getD (4*k+3) 0)=Sha.next xs (Sha.sched xs k) k):=(next_low h16).symm
    clear hc
    generalize xs.getD (4*k) 0=z0 at c0 x0 HNX
    generalize xs.getD (4*k+1) 0=z1 at c1 x1 HNX
    generalize xs.getD (4*k+2) 0=z2 at c2 x2 HNX
    generalize xs.getD (4*k+3) 0=z3 at c3 x3 HNX
    go_wp2_with fail
    refine Kit.wp_region_quiet_tail 24 (by kernel_rfl) (by kernel_rfl) ?_
    simp only [List.take_succ_cons,List.take_zero,List.drop_succ_cons,List.drop_zero]
    repeat (go_big_quiet_step (fail))
    refine wpQuiet_nil ?_
    go_wp2_with fail
    go_roundw
    case rel=>exact ⟨k+1,by omega,by go_num,by show WAt _ _ _ _;rw [Sha.word_bits _ _ _ _ x0 x1 x2 x3];exact (HWA.o.step hlt HNX.o).drew,(HBE.o.setCell (p:=⟨N,k,none⟩) (Nat.le_refl _) _).drew⟩
    case measure=>simp [intOf];omega
   ·have hki2: ¬(k:Int)<16:=by omega
    have HNX:=hid (next_high (xs:=xs) h16 hlt)
    have c2:=HWA.o.done (k - 2) (by omega)
    have c7:=HWA.o.done (k - 7) (by omega)
    have c15:=HWA.o.done (k - 15) (by omega)
    have c16:=HWA.o.done (k - 16) (by omega)
    generalize (Sha.sched xs 64).getD (k - 2) 0=y2 at c2 HNX
    generalize (Sha.sched xs 64).getD (k - 7) 0=y7 at c7 HNX
    generalize (Sha.sched xs 64).getD (k - 15) 0=y15 at c15 HNX
    generalize (Sha.sched xs 64).getD (k - 16) 0=y16 at c16 HNX
    obtain ⟨p2,hp2⟩: ∃p,k - 2=p:=⟨_,rfl⟩
    obtain ⟨p7,hp7⟩: ∃p,k - 7=p:=⟨_,rfl⟩
    obtain ⟨p15,hp15⟩: ∃p,k - 15=p:=⟨_,rfl⟩
    obtain ⟨p16,hp16⟩: ∃p,k - 16=p:=⟨_,rfl⟩
    have i2:(k:Int) - 2=(p2:Int):=by omega
    have i7:(k:Int) - 7=(p7:Int):=by omega
    have i15:(k:Int) - 15=(p15:Int):=by omega
    have i16:(k:Int) - 16=(p16:Int):=by omega
    have l2:p2<64:=by omega
    have l7:p7<64:=by omega
    have l15:p15<64:=by omega
    have l16:p16<64:=by omega
    rw [hp2] at c2
    rw [hp7] at c7
    rw [hp15] at c15
    rw [hp16] at c16
    clear hp2 hp7 hp15 hp16
    have r1:=Sha.f_xor Q0
    have r2:=Sha.f_add Q0
    have r3:=Sha.f_shr10 Q0
    have r4:=Sha.f_shr3 Q0
    have r9:=Sha.f_nonneg Q0
    go_wp2_with fail
    go_quiet (fail)
    go_wp2_with (first
     | (go_at_call 290;(with_reducible refine (rotr17 _ _).mono ?_);rintro e w' ⟨rfl,rfl⟩)
     | (go_at_call 290;(with_reducible refine (rotr19 _ _).mono ?_);rintro e w' ⟨rfl,rfl⟩)
     | (go_at_call 290;(with_reducible refine (rotr7 _ _).mono ?_);rintro e w' ⟨rfl,rfl⟩)
     | (go_at_call 290;(with_reducible refine (rotr18 _ _).mono ?_);rintro e w' ⟨rfl,rfl⟩))
    refine Kit.wp_region_quiet_tail 15 (by kernel_rfl) (by kernel_rfl) ?_
    simp only [List.take_succ_cons,List.take_zero,List.drop_succ_cons,List.drop_zero]
    repeat (go_big_quiet_step (fail))
    refine wpQuiet_nil ?_
    go_wp2_with fail
    go_roundw
    case rel=>exact ⟨k+1,by omega,by go_num,(HWA.o.drawn _).step hlt (by rw [HNX.o];rfl),(below_drewN HBE.o _).setCell (p:=⟨N,k,none⟩) (Nat.le_refl _) _⟩
    case measure=>simp [intOf];omega
  ·have e:k=64:=by omega
   subst e
   rw [show (((64:Nat)):Int)=64 from rfl]
   rename World=>w1
   have HB1:Hid (Below w.heap.size w w1):=by have h:=HBW.o.trans HBE.o;rw [← HN.o] at h;exact h
   have HWD:=hid (HW.o.later HB1.o)
   have c0:=HWD.o 0 (by omega)
   have c1:=HWD.o 1 (by omega)
   have c2:=HWD.o 2 (by omega)
   have c3:=HWD.o 3 (by omega)
   have c4:=HWD.o 4 (by omega)
   have c5:=HWD.o 5 (by omega)
   have c6:=HWD.o 6 (by omega)
   have c7:=HWD.o 7 (by omega)
   rw [Nat.add_zero] at c0
   obtain ⟨A,B,C,D,E,F,G,H⟩:=s
   simp only [Sha.St.list,List.getD_cons_zero,List.getD_cons_succ] at c0 c1 c2 c3 c4 c5 c6 c7
   go_upto_region 13 with fail
   have HWA1:=HWA
   have HNS:Hid (N≤w1.heap.size):=by have:=HB1.o.size;rw [HN.o] at this;exact this
   refine wp_over (fun V=>Hid (WordsAt V w1.heap.size 0 ⟨A,B,C,D,E,F,G,H⟩)∧Hid (WAt V N xs 64)∧Hid (Below w.heap.size w V)) ⟨?_,?_,HB1.o.alloc HB1.o.size _⟩ ?_
   ·intro i hi
    rw [Nat.zero_add,cell_of_row _ _ _ _ _ _ (heap_alloc_new _ _)]
    match i,hi with
    | 0,_=>rfl
    | 1,_=>rfl
    | 2,_=>rfl
    | 3,_=>rfl
    | 4,_=>rfl
    | 5,_=>rfl
    | 6,_=>rfl
    | 7,_=>rfl
   ·have hb:=(Below.refl w1.heap.size w1).alloc (Nat.le_refl _) (.cells #[.int .u32 (v A),.int .u32 (v B),.int .u32 (v C),.int .u32 (v D),.int .u32 (v E),.int .u32 (v F),.int .u32 (v G),.int .u32 (v H)] 305)
    exact HWA.o.later hb
   rintro V ⟨HWV,HWAV,HBV⟩
   generalize w1.heap.size=N2 at HWV HNS ⊢
   have d0:=HWV.o 0 (by omega)
   have d1:=HWV.o 1 (by omega)
   have d2:=HWV.o 2 (by omega)
   have d3:=HWV.o 3 (by omega)
   have d4:=HWV.o 4 (by omega)
   have d5:=HWV.o 5 (by omega)
   have d6:=HWV.o 6 (by omega)
   have d7:=HWV.o 7 (by omega)
   simp only [Sha.St.list,List.getD_cons_zero,List.getD_cons_succ,Nat.zero_add] at d0 d1 d2 d3 d4 d5 d6 d7
   have HKV:Hid (KonAt V):=fun t ht=>(HBV.o.cell (p:=⟨2,t,none⟩) (World.block_lt_of_cell? w _ (HK.o t ht))).trans (HK.o t ht)
   clear c0 c1 c2 c3 c4 c5 c6 c7 hk hlt
   go_quiet (fail)
   clear d0 d1 d2 d3 d4 d5 d6 d7
   have HS0:=hid (show RndRel xs ⟨A,B,C,D,E,F,G,H⟩ 0 (.int .u32 (v A)) (.int .u32 (v B)) (.int .u32 (v C)) (.int .u32 (v D)) (.int .u32 (v E)) (.int .u32 (v F)) (.int .u32 (v G)) (.int .u32 (v H)) from ⟨rfl,rfl,rfl,rfl,rfl,rfl,rfl,rfl⟩)
   generalize hSe:(⟨A,B,C,D,E,F,G,H⟩:Sha.St)=S at HW HWD HWV HS0
   have HSE:=hid hSe
   clear hSe
   go_wp2_with fail
   go_loopw [12,13,14,15,16,17,18,19,123] (fun a1 b1 c1 d1 e1 f1 g1 h1 t wr=> ∃k:Nat,k≤64∧t= .int .i64 k∧RndRel xs S k a1 b1 c1 d1 e1 f1 g1 h1∧ ∃n,wr=V.drewN n) (fun _ _ _ _ _ _ _ _ t _=>64 - (intOf t).toNat)
   case atStart=>exact ⟨0,by omega,rfl,HS0.o,_,rfl⟩
   case round=>
    obtain ⟨k,hk,rfl,⟨rfl,rfl,rfl,rfl,rfl,rfl,rfl,rfl⟩,n,rfl⟩:=hrel
    obtain ⟨R,hR⟩: ∃R,Sha.rounds xs S k=R:=⟨_,rfl⟩
    rw [hR]
    have HR:=hid hR
    clear hR
    by_cases hlt:k<64
    ·have hki:(k:Int)<64:=by omega
     have hkon:=HKV.o k hlt
     have hwk:=HWAV.o.done k hlt
     have HRN:Hid (Sha.rounds xs S (k+1)=Sha.rnd R (Sha.kon k) ((Sha.sched xs 64).getD k 0)):=by
      show _=_
      rw [Sha.rounds,HR.o];rfl
     generalize (Sha.sched xs 64).getD k 0=wk at hwk HRN
     generalize Sha.kon k=kk at hkon HRN
     obtain ⟨ra,rb,rc,rd,re,rf,rg,rh⟩:=R
     dsimp only
     have r1:=Sha.f_xor Q0
     have r2:=Sha.f_add Q0
     have r3:=Sha.f_and Q0
     have r4:=Sha.f_not Q0
     have r9:=Sha.f_nonneg Q0
     go_wp2_with (first
      | (go_at_call 290;(with_reducible refine (rotr6 _ _).mono ?_);rintro e w' ⟨rfl,rfl⟩)
      | (go_at_call 290;(with_reducible refine (rotr11 _ _).mono ?_);rintro e w' ⟨rfl,rfl⟩)
      | (go_at_call 290;(with_reducible refine (rotr25 _ _).mono ?_);rintro e w' ⟨rfl,rfl⟩)
      | (go_at_call 290;(with_reducible refine (rotr2 _ _).mono ?_);rintro e w' ⟨rfl,rfl⟩)
      | (go_at_call 290;(with_reducible refine (rotr13 _ _).mono ?_);rintro e w' ⟨rfl,rfl⟩)
      | (go_at_call 290;(with_reducible refine (rotr22 _ _).mono ?_);rintro e w' ⟨rfl,rfl⟩))
     go_quiet (fail)
     go_wp2_with fail
     go_roundw
     case rel=>exact ⟨k+1,by omega,by go_num,by unfold RndRel;rw [HRN.o];exact ⟨rfl,rfl,rfl,rfl,rfl,rfl,rfl,rfl⟩,_,rfl⟩
     case measure=>simp [intOf];omega
    ·have e:k=64:=by omega
     subst e
     rw [show (((64:Nat)):Int)=64 from rfl]
     have HWV0:=hid (HW.o.later HBV.o)
     go_wp2_with fail
     go_loopw [197] (fun i wr=> ∃k:Nat,k≤8∧i= .int .i64 k∧Hid (FinAt wr b o (Sha.addSt S R) k)∧Hid (Chg (fun g i=>g=b∧o≤i∧i<o+8) V wr)) (fun i _=>8 - (intOf i).toNat)
     case atStart=>
      refine ⟨0,by omega,rfl,⟨fun i hi=>by omega,fun i hi=>⟨_,HWV0.o i hi⟩,fun i hi=> ?_⟩,(Chg.refl _ V).drewN _⟩
      exact (HBV.o.frozen (p:=⟨b,o+i,none⟩) (World.block_lt_of_cell? w _ (HW.o i hi))).trans (HF.o i hi)
     case round=>
      obtain ⟨k,hk,rfl,HFA,HCH⟩:=hrel
      by_cases hlt:k<8
      ·have hki:(k:Int)<8:=by omega
       have hidx:=run_idx8 R k hlt
       have HAD:=hid (addSt_getD S R k hlt)
       have hbn:b<N2:=by
        have h1:=World.block_lt_of_cell? w _ (HW.o 0 (by omega))
        have h2:b<w.heap.size:=h1
        have h3:=HN.o
        have h4:=HNS.o
        omega
       have hcv:wr.cell? ⟨N2,k,none⟩=some (.int .u32 (v (S.list.getD k 0))):=by
        have h:=HCH.o.cell (HWV.o k hlt) (fun h=>by omega)
        rwa [Nat.zero_add] at h
       obtain ⟨old,hold⟩:=HFA.o.cell k hlt
       have hfree:=HFA.o.free k hlt
       generalize R.list.getD k 0=yR at hidx HAD
       generalize S.list.getD k 0=yS at hcv HAD
       have r2:=Sha.f_add Q0
       have r9:=Sha.f_nonneg Q0
       go_wp2_with fail
       refine Kit.wp_region_quiet_tail 10 (by kernel_rfl) (by kernel_rfl) ?_
       simp only [List.take_succ_cons,List.take_zero,List.drop_succ_cons,List.drop_zero]
       repeat (go_big_quiet_step (fail))
       refine wpQuiet_nil ?_
       go_wp2_with fail
       go_roundw
       case rel=>exact ⟨k+1,by omega,by go_num,by first | exact (HFA.o.step hlt HAD.o).drew | exact HFA.o.drew.step hlt HAD.o,by first | exact (HCH.o.setCell _ ⟨rfl,by omega,by omega⟩).drew | exact HCH.o.drew.setCell _ ⟨rfl,by omega,by omega⟩⟩
       case measure=>simp [intOf];omega
      ·have e:k=8:=by omega
       subst e
       go_wp2_with fail
       go_end0
       refine ⟨rfl,fun i hi=> ?_,(Chg.of_below HBV.o).trans (HCH.o.mono fun g i _ h=>h)⟩
       have h:=HFA.o.done i hi
       rw [← HR.o] at h
       rw [HSE.o]
       exact h
theorem wpList_copy_cells {P:Program} {w:World} {ops:Array Oper} {rest:List Oper} {o:Oper} {a:Act} {Q:Exit→Act→World→Prop} (hgd:o.guard=none) (d s:Operand) (dT sT:TypeId)
    (ho:o.op= .call { callee:= .builtin .copy,args:= #[d,s],argTypes:= #[dT,sT] }) (elem:TypeId) (hu:P.underlying dT=some (.slice elem)) (hsz:(P.info? elem).map (·.size)=some 1)
    (dp sp:Option Addr) (dLen dCap sLen sCap:Nat) (hd:a.eval d= .slice dp dLen dCap) (hs:a.eval s= .slice sp sLen sCap)
    (g off:Nat) (hg: ∃cur t,w.heap[g]? =some (.cells cur t (0,0))∧off+Nat.min sLen dLen≤cur.size) (cs:List Value) (hn:cs.length=Nat.min sLen dLen)
    (hpos:0<cs.length→dp=some ⟨g,off,none⟩∧ ∃ad,sp=some ad∧ ∀j v,cs[j]? =some v→w.cell? (ad.add j)=some v) (h1: ∀v ∈ cs,v.oneCell'=true)
    (h: ∀w',Chg (fun k i=>k=g∧off≤i∧i<off+cs.length) w w'→(∀j v,cs[j]? =some v→w'.cell? ⟨g,off+j,none⟩=some v)→(∃cur' t,w'.heap[g]? =some (.cells cur' t (0,0))∧ ∀cur t,w.heap[g]? =some (.cells cur t (0,0))→cur'.size=cur.size)→wpList P ops Q rest (a.put o.dst (goInt cs.length)) w'):
    wpList P ops Q (o::rest) a w:=by
 obtain ⟨cur,t,hgg,hfit⟩:=hg
 by_cases h0:cs.length=0
 ·obtain rfl:cs=[]:=List.eq_nil_of_length_eq_zero h0
  refine wpList_copy_nothing hgd d s dT sT ho elem hu hsz dp sp dLen dCap sLen sCap hd hs (by simpa using hn.symm) ?_
  exact h w (Chg.refl _ _) (fun j v hj=>by simp at hj) ⟨cur,t,hgg,fun cur2 t2 h2=>by rw [hgg] at h2;cases h2;rfl⟩
 ·obtain ⟨rfl,ad,rfl,hsrc⟩:=hpos (by omega)
  rw [← hn] at hfit
  refine wpList_copy_own hgd d s dT sT ho elem hu hsz g off dLen dCap ad sLen sCap hd hs cur t hgg cs hn hsrc hfit h1 ?_
  have hh:=setRow_heap w g cur (cur.toList.take off++(cs++cur.toList.drop (off+cs.length))).toArray t (0,0) hgg
  have hsz:(cur.toList.take off++(cs++cur.toList.drop (off+cs.length))).toArray.size=cur.size:=by
   simp only [List.size_toArray,List.length_append,List.length_take,List.length_drop,Array.length_toList];omega
  have htl:(cur.toList.take off).length=off:=by rw [List.length_take,Array.length_toList];omega
  have hget: ∀i,¬(off≤i∧i<off+cs.length)→(cur.toList.take off++(cs++cur.toList.drop (off+cs.length))).toArray[i]? =cur[i]? :=fun i hi=>by
   rw [List.getElem?_toArray]
   by_cases h2:i<off
   ·rw [List.getElem?_append_left (by omega),List.getElem?_take_of_lt h2,Array.getElem?_toList]
   ·rw [List.getElem?_append_right (by omega),htl,List.getElem?_append_right (by omega),List.getElem?_drop,Array.getElem?_toList]
    congr 1;omega
  refine h _ ⟨rfl,rfl,rfl,by simp [World.setRow],fun k hk hM=> ?_,fun k hM c e f hc=> ?_⟩ (fun j v hj=> ?_) ⟨_,t,hh,fun cur2 t2 h2=>by rw [hgg] at h2;cases h2;exact hsz⟩
  ·exact setRow_other w g k _ (fun e=>hM off ⟨e,Nat.le_refl _,by omega⟩)
  ·by_cases hk:k=g
   ·subst hk
    rw [hgg] at hc
    cases hc
    exact ⟨_,hh,hsz,fun i hi=>hget i (fun hm=>hi ⟨rfl,hm.1,hm.2⟩)⟩
   ·exact ⟨c,(setRow_other w g k _ hk).trans hc,rfl,fun _ _=>rfl⟩
  ·have hj2:j<cs.length:=(List.getElem?_eq_some_iff.1 hj).1
   rw [cell_of_row _ _ _ _ _ _ hh,List.getElem?_toArray,List.getElem?_append_right (by omega),htl,Nat.add_sub_cancel_left,List.getElem?_append_left hj2]
   exact hj

structure StateAt (w:World) (b o:Nat) (ps:List Nat):Prop where
 row: ∃R t,w.heap[b]? =some (.cells R t (0,0))∧o+73≤R.size
 words:WordsAt w b o (Sha.hs ps ps.length)
 buf: ∀i,i<64→ ∃x:Nat,x<256∧w.cell? ⟨b,o+8+i,none⟩=some (.int .u8 (x:Int))
 held: ∀i,i<ps.length % 64→w.cell? ⟨b,o+8+i,none⟩=some (.int .u8 ((ps.getD (ps.length - ps.length % 64+i) 0:Nat):Int))
 len:w.cell? ⟨b,o+72,none⟩=some (.int .i64 (ps.length:Int))
 bytes: ∀x ∈ ps,x<256
theorem StateAt.free {w:World} {b o:Nat} {ps:List Nat} (h:StateAt w b o ps) (i:Nat):w.frozen? ⟨b,i,none⟩=false:=by
 obtain ⟨R,t,hr,_⟩:=h.row
 exact frozen_of_row _ _ _ _ _ hr
theorem StateAt.lt {w:World} {b o:Nat} {ps:List Nat} (h:StateAt w b o ps):b<w.heap.size:=World.block_lt_of_cell? w _ h.len
theorem StateAt.keep {w w':World} {b o:Nat} {ps:List Nat} {M:Nat→Nat→Prop} (h:StateAt w b o ps) (hc:Chg M w w') (hM: ∀i,o≤i→i<o+73→ ¬M b i):StateAt w' b o ps:=by
 obtain ⟨R,t,hr,hs⟩:=h.row
 obtain ⟨R',hr',hs',_⟩:=hc.cells b ⟨o,hM o (by omega) (by omega)⟩ _ _ _ hr
 refine ⟨⟨R',t,hr',by omega⟩,fun i hi=>hc.cell (h.words i hi) (hM _ (by omega) (by omega)),fun i hi=> ?_,fun i hi=>hc.cell (h.held i hi) (hM _ (by omega) (by have:=Nat.mod_lt ps.length (show 0<64 by decide);omega)),hc.cell h.len (hM _ (by omega) (by omega)),h.bytes⟩
 obtain ⟨x,hx,hcx⟩:=h.buf i hi
 exact ⟨x,hx,hc.cell hcx (hM _ (by omega) (by omega))⟩
theorem StateAt.later {w w':World} {b o:Nat} {ps:List Nat} (h:StateAt w b o ps) (hb:Below w.heap.size w w'):StateAt w' b o ps:=
 h.keep (Chg.of_below (M:=fun _ _=>False) hb) (fun _ _ _ h=>h)
def stateCells (b o:Nat):Nat→Nat→Prop:=fun k i=>k=b∧o≤i∧i<o+73

def InitAt (w:World):Prop:=WordsAt w 0 0 Sha.init

def stateRow:Array Value:= #[.int .u32 1779033703,.int .u32 3144134277,.int .u32 1013904242,.int .u32 2773480762,.int .u32 1359893119,.int .u32 2600822924,.int .u32 528734635,.int .u32 1541459225]++(List.replicate 64 (Value.int .u8 0)).toArray++ #[.int .i64 0]
theorem stateRow_size:stateRow.size=73:=rfl
theorem init_cells (i:Nat) (h:i<8):stateRow[i]? =some (.int .u32 (v (Sha.init.list.getD i 0))):=by
 match i,h with
 | 0,_=>rfl
 | 1,_=>rfl
 | 2,_=>rfl
 | 3,_=>rfl
 | 4,_=>rfl
 | 5,_=>rfl
 | 6,_=>rfl
 | 7,_=>rfl
theorem newState_any (w:World) (hI:InitAt w):Calls Tryz.prog 178 #[] w fun e w'=>e= .returned (.pointer (some ⟨w.heap.size,0,none⟩))∧w'=w.alloc (.cells stateRow 308):=by
 have c0:=hI 0 (by omega)
 have c1:=hI 1 (by omega)
 have c2:=hI 2 (by omega)
 have c3:=hI 3 (by omega)
 have c4:=hI 4 (by omega)
 have c5:=hI 5 (by omega)
 have c6:=hI 6 (by omega)
 have c7:=hI 7 (by omega)
 rw [show v (Sha.init.list.getD 0 0)=1779033703 from rfl,Nat.zero_add] at c0
 rw [show v (Sha.init.list.getD 1 0)=3144134277 from rfl,Nat.zero_add] at c1
 rw [show v (Sha.init.list.getD 2 0)=1013904242 from rfl,Nat.zero_add] at c2
 rw [show v (Sha.init.list.getD 3 0)=2773480762 from rfl,Nat.zero_add] at c3
 rw [show v (Sha.init.list.getD 4 0)=1359893119 from rfl,Nat.zero_add] at c4
 rw [show v (Sha.init.list.getD 5 0)=2600822924 from rfl,Nat.zero_add] at c5
 rw [show v (Sha.init.list.getD 6 0)=528734635 from rfl,Nat.zero_add] at c6
 rw [show v (Sha.init.list.getD 7 0)=1541459225 from rfl,Nat.zero_add] at c7
 clear hI
 go_enter Tryz.func178,Tryz.ntmps178
 go_wp2
 go_ret
 exact ⟨rfl,rfl⟩
theorem stateRow_at (i:Nat) (h:i<64):stateRow[8+i]? =some (.int .u8 ((0:Nat):Int)):=by
 have e1:(#[.int .u32 1779033703,.int .u32 3144134277,.int .u32 1013904242,.int .u32 2773480762,.int .u32 1359893119,.int .u32 2600822924,.int .u32 528734635,.int .u32 1541459225]:Array Value).size=8:=rfl
 have e2:(List.replicate 64 (Value.int .u8 0)).toArray.size=64:=rfl
 unfold stateRow
 rw [Array.getElem?_append_left (by rw [Array.size_append,e1,e2];omega),Array.getElem?_append_right (by rw [e1];omega),e1,List.getElem?_toArray,List.getElem?_replicate,if_pos (by omega)]
 rfl
theorem Tryz.al64: Tryz.prog.arrayLen 306 =64:=by kernel_rfl
theorem Tryz.el64: Tryz.prog.elem 306 =5:=by kernel_rfl
theorem sliceB_l (b o u:Nat) (hu:u<64) (W:World):(Instr.sliceAt 306 (.pointer (some ⟨b,o,none⟩)) (some (.int .i64 (u:Int))) none none).run Tryz.prog W= .ok (.slice (some ⟨b,o+u,none⟩) (64 - u) (64 - u)) W:=by
 rw [run_sliceAt_array_l W _ _ (by rw [Tryz.al64,Tryz.el64];exact Tryz.underlying306) .i64 _ (by omega) (by rw [Tryz.al64];omega),Tryz.al64,Tryz.el64,Tryz.sizeOf5]
 simp only [Result.andThen,slicedAt,Int.toNat_natCast,Nat.mul_one]
 rw [if_neg (by omega),add_none]
theorem sliceB_all (b o:Nat) (W:World):(Instr.sliceAt 306 (.pointer (some ⟨b,o,none⟩)) none none none).run Tryz.prog W= .ok (.slice (some ⟨b,o,none⟩) 64 64) W:=by
 rw [run_sliceAt_array_all W _ _ (by rw [Tryz.al64,Tryz.el64];exact Tryz.underlying306),Tryz.al64,Tryz.el64,Tryz.sizeOf5]
 simp only [Result.andThen,slicedAt,Nat.zero_mul]
 rw [if_neg (by omega),add_none]
 rfl
theorem state_new {w:World} {N:Nat} {t:TypeId} (hg:w.heap[N]? =some (.cells stateRow t (0,0))):StateAt w N 0 []:=by
 refine ⟨⟨_,t,hg,by rw [stateRow_size];exact Nat.le_refl _⟩,fun i hi=> ?_,fun i hi=>⟨0,by omega,?_⟩,fun i hi=>by simp at hi,?_,by simp⟩
 ·rw [Nat.zero_add,cell_of_row _ _ _ _ _ _ hg];exact init_cells i hi
 ·rw [Nat.zero_add,cell_of_row _ _ _ _ _ _ hg];exact stateRow_at i hi
 ·rw [Nat.zero_add,cell_of_row _ _ _ _ _ _ hg];rfl

structure MidAt (w:World) (b o:Nat) (qs:List Nat) (K:Nat):Prop where
 row: ∃R t,w.heap[b]? =some (.cells R t (0,0))∧o+73≤R.size
 words:WordsAt w b o (Sha.hs qs K)
 buf: ∀i,i<64→ ∃x:Nat,x<256∧w.cell? ⟨b,o+8+i,none⟩=some (.int .u8 (x:Int))
 len:w.cell? ⟨b,o+72,none⟩=some (.int .i64 (qs.length:Int))
theorem MidAt.free {w:World} {b o:Nat} {qs:List Nat} {K:Nat} (h:MidAt w b o qs K) (i:Nat):w.frozen? ⟨b,i,none⟩=false:=by
 obtain ⟨R,t,hr,_⟩:=h.row
 exact frozen_of_row _ _ _ _ _ hr
theorem MidAt.block {w w':World} {b o:Nat} {qs:List Nat} {K:Nat} (h:MidAt w b o qs K) (hK:K % 64=0) (hw:WordsAt w' b o (Sha.comp (Sha.hs qs K) ((qs.take (K+64)).drop K))) (hc:Chg (fun k i=>k=b∧o≤i∧i<o+8) w w'):MidAt w' b o qs (K+64):=by
 obtain ⟨R,t,hr,hs⟩:=h.row
 obtain ⟨R',hr',hs',_⟩:=hc.cells b ⟨o+8,fun hm=>by omega⟩ _ _ _ hr
 refine ⟨⟨R',t,hr',by omega⟩,by rw [Sha.hs_block qs K hK];exact hw,fun i hi=> ?_,hc.cell h.len (fun hm=>by omega)⟩
 obtain ⟨x,hx,hcx⟩:=h.buf i hi
 exact ⟨x,hx,hc.cell hcx (fun hm=>by omega)⟩
theorem MidAt.copied {w w':World} {b o off:Nat} {qs cs:List Nat} {K:Nat} (h:MidAt w b o qs K) (hb: ∀x ∈ cs,x<256) (hfit:off+cs.length≤64)
    (hc:Chg (fun k i=>k=b∧o+8+off≤i∧i<o+8+off+(bvals cs).length) w w') (hcell: ∀j u,(bvals cs)[j]? =some u→w'.cell? ⟨b,o+8+off+j,none⟩=some u):
    MidAt w' b o qs K∧(∀j,j<cs.length→w'.cell? ⟨b,o+8+(off+j),none⟩=some (.int .u8 ((cs.getD j 0:Nat):Int)))∧(∀i u,i<off→w.cell? ⟨b,o+8+i,none⟩=some u→w'.cell? ⟨b,o+8+i,none⟩=some u):=by
 have hl:(bvals cs).length=cs.length:=bvals_length cs
 rw [hl] at hc
 obtain ⟨R,t,hr,hs⟩:=h.row
 obtain ⟨R',hr',hs',_⟩:=hc.cells b ⟨o,fun hm=>by omega⟩ _ _ _ hr
 have hnew: ∀j,j<cs.length→w'.cell? ⟨b,o+8+(off+j),none⟩=some (.int .u8 ((cs.getD j 0:Nat):Int)):=fun j hj=>by
  rw [← Nat.add_assoc]
  refine hcell j _ ?_
  rw [bvals,List.getElem?_map,lE hj]
  simp [List.getD,lE hj]
 refine ⟨⟨⟨R',t,hr',by omega⟩,fun i hi=>hc.cell (h.words i hi) (fun hm=>by omega),fun i hi=> ?_,hc.cell h.len (fun hm=>by omega)⟩,hnew,fun i u hi hu=>hc.cell hu (fun hm=>by omega)⟩
 by_cases hi2:off≤i∧i<off+cs.length
 ·refine ⟨_,?_,by have:=hnew (i - off) (by omega);rwa [show off+(i - off)=i by omega] at this⟩
  rw [lD,lE (by omega)]
  exact hb _ (List.getElem_mem _)
 ·obtain ⟨x,hx,hcx⟩:=h.buf i hi
  exact ⟨x,hx,hc.cell hcx (fun hm=>by omega)⟩
theorem MidAt.done {w:World} {b o:Nat} {qs:List Nat} {K:Nat} (h:MidAt w b o qs K) (hK:K % 64=0) (hle:K≤qs.length) (hlt:qs.length<K+64) (hb: ∀x ∈ qs,x<256)
    (hnew: ∀i,i<qs.length - K→w.cell? ⟨b,o+8+i,none⟩=some (.int .u8 ((qs.getD (K+i) 0:Nat):Int))):StateAt w b o qs:=by
 have e1:qs.length % 64=qs.length - K:=by omega
 have e2:Sha.hs qs qs.length=Sha.hs qs K:=by
  have:=Sha.hs_stay qs K (qs.length - K) (by omega)
  rwa [show K+(qs.length - K)=qs.length by omega] at this
 refine ⟨h.row,by rw [e2];exact h.words,h.buf,fun i hi=> ?_,h.len,hb⟩
 rw [e1] at hi ⊢
 rw [hnew i hi,show qs.length - (qs.length - K)+i=K+i by omega]
theorem bytesAt_chg0 {w w':World} {a:Option Addr} {bs:List Nat} {M:Nat→Nat→Prop} (h:BytesAt w a bs) (hc:Chg M w w') (hM: ∀ad,a=some ad→0<bs.length→ ∀i,¬M ad.block i):BytesAt w' a bs:=by
 by_cases h0:bs=[]
 ·subst h0;exact ⟨.inl rfl,h.2⟩
 ·have hl:=List.length_pos_iff.2 h0
  obtain ⟨b,o,e,hcell⟩:=h.some hl
  exact ⟨.inr ⟨b,o,e,fun i hi=>hc.cell (hcell i hi) (hM _ e hl _)⟩,h.2⟩
theorem getD_app_l (ps xs:List Nat) (i:Nat) (h:i<ps.length):(ps++xs).getD i 0=ps.getD i 0:=by rw [lD,List.getElem?_append_left h,← lD]
theorem getD_app_r (ps xs:List Nat) (i:Nat):(ps++xs).getD (ps.length+i) 0=xs.getD i 0:=by rw [lD,List.getElem?_append_right (by omega),Nat.add_sub_cancel_left,← lD]
theorem getD_take (xs:List Nat) (n i:Nat) (h:i<n):(xs.take n).getD i 0=xs.getD i 0:=by rw [lD,List.getElem?_take_of_lt h,← lD]
theorem getD_dropN (xs:List Nat) (n i:Nat):(xs.drop n).getD i 0=xs.getD (n+i) 0:=by rw [lD,List.getElem?_drop,← lD]

theorem blk_eq (ps xs:List Nat) (c:Nat):((ps++xs).take (ps.length+c+64)).drop (ps.length+c)=((xs.drop c).take 64).drop 0:=by
 rw [List.drop_take,List.drop_zero,List.drop_append,List.drop_of_length_le (by omega),List.nil_append,show ps.length+c - ps.length=c by omega,show ps.length+c+64 - (ps.length+c)=64 by omega]
def sliceLen:Value→Nat
 | .slice _ n _=>n
 | _=>0
def WrtRel (w:World) (b o:Nat) (ps xs:List Nat) (x:Value) (wr:World):Prop:=
 ∃(c:Nat) (ac:Option Addr) (capc:Nat),x= .slice ac (xs.length - c) capc∧c≤xs.length∧(ps.length+c) % 64=0∧Hid (MidAt wr b o (ps++xs) (ps.length+c))∧xs.length - c≤capc∧Hid (ac=none→capc=0)∧
  Hid (∀ad,ac=some ad→0<xs.length - c→ad.block≠b)∧Hid (BytesAt wr ac (xs.drop c))∧Hid (Chg (stateCells b o) w wr)
theorem subA_block {a:Option Addr} {l cap k:Nat} {b:Nat} (h: ∀ad,a=some ad→ad.block≠b): ∀ad,subA a l cap=some ad→ad.block≠b:=by
 intro ad e
 unfold subA at e
 split at e
 ·exact h ad e
 ·cases a with
  | none=>cases e
  | some x=>
    rw [Option.map_some] at e
    have e2:x.add (l*1)=ad:=Option.some.inj e
    have h2:=h x rfl
    rw [← e2]
    obtain ⟨xb,xo,xs⟩:=x
    unfold Addr.add
    split<;> exact h2

theorem write_any (b o:Nat) (ps:List Nat) (a:Option Addr) (cap:Nat) (xs:List Nat) (hcap:xs.length≤cap) (hnil:a=none→cap=0) (hl:ps.length+xs.length≤1000000000000) (w:World) (h:StateAt w b o ps) (hB:BytesAt w a xs) (hab: ∀ad,a=some ad→0<xs.length→ad.block≠b) (hK:KonAt w) (hb2:b≠ 2):
    Calls Tryz.prog 179 #[.pointer (some ⟨b,o,none⟩),.slice a xs.length cap] w fun e w'=>e= .returned (.tuple #[])∧StateAt w' b o (ps++xs)∧Chg (stateCells b o) w w':=by
 have HH:=hid h
 have HB:=hid hB
 have HAB:=hid hab
 have HK:=hid hK
 have HNIL:=hid hnil
 have hlen:=h.len
 have hfr:=h.free (o+72)
 clear h hB hab hK hnil
 obtain ⟨u,hu⟩: ∃u,ps.length % 64=u:=⟨_,rfl⟩
 have hu64:u<64:=by omega
 have hui:((ps.length:Nat):Int).tmod 64=(u:Int):=by rw [Int.tmod_eq_emod_of_nonneg (by omega)];omega
 have hui2:((ps.length:Nat):Int) % 64=(u:Int):=by omega
 have HU:=hid hu
 clear hu
 go_enter Tryz.func179,Tryz.ntmps179
 by_cases h0:u=0
 ·subst h0
  have hsb: ∀x ∈ ps++xs,x<256:=fun x hx=>by
   rcases List.mem_append.1 hx with h | h
   ·exact HH.o.bytes x h
   ·exact HB.o.2.1 x h
  have HSB:=hid hsb
  clear hsb
  go_upto_region 2 with fail
  clear hui hui2
  refine wp_over (fun W=>Hid (WrtRel w b o ps xs (.slice a xs.length cap) W)) ?_ ?_
  ·have hc:Chg (fun k i=>k=b∧i=o+72) w (w.setCell ⟨b,o+72,none⟩ (.int .i64 ((ps.length:Int)+(xs.length:Int)))):=Chg.setCell1 _ _ _ _ ⟨rfl,rfl⟩
   have h:=HH.o
   obtain ⟨R,t,hr,hs⟩:=h.row
   obtain ⟨R',hr',hs',_⟩:=hc.cells b ⟨o,fun hm=>by omega⟩ _ _ _ hr
   have HC:Chg (stateCells b o) w (w.setCell ⟨b,o+72,none⟩ (.int .i64 ((ps.length:Int)+(xs.length:Int)))):=Chg.setCell1 _ _ _ _ ⟨rfl,by omega,by omega⟩
   refine ⟨0,a,cap,by rw [Nat.sub_zero],Nat.zero_le _,HU.o,⟨⟨R',t,hr',by omega⟩,fun i hi=> ?_,fun i hi=> ?_,?_⟩,hcap,HNIL.o,HAB.o,?_,HC⟩
   ·rw [show ps.length+0=ps.length from rfl,Sha.hs_append ps xs _ (Nat.le_refl _)]
    exact hc.cell (h.words i hi) (fun hm=>by omega)
   ·obtain ⟨x,hx,hcx⟩:=h.buf i hi
    exact ⟨x,hx,hc.cell hcx (fun hm=>by omega)⟩
   ·rw [List.length_append,World.cell?_setCell_same _ _ _ h.len];simp
   ·rw [List.drop_zero]
    exact bytesAt_chg0 HB.o HC (fun ad e h0 i hm=>HAB.o ad e h0 hm.1)
  rintro W HR0
  go_wp2_with fail
  go_loopw [1] (fun x wr=>WrtRel w b o ps xs x wr) (fun x _=>sliceLen x)
  case atStart=>exact HR0.o
  case round=>
   obtain ⟨c,ac,capc,rfl,hc,hcm,HM,hcap2,HNC,HSEP,HBY,HCC⟩:=hrel
   have HKR:Hid (KonAt wr):=fun t ht=>HCC.o.cell (HK.o t ht) (fun hm=>hb2 hm.1.symm)
   by_cases hge:64≤xs.length - c
   ·have hsl: ∀W,(Instr.slice 52 (.slice ac (xs.length - c) capc) none (some (.int .i64 64)) none).run Tryz.prog W= .ok (.slice (subA ac 0 capc) 64 capc) W:=slice_h ac (xs.length - c) capc 64 (by omega)
    have hsl2: ∀W,(Instr.slice 52 (.slice ac (xs.length - c) capc) (some (.int .i64 64)) none none).run Tryz.prog W= .ok (.slice (subA ac 64 capc) (xs.length - c - 64) (capc - 64)) W:=slice_l ac (xs.length - c) capc 64 (by omega)
    have hdl:(xs.drop c).length=xs.length - c:=List.length_drop
    have HBS:=hid (bytesAt_sub HBY.o (by rw [hdl];exact hcap2) 0 64)
    have HBL:Hid ((((xs.drop c).take 64).drop 0).length=64):=by show _=_;rw [List.drop_zero,List.length_take,hdl];omega
    have HDL:=hid hdl
    clear hdl
    generalize hL:xs.length - c=L at*
    have HL:=hid hL
    clear hL
    have hgi:(64:Int)≤(L:Int):=by omega
    go_wp2_with fail
    refine (process_any b o (Sha.hs (ps++xs) (ps.length+c)) (subA ac 0 capc) capc _ HBL.o (by omega) wr HM.o.words (fun i _=>HM.o.free _) HBS.o HKR.o).mono ?_
    rintro e w5 ⟨rfl,hw5,hc5⟩
    rw [← blk_eq ps xs c] at hw5
    have HM5:=hid (HM.o.block hcm hw5 hc5)
    have HC5:Hid (Chg (stateCells b o) w w5):=HCC.o.trans (hc5.mono fun k i _ hm=>⟨hm.1,hm.2.1,by have:=hm.2.2;omega⟩)
    have hsep: ∀ad,ac=some ad→ad.block≠b:=fun ad e=>HSEP.o ad e (by omega)
    have HSEP5:=hid (subA_block (l:=64) (cap:=capc) (k:=0) hsep)
    have HB5:Hid (BytesAt w5 (subA ac 64 capc) (xs.drop (c+64))):=by
     have h1:=bytesAt_chg0 HBY.o hc5 (fun ad e _ i hm=>hsep ad e hm.1)
     have h2:=bytesAt_sub h1 (by rw [HDL.o];exact hcap2) 64 (xs.drop c).length
     rw [List.take_length,List.drop_drop] at h2
     exact h2
    clear hw5 hc5 hsep
    go_wp2_with fail
    go_roundw
    case rel=>exact ⟨c+64,subA ac 64 capc,capc - 64,by rw [show xs.length - (c+64)=L - 64 by have:=HL.o;omega],by have:=HL.o;omega,by omega,by rw [← Nat.add_assoc];exact HM5.o,by have:=HL.o;omega,fun h=>subA_none HNC.o h,fun ad e _=>HSEP5.o ad e,HB5.o,HC5.o⟩
    case measure=>simp [sliceLen];omega
   ·have hsq:=sliceB_all b (o+8)
    have hdl:(xs.drop c).length=xs.length - c:=List.length_drop
    have HDL:=hid hdl
    have hbl:(bvals (xs.drop c)).length=xs.length - c:=by rw [bvals_length,hdl]
    have hmin:Nat.min (xs.length - c) 64=xs.length - c:=Nat.min_eq_left (by omega)
    have HCS:Hid ((bvals (xs.drop c)).length=Nat.min (xs.length - c) 64):=by show _=_;rw [hbl,hmin]
    have HROW:Hid (∃cur t,wr.heap[b]? =some (.cells cur t (0,0))∧o+8+Nat.min (xs.length - c) 64≤cur.size):=by
     obtain ⟨R,t,hr,hs⟩:=HM.o.row
     exact ⟨R,t,hr,by rw [hmin];omega⟩
    have HPOS:Hid (0<(bvals (xs.drop c)).length→(some (⟨b,o+8,none⟩:Addr))=some ⟨b,o+8,none⟩∧ ∃ad,ac=some ad∧ ∀j v,(bvals (xs.drop c))[j]? =some v→wr.cell? (ad.add j)=some v):=fun hp=>by
     rw [bvals_length] at hp
     obtain ⟨b',o',e',hcell⟩:=HBY.o.some hp
     refine ⟨rfl,_,e',fun j v hj=> ?_⟩
     have hj2:j<(xs.drop c).length:=by have:=(List.getElem?_eq_some_iff.1 hj).1;rwa [bvals_length] at this
     rw [add_none,hcell j hj2,← hj,bvals,List.getElem?_map,lE hj2]
     simp [List.getD,lE hj2]
    have HHB:=hid hbl
    clear hdl hbl hmin
    generalize hL:xs.length - c=L at*
    have HL:=hid hL
    clear hL
    have hgi: ¬(64:Int)≤(L:Int):=by omega
    go_wp2_with (first
     | (with_reducible refine wpList_copy_cells rfl (.tmp 54) (.tmp 55) 52 52 rfl 5 Tryz.underlying52 (by kernel_rfl) _ _ _ _ _ _ rfl rfl b (o+8) HROW.o (bvals (xs.drop c)) HCS.o HPOS.o (bvals_one _) ?_
        intro w6 hc6 hcell6 hrow6
        have HCP:=hid (HM.o.copied (off:=0) (fun x hx=>HB.o.2.1 x (List.mem_of_mem_drop hx)) (by rw [HDL.o];omega) hc6 hcell6)
        have HC6:Hid (Chg (stateCells b o) w w6):=HCC.o.trans (hc6.mono fun k i _ hm=>⟨hm.1,by omega,by have h9:=hm.2.2;rw [HHB.o] at h9;omega⟩)
        clear hc6 hcell6 hrow6))
    go_end0
    refine ⟨rfl,HCP.o.1.done hcm (by rw [List.length_append];omega) (by rw [List.length_append];have:=HL.o;omega) HSB.o (fun i hi=> ?_),HC6.o⟩
    rw [List.length_append] at hi
    have hL:=HL.o
    have h:=HCP.o.2.1 i (by rw [HDL.o];omega)
    rw [Nat.zero_add] at h
    rw [h,getD_dropN,show ps.length+c+i=ps.length+(c+i) by omega,getD_app_r]
 ·have hu0:0<u:=by omega
  have hsa:=sliceB_l b (o+8) u hu64
  go_upto_region 3 with fail
  clear hui hui2
  refine wp_over (fun W=>Hid (MidAt W b o (ps++xs) (ps.length - u))∧Hid (∀i,i<u→W.cell? ⟨b,o+8+i,none⟩=some (.int .u8 ((ps.getD (ps.length - u+i) 0:Nat):Int)))∧Hid (Chg (stateCells b o) w W)) ⟨?_,?_,?_⟩ ?_
  ·have hc:Chg (fun k i=>k=b∧i=o+72) w (w.setCell ⟨b,o+72,none⟩ (.int .i64 ((ps.length:Int)+(xs.length:Int)))):=Chg.setCell1 _ _ _ _ ⟨rfl,rfl⟩
   have h:=HH.o
   obtain ⟨R,t,hr,hs⟩:=h.row
   obtain ⟨R',hr',hs',_⟩:=hc.cells b ⟨o,fun hm=>by omega⟩ _ _ _ hr
   refine ⟨⟨R',t,hr',by omega⟩,fun i hi=> ?_,fun i hi=> ?_,?_⟩
   ·have e:Sha.hs (ps++xs) (ps.length - u)=Sha.hs ps ps.length:=by
       rw [Sha.hs_append ps xs _ (by omega)]
       have h2:=Sha.hs_stay ps (ps.length - u) u (by have:=HU.o;omega)
       rw [show ps.length - u+u=ps.length by have:=HU.o;omega] at h2
       exact h2.symm
    rw [e]
    exact hc.cell (h.words i hi) (fun hm=>by omega)
   ·obtain ⟨x,hx,hcx⟩:=h.buf i hi
    exact ⟨x,hx,hc.cell hcx (fun hm=>by omega)⟩
   ·rw [List.length_append,World.cell?_setCell_same _ _ _ h.len];simp
  ·intro i hi
   have h:=HH.o.held i (by rw [HU.o];exact hi)
   rw [HU.o] at h
   exact set_other h (by omega)
  ·exact Chg.setCell1 _ _ _ _ ⟨rfl,by omega,by omega⟩
  rintro W ⟨HM,HHELD,HCW⟩
  obtain ⟨n,hn⟩: ∃n,Nat.min xs.length (64 - u)=n:=⟨_,rfl⟩
  have hn1:n≤xs.length:=by rw [← hn];exact Nat.min_le_left _ _
  have hn2:n≤64 - u:=by rw [← hn];exact Nat.min_le_right _ _
  have hn3:n=xs.length∨n=64 - u:=by rw [← hn];exact (Nat.le_total xs.length (64 - u)).imp Nat.min_eq_left Nat.min_eq_right
  have HN:=hid hn
  clear hn
  have HBW:Hid (BytesAt W a xs):=bytesAt_chg0 HB.o HCW.o (fun ad e h0 i hm=>HAB.o ad e h0 hm.1)
  have htl:(xs.take n).length=n:=by rw [List.length_take];omega
  have HTL:=hid htl
  have HCS:Hid ((bvals (xs.take n)).length=Nat.min xs.length (64 - u)):=by show _=_;rw [bvals_length,HTL.o,HN.o]
  have HROW:Hid (∃cur t,W.heap[b]? =some (.cells cur t (0,0))∧o+8+u+Nat.min xs.length (64 - u)≤cur.size):=by
   obtain ⟨R,t,hr,hs⟩:=HM.o.row
   exact ⟨R,t,hr,by rw [HN.o];omega⟩
  have HPOS:Hid (0<(bvals (xs.take n)).length→(some (⟨b,o+8+u,none⟩:Addr))=some ⟨b,o+8+u,none⟩∧ ∃ad,a=some ad∧ ∀j v,(bvals (xs.take n))[j]? =some v→W.cell? (ad.add j)=some v):=fun hp=>by
   rw [bvals_length,HTL.o] at hp
   obtain ⟨b',o',e',hc⟩:=HBW.o.some (by omega)
   refine ⟨rfl,_,e',fun j v hj=> ?_⟩
   have hj2:j<n:=by have:=(List.getElem?_eq_some_iff.1 hj).1;rwa [bvals_length,HTL.o] at this
   rw [add_none,hc j (by omega),← hj,bvals,List.getElem?_map,List.getElem?_take_of_lt hj2,lE (by omega)]
   simp [List.getD,lE (show j<xs.length by omega)]
  have hsl:=slice_l a xs.length cap n hn1
  have hgo:goInt ((bvals (xs.take n)).length:Int)= .int .i64 (n:Int):=by rw [bvals_length,HTL.o];rfl
  clear htl
  go_upto_region 5 with (first
   | (with_reducible refine wpList_copy_cells rfl (.tmp 26) (.tmp 27) 52 52 rfl 5 Tryz.underlying52 (by kernel_rfl) _ _ _ _ _ _ rfl rfl b (o+8+u) HROW.o (bvals (xs.take n)) HCS.o HPOS.o (bvals_one _) ?_
      intro w2 hc2 hcell2 hrow2
      rw [hgo]
      have hcp:=HM.o.copied (fun x hx=>HB.o.2.1 x (List.mem_of_mem_take hx)) (by rw [HTL.o];omega) hc2 hcell2
      have HCP:=hid hcp
      have HC2:Hid (Chg (stateCells b o) w w2):=HCW.o.trans (hc2.mono fun k i _ hm=>⟨hm.1,by omega,by have h9:=hm.2.2;rw [bvals_length,HTL.o] at h9;omega⟩)
      clear hc2 hcell2 hrow2 hcp))
  have hsb: ∀x ∈ ps++xs,x<256:=fun x hx=>by
   rcases List.mem_append.1 hx with h | h
   ·exact HH.o.bytes x h
   ·exact HB.o.2.1 x h
  have HBUF:Hid (∀i,i<u+n→w2.cell? ⟨b,o+8+i,none⟩=some (.int .u8 (((ps++xs).getD (ps.length - u+i) 0:Nat):Int))):=fun i hi=>by
   obtain ⟨_,h2,h3⟩:=HCP.o
   have hup:u≤ps.length:=by have:=HU.o;omega
   by_cases hiu:i<u
   ·rw [h3 i _ hiu (HHELD.o i hiu),getD_app_l _ _ _ (by omega)]
   ·have h4:=h2 (i - u) (by rw [HTL.o];omega)
    rw [show u+(i - u)=i by omega] at h4
    rw [h4,getD_take _ _ _ (by omega),show ps.length - u+i=ps.length+(i - u) by omega,getD_app_r]
  have HSB:=hid hsb
  clear hsb hsl hsa hgo
  by_cases h64:u+n<64
  ·have h64i:(u:Int)+(n:Int)<64:=by omega
   go_wp2_with fail
   (try simp only [Exit.inBlock,Exit.then])
   refine bodyPost_ret (results_none rfl _ _ _) rfl ?_
   refine ⟨rfl,HCP.o.1.done (by have:=HU.o;omega) (by rw [List.length_append];omega) (by rw [List.length_append];have:=HU.o;omega) HSB.o (fun i hi=>HBUF.o i (by rw [List.length_append] at hi;have:=HU.o;omega)),HC2.o⟩
  ·have h64i: ¬(u:Int)+(n:Int)<64:=by omega
   have hsq:=sliceB_all b (o+8)
   have hq:((ps++xs).take (ps.length - u+64)).length=ps.length - u+64:=by rw [List.length_take,List.length_append];have:=HU.o;omega
   have HBL:Hid ((((ps++xs).take (ps.length - u+64)).drop (ps.length - u)).length=64):=by show _=_;rw [List.length_drop,hq];have:=HU.o;omega
   have HK2:Hid (KonAt w2):=fun t ht=>HC2.o.cell (HK.o t ht) (fun hm=>hb2 hm.1.symm)
   have HBB:Hid (BytesAt w2 (some ⟨b,o+8,none⟩) (((ps++xs).take (ps.length - u+64)).drop (ps.length - u))):=by
    refine ⟨.inr ⟨b,o+8,rfl,fun i hi=> ?_⟩,fun x hx=>HSB.o x (List.mem_of_mem_take (List.mem_of_mem_drop hx)),by rw [HBL.o];unfold maxLen;omega⟩
    rw [HBL.o] at hi
    rw [HBUF.o i (by omega),getD_dropN,getD_take _ _ _ (by omega)]
   clear hq
   go_wp2_with fail
   refine (process_any b o (Sha.hs (ps++xs) (ps.length - u)) (some ⟨b,o+8,none⟩) 64 _ HBL.o (Nat.le_refl _) w2 HCP.o.1.words (fun i _=>HCP.o.1.free _) HBB.o HK2.o).mono ?_
   rintro e w3 ⟨rfl,hw3,hc3⟩
   have HM3:Hid (MidAt w3 b o (ps++xs) (ps.length+n)):=by
    have h:=HCP.o.1.block (by have:=HU.o;omega) hw3 hc3
    rwa [show ps.length - u+64=ps.length+n by have:=HU.o;omega] at h
   have HC3:Hid (Chg (stateCells b o) w w3):=HC2.o.trans (hc3.mono fun k i _ hm=>⟨hm.1,hm.2.1,by have:=hm.2.2;omega⟩)
   clear hw3 hc3 hsq
   have hnx:n=64 - u:=by omega
   have hR0:WrtRel w b o ps xs (.slice (subA a n cap) (xs.length - n) (cap - n)) w3:=⟨n,_,_,rfl,hn1,by have:=HU.o;omega,HM3.o,by omega,fun h=>subA_none HNIL.o h,fun ad e h0=>subA_block (l:=n) (cap:=cap) (k:=0) (fun ad e=>HAB.o ad e (by omega)) ad e,by
    have h1:=bytesAt_chg0 HB.o HC3.o (fun ad e h0 i hm=>HAB.o ad e h0 hm.1)
    have h2:=bytesAt_sub h1 hcap n xs.length
    rw [List.take_length] at h2
    exact h2,HC3.o⟩
   have HR0:=hid hR0
   clear hR0 hnx
   go_wp2_with fail
   go_loopw [1] (fun x wr=>WrtRel w b o ps xs x wr) (fun x _=>sliceLen x)
   case atStart=>exact HR0.o
   case round=>
    obtain ⟨c,ac,capc,rfl,hc,hcm,HM,hcap2,HNC,HSEP,HBY,HCC⟩:=hrel
    have HKR:Hid (KonAt wr):=fun t ht=>HCC.o.cell (HK.o t ht) (fun hm=>hb2 hm.1.symm)
    by_cases hge:64≤xs.length - c
    ·have hsl: ∀W,(Instr.slice 52 (.slice ac (xs.length - c) capc) none (some (.int .i64 64)) none).run Tryz.prog W= .ok (.slice (subA ac 0 capc) 64 capc) W:=slice_h ac (xs.length - c) capc 64 (by omega)
     have hsl2: ∀W,(Instr.slice 52 (.slice ac (xs.length - c) capc) (some (.int .i64 64)) none none).run Tryz.prog W= .ok (.slice (subA ac 64 capc) (xs.length - c - 64) (capc - 64)) W:=slice_l ac (xs.length - c) capc 64 (by omega)
     have hdl:(xs.drop c).length=xs.length - c:=List.length_drop
     have HBS:=hid (bytesAt_sub HBY.o (by rw [hdl];exact hcap2) 0 64)
     have HBL:Hid ((((xs.drop c).take 64).drop 0).length=64):=by show _=_;rw [List.drop_zero,List.length_take,hdl];omega
     have HDL:=hid hdl
     clear hdl
     generalize hL:xs.length - c=L at*
     have HL:=hid hL
     clear hL
     have hgi:(64:Int)≤(L:Int):=by omega
     go_wp2_with fail
     refine (process_any b o (Sha.hs (ps++xs) (ps.length+c)) (subA ac 0 capc) capc _ HBL.o (by omega) wr HM.o.words (fun i _=>HM.o.free _) HBS.o HKR.o).mono ?_
     rintro e w5 ⟨rfl,hw5,hc5⟩
     rw [← blk_eq ps xs c] at hw5
     have HM5:=hid (HM.o.block hcm hw5 hc5)
     have HC5:Hid (Chg (stateCells b o) w w5):=HCC.o.trans (hc5.mono fun k i _ hm=>⟨hm.1,hm.2.1,by have:=hm.2.2;omega⟩)
     have hsep: ∀ad,ac=some ad→ad.block≠b:=fun ad e=>HSEP.o ad e (by omega)
     have HSEP5:=hid (subA_block (l:=64) (cap:=capc) (k:=0) hsep)
     have HB5:Hid (BytesAt w5 (subA ac 64 capc) (xs.drop (c+64))):=by
      have h1:=bytesAt_chg0 HBY.o hc5 (fun ad e _ i hm=>hsep ad e hm.1)
      have h2:=bytesAt_sub h1 (by rw [HDL.o];exact hcap2) 64 (xs.drop c).length
      rw [List.take_length,List.drop_drop] at h2
      exact h2
     clear hw5 hc5 hsep
     go_wp2_with fail
     go_roundw
     case rel=>exact ⟨c+64,subA ac 64 capc,capc - 64,by rw [show xs.length - (c+64)=L - 64 by have:=HL.o;omega],by have:=HL.o;omega,by omega,by rw [← Nat.add_assoc];exact HM5.o,by have:=HL.o;omega,fun h=>subA_none HNC.o h,fun ad e _=>HSEP5.o ad e,HB5.o,HC5.o⟩
     case measure=>simp [sliceLen];omega
    ·have hsq:=sliceB_all b (o+8)
     have hdl:(xs.drop c).length=xs.length - c:=List.length_drop
     have HDL:=hid hdl
     have hbl:(bvals (xs.drop c)).length=xs.length - c:=by rw [bvals_length,hdl]
     have hmin:Nat.min (xs.length - c) 64=xs.length - c:=Nat.min_eq_left (by omega)
     have HCS:Hid ((bvals (xs.drop c)).length=Nat.min (xs.length - c) 64):=by show _=_;rw [hbl,hmin]
     have HROW:Hid (∃cur t,wr.heap[b]? =some (.cells cur t (0,0))∧o+8+Nat.min (xs.length - c) 64≤cur.size):=by
      obtain ⟨R,t,hr,hs⟩:=HM.o.row
      exact ⟨R,t,hr,by rw [hmin];omega⟩
     have HPOS:Hid (0<(bvals (xs.drop c)).length→(some (⟨b,o+8,none⟩:Addr))=some ⟨b,o+8,none⟩∧ ∃ad,ac=some ad∧ ∀j v,(bvals (xs.drop c))[j]? =some v→wr.cell? (ad.add j)=some v):=fun hp=>by
      rw [bvals_length] at hp
      obtain ⟨b',o',e',hcell⟩:=HBY.o.some hp
      refine ⟨rfl,_,e',fun j v hj=> ?_⟩
      have hj2:j<(xs.drop c).length:=by have:=(List.getElem?_eq_some_iff.1 hj).1;rwa [bvals_length] at this
      rw [add_none,hcell j hj2,← hj,bvals,List.getElem?_map,lE hj2]
      simp [List.getD,lE hj2]
     have HHB:=hid hbl
     clear hdl hbl hmin
     generalize hL:xs.length - c=L at*
     have HL:=hid hL
     clear hL
     have hgi: ¬(64:Int)≤(L:Int):=by omega
     go_wp2_with (first
      | (with_reducible refine wpList_copy_cells rfl (.tmp 54) (.tmp 55) 52 52 rfl 5 Tryz.underlying52 (by kernel_rfl) _ _ _ _ _ _ rfl rfl b (o+8) HROW.o (bvals (xs.drop c)) HCS.o HPOS.o (bvals_one _) ?_
         intro w6 hc6 hcell6 hrow6
         have HCP:=hid (HM.o.copied (off:=0) (fun x hx=>HB.o.2.1 x (List.mem_of_mem_drop hx)) (by rw [HDL.o];omega) hc6 hcell6)
         have HC6:Hid (Chg (stateCells b o) w w6):=HCC.o.trans (hc6.mono fun k i _ hm=>⟨hm.1,by omega,by have h9:=hm.2.2;rw [HHB.o] at h9;omega⟩)
         clear hc6 hcell6 hrow6))
     go_end0
     refine ⟨rfl,HCP.o.1.done hcm (by rw [List.length_append];omega) (by rw [List.length_append];have:=HL.o;omega) HSB.o (fun i hi=> ?_),HC6.o⟩
     rw [List.length_append] at hi
     have hL:=HL.o
     have h:=HCP.o.2.1 i (by rw [HDL.o];omega)
     rw [Nat.zero_add] at h
     rw [h,getD_dropN,show ps.length+c+i=ps.length+(c+i) by omega,getD_app_r]
theorem wpList_load_cells {P:Program} {ops:Array Oper} {rest:List Oper} {o:Oper} {a:Act} {w:World} {Q:Exit→Act→World→Prop} (hgd:o.guard=none) (ty:TypeId) (x:Operand) (ho:o.op= .load ty x)
    (g off:Nat) (hx:a.eval x= .pointer (some ⟨g,off,none⟩)) (cs:List Value) (hc: ∀j u,cs[j]? =some u→w.cell? ⟨g,off+j,none⟩=some u) (d:TypeDesc)
    (hu:P.underlying ty=some d) (hd:(match d with | .struct _ | .array _ _=>true | _=>false)=true) (hi:(P.info? ty).map (·.size)=some cs.length) (R:Array Value) (hR:cs.toArray=R)
    (h:wpList P ops Q rest (a.put o.dst (.agg R)) w):wpList P ops Q (o::rest) a w:=by
 subst hR
 refine wpList_plain hgd fun _ hK=> ?_
 have hl:(loadCells ⟨g,off,none⟩ cs.length).run P w= .ok cs.toArray w:=
  run_loadCells_list (P:=P) w ⟨g,off,none⟩ cs (fun j v hv=>by rw [add_none];exact hc j v hv)
 have hrun:(loadVar ty ⟨g,off,none⟩).run P w= .ok (.agg cs.toArray) w:=by
  cases hq:P.info? ty with
  | none=>simp [hq] at hi
  | some i=>
    have hs:i.size=cs.length:=by simpa [hq] using hi
    have hagg:(isAgg ty).run P w= .ok true w:=by
     unfold isAgg
     rw [Sem.run_bind,run_underlying hu w]
     cases d<;> simp_all
    simp [loadVar,Sem.run_bind,hagg,sizeOf,typeInfo,hq,hs,hl]
 unfold Oper.wp execOp
 simp only [ho,hx,Instr.loadAt,Instr.sureAddr,Sem.run_bind,Sem.run_pure,Result.andThen_ok,hrun]
 exact hK _ _ h

theorem StateAt.cells {w:World} {b o:Nat} {ps:List Nat} (h:StateAt w b o ps): ∃cs:List Value,cs.length=73∧(∀j u,cs[j]? =some u→w.cell? ⟨b,o+j,none⟩=some u)∧(∀u ∈ cs,u.oneCell'=true)∧
    (∀(w':World) (N:Nat) (t:TypeId),w'.heap[N]? =some (.cells cs.toArray t (0,0))→StateAt w' N 0 ps):=by
 obtain ⟨R,t,hr,hs⟩:=h.row
 have hget: ∀j,j<73→((R.toList.drop o).take 73)[j]? =R[o+j]? :=fun j hj=>by
  rw [List.getElem?_take_of_lt hj,List.getElem?_drop,Array.getElem?_toList]
 have hcell: ∀j,w.cell? ⟨b,o+j,none⟩=R[o+j]? :=fun j=>cell_of_row _ _ _ _ _ _ hr
 have hlen:((R.toList.drop o).take 73).length=73:=by rw [List.length_take,List.length_drop,Array.length_toList];omega
 refine ⟨(R.toList.drop o).take 73,hlen,fun j u hj=> ?_,fun u hu=> ?_,fun w' N t' hN=> ?_⟩
 ·have hj2:j<73:=by have:=(List.getElem?_eq_some_iff.1 hj).1;omega
  rw [hcell,← hget j hj2];exact hj
 ·obtain ⟨j,hj,rfl⟩:=List.getElem_of_mem hu
  have hj2:j<73:=by omega
  have e:w.cell? ⟨b,o+j,none⟩=some ((R.toList.drop o).take 73)[j]:=by rw [hcell,← hget j hj2,lE hj]
  by_cases h1:j<8
  ·have:=h.words j h1
   rw [e] at this;rw [Option.some.inj this];rfl
  ·by_cases h2:j<72
   ·obtain ⟨x,_,hx⟩:=h.buf (j - 8) (by omega)
    rw [show o+8+(j - 8)=o+j by omega,e] at hx;rw [Option.some.inj hx];rfl
   ·have e2:j=72:=by omega
    subst e2
    have:=h.len
    rw [e] at this;rw [Option.some.inj this];rfl
 ·have hc: ∀j u,j<73→w.cell? ⟨b,o+j,none⟩=some u→w'.cell? ⟨N,j,none⟩=some u:=fun j u hj hu=>by
     rw [cell_of_row _ _ _ _ _ _ hN,List.getElem?_toArray,hget j hj,← hcell];exact hu
  have hm:=Nat.mod_lt ps.length (show 0<64 by decide)
  refine ⟨⟨_,t',hN,by rw [List.size_toArray,hlen];exact Nat.le_refl _⟩,fun i hi=> ?_,fun i hi=> ?_,fun i hi=> ?_,?_,h.bytes⟩
  ·rw [Nat.zero_add];exact hc i _ (by omega) (h.words i hi)
  ·obtain ⟨x,hx,hcx⟩:=h.buf i hi
   exact ⟨x,hx,by rw [Nat.zero_add];exact hc (8+i) _ (by omega) (by rw [← Nat.add_assoc];exact hcx)⟩
  ·rw [Nat.zero_add];exact hc (8+i) _ (by omega) (by rw [← Nat.add_assoc];exact h.held i hi)
  ·rw [Nat.zero_add];exact hc 72 _ (by omega) h.len
theorem Tryz.zcells308 : Tryz.zeroCells308.size=73:=by kernel_rfl
theorem Tryz.size143:(Tryz.prog.info? 308).map (·.size)=some 73:=by kernel_rfl
def padTo (k:Nat):List Nat:=128::List.replicate k 0
theorem all_one {cs:List Value} (h: ∀u ∈ cs,u.oneCell'=true):cs.toArray.all (·.oneCell')=true:=by
 rw [List.all_toArray,List.all_eq_true];exact h
theorem padTo_succ (k:Nat):padTo (k+1)=padTo k++[0]:=by simp [padTo,List.replicate_succ']
theorem pad_cond (n k:Nat) (hk:k≤Sha.zeros n):(n+(k+1)) % 64=56↔k=Sha.zeros n:=by
 unfold Sha.zeros at*
 omega

def wordsL (S:Sha.St):List Value:=[.int .u32 (v S.a),.int .u32 (v S.b),.int .u32 (v S.c),.int .u32 (v S.d),.int .u32 (v S.e),.int .u32 (v S.f),.int .u32 (v S.g),.int .u32 (v S.h)]
theorem wordsL_get (S:Sha.St) (j:Nat) (h:j<8):(wordsL S)[j]? =some (.int .u32 (v (S.list.getD j 0))):=by
 match j,h with
 | 0,_=>rfl
 | 1,_=>rfl
 | 2,_=>rfl
 | 3,_=>rfl
 | 4,_=>rfl
 | 5,_=>rfl
 | 6,_=>rfl
 | 7,_=>rfl
theorem cells_new_at (w:World) (xs:List Value) (e:TypeId) (j:Nat) (u:Value) (h:xs[j]? =some u):(w.alloc (.cells xs.toArray e (0,0))).cell? ⟨w.heap.size,0+j,none⟩=some u:=by
 rw [cell_of_row _ _ _ _ _ _ (heap_alloc_new _ _),Nat.zero_add,List.getElem?_toArray];exact h
theorem ex_eq {α:Type} (a:α): ∃b,a=b:=⟨a,rfl⟩
theorem be8_take (n j:Nat) (h:j<8):(Sha.be8 n).take (j+1)=(Sha.be8 n).take j++[n/256 ^ (7 - j) % 256]:=by
 rw [List.take_add_one]
 congr 1
 simp [Sha.be8,h]
theorem digest_take (S:Sha.St) (k:Nat) (h:k<8):(Sha.digest S).take (4*(k+1))=(Sha.digest S).take (4*k)++Sha.bytes4 (S.list.getD k 0):=by
 match k,h with
 | 0,_=>rfl
 | 1,_=>rfl
 | 2,_=>rfl
 | 3,_=>rfl
 | 4,_=>rfl
 | 5,_=>rfl
 | 6,_=>rfl
 | 7,_=>rfl
theorem shift_byte (n j q:Nat) (h:j<8) (hq:56 - 8*(j:Int)=(q:Int)):((n:Nat):Int)*8/2 ^ min q 64 % 256=((8*n/256 ^ (7 - j) % 256:Nat):Int):=by
 have e:min q 64=8*(7 - j):=by omega
 rw [e,Int.pow_mul]
 rw [show (2:Int) ^ 8=((256:Nat):Int) by rfl,Nat.mul_comm 8 n]
 rw [Int.natCast_emod,Int.natCast_ediv,Int.natCast_mul,Int.natCast_pow]
 rfl

theorem stateSum_any (b o:Nat) (ps:List Nat) (hl:ps.length≤100000000000) (w:World) (h:StateAt w b o ps) (hK:KonAt w):
    Calls Tryz.prog 180 #[.pointer (some ⟨b,o,none⟩)] w fun e w'=> ∃bs:List Nat,e= .returned (.string (strB bs))∧bs=Sha.sum ps∧Below w.heap.size w w':=by
 have HH:=hid h
 have HK:=hid hK
 obtain ⟨cs,hcl,hcc,hc1,hcn⟩:=h.cells
 have hrs:cs.toArray.size=73:=by rw [List.size_toArray];exact hcl
 have hr1:=all_one hc1
 obtain ⟨R,hR⟩: ∃R,cs.toArray=R:=⟨_,rfl⟩
 rw [hR] at hcn hrs hr1
 have HR:=hid hR
 have HRS:=hid hrs
 have HR1:=hid hr1
 have HCC:=hid hcc
 have HCN:=hid hcn
 have HCL:=hid hcl
 have HC1:=hid hc1
 have hlen:=h.len
 clear h hK hcc hcn hc1 hcl hR hrs hr1
 obtain ⟨i0,hi,hz0,hz1,hz2⟩:=info_parts Tryz.info5
 have FI:=hid hi
 have FZ0:=hid hz0
 have FZ1:=hid hz1
 have FZ2:=hid hz2
 clear hi hz0 hz1 hz2
 have hst:=run_storeCells_new (P:= Tryz.prog) w 308 Tryz.zeroCells308 R (by rw [HRS.o];exact Tryz.size143) (by rw [HRS.o];exact Tryz.zcells308) HR1.o
 go_enter Tryz.func180,Tryz.ntmps180
 go_upto_region 2 with (first
  | (with_reducible refine wpList_load_cells rfl 308 (.tmp 11) rfl b o rfl cs HCC.o _ Tryz.underlying308 rfl (by rw [HCL.o];exact Tryz.size143) R HR.o ?_))
 clear hst
 refine wp_over (fun W=>Hid (StateAt W w.heap.size 0 ps)∧Hid (Below w.heap.size w W)∧Hid (W.heap.size=w.heap.size+1)) ⟨?_,?_,?_⟩ ?_
 ·exact HCN.o _ _ 308 (heap_alloc_new _ _)
 ·exact (Below.refl _ _).alloc (Nat.le_refl _) _
 ·show _=_;simp
 rintro V ⟨HV,HBV,HSV⟩
 generalize hN:w.heap.size=N at HV HBV HSV ⊢
 have HN:=hid hN
 clear hN
 have hmod: ∀k,k≤Sha.zeros ps.length→(((ps.length:Nat):Int)+(((k+1:Nat)):Int)).tmod 64=(((ps.length+(k+1)) % 64:Nat):Int):=fun k _=>by
  rw [Int.tmod_eq_emod_of_nonneg (by omega)];omega
 have HOW0:Hid ((V.alloc (.cells #[.int .u8 128] 5)).ownsRow (N+1) 5 1 (.slice (some ⟨V.heap.size,0,none⟩) 1 1) (0+1) (bvals (padTo 0))):=
  ⟨rfl,.inr ⟨V.heap.size,1,#[.int .u8 128],rfl,by rw [HSV.o];exact Nat.le_refl _,heap_alloc_new _ _,Nat.le_refl _,by unfold maxLen;omega,rfl,rfl⟩⟩
 have HB0:Hid (Below (N+1) V (V.alloc (.cells #[.int .u8 128] 5))):=(Below.refl _ _).alloc (by rw [HSV.o];exact Nat.le_refl _) _
 have hz64:Sha.zeros ps.length<64:=by unfold Sha.zeros;omega
 have HPC:=hid (fun k hk=>pad_cond ps.length k hk)
 obtain ⟨z,hz⟩: ∃z,Sha.zeros ps.length=z:=⟨_,rfl⟩
 rw [hz] at HPC hz64 hmod
 have HZ:=hid hz
 clear hz
 have HMOD:=hid hmod
 clear hmod
 have hlenV: ∀V',Below (N+1) V V'→V'.cell? ⟨b,o+72,none⟩=some (.int .i64 ps.length):=fun V' h=>by
  have h1:V.cell? ⟨b,o+72,none⟩=some (.int .i64 ps.length):=(HBV.o.cell (p:=⟨b,o+72,none⟩) (by have:=HH.o.lt;have:=HN.o;show b<N;omega)).trans hlen
  exact (h.cell (p:=⟨b,o+72,none⟩) (by have:=HH.o.lt;have:=HN.o;show b<N+1;omega)).trans h1
 have HLV:=hid hlenV
 clear hlenV hlen
 go_wp2_with fail
 go_loopw [4] (fun x wr=> ∃k:Nat,k≤z∧Hid (wr.ownsRow (N+1) 5 1 x (k+1) (bvals (padTo k)))∧Hid (Below (N+1) V wr)∧N+1≤wr.heap.size) (fun x _=>z+1 - sliceLen x)
 case atStart=>exact ⟨0,Nat.zero_le _,HOW0.o,HB0.o,by have:=HSV.o;simp;omega⟩
 case round=>
  obtain ⟨k,hk,HOW,HBE,hsz⟩:=hrel
  obtain ⟨g,cp,rfl⟩:=ownsRow_succ HOW.o
  have hlr:=HLV.o _ HBE.o
  obtain ⟨L,hL⟩: ∃L,k+1=L:=⟨_,rfl⟩
  obtain ⟨r,hr⟩: ∃r,(ps.length+L) % 64=r:=⟨_,rfl⟩
  have hm:((ps.length:Int)+(L:Int)).tmod 64=(r:Int):=by rw [Int.tmod_eq_emod_of_nonneg (by omega)];omega
  have hm2:((ps.length:Int)+(L:Int)) % 64=(r:Int):=by omega
  have HRK:Hid (r=56↔k=z):=by have h:=HPC.o k hk;rw [hL,hr] at h;exact h
  have HBP:=hid (show bvals (padTo k)++[.int .u8 0]=bvals (padTo (k+1)) by rw [padTo_succ,bvals_append];rfl)
  rw [hL] at HOW ⊢
  have HL:=hid hL
  have hLb:L≤64:=by omega
  clear hL hr
  by_cases hkz:k<z
  ·have hne:((r:Int) != 56)=true:=by
      rw [bne_iff_ne];intro h;have:=HRK.o.1 (by omega);omega
   go_wp2_with (first
    | (at_builtin
       refine wpList_append_own _ rfl _ _ 52 rfl (N+1) 5 i0 (.int .u8 0) 1 1 Tryz.underlying52 FI.o FZ0.o FZ1.o FZ2.o rfl (by decide) _ _ _ rfl (HOW.o.alloc _) ⟨wr.heap.size,0,none⟩ 1 1 [.int .u8 0] rfl rfl (cell_one_new _ _ _) (by simp [Value.oneCell']) (by unfold maxLen;omega) (by omega) (by simp;omega) ?_
       intro v' w4 hown4 hgr4 _
       have HO4:Hid (w4.ownsRow (N+1) 5 1 v' (L+1) (bvals (padTo (k+1)))):=by rw [← HBP.o];exact hown4
       have HC4:Hid (Chg (fun q _=>N+1≤q) wr w4):=(Chg.alloc1 wr _).trans (Chg.of_grown hgr4 (fun q _ e=>(HOW.o.lt q e).1))
       clear hown4 hgr4
       obtain ⟨g4,cp4,hv4⟩:=ownsRow_succ HO4.o
       subst hv4))
   go_roundw
   case rel=>exact ⟨k+1,by omega,by have h:=HO4.o;rw [HL.o] at h ⊢;exact h,HBE.o.trans (HC4.o.below hsz (fun q i hq h=>by omega)),by have:=HC4.o.size;omega⟩
   case measure=>have:=HL.o;simp [sliceLen];omega
  ·have hne:((r:Int) != 56)=false:=by
      have h:=HRK.o.2 (by omega)
      rw [h];rfl
   have hkz2:k=z:=by omega
   have HKZ:=hid hkz2
   clear hkz2
   have hwr8:IntKind.u64.wrap ((ps.length:Nat):Int)=(ps.length:Int):=by rw [IntKind.wrap_u64];omega
   have HOWZ:Hid (wr.ownsRow (N+1) 5 1 (.slice (some ⟨g,0,none⟩) L cp) (L+0) (bvals (padTo z++(Sha.be8 (8*ps.length)).take 0))):=by
    have h:=HOW.o
    rw [HKZ.o] at h
    rw [List.take_zero,List.append_nil];exact h
   have HLZ:Hid (z+1=L):=hid (by have:=HKZ.o;have:=HL.o;omega)
   go_wp2_with fail
   clear HOW HBP HRK hlr hm hm2 hne HL
   go_loopw [4,6] (fun x y W2=> ∃j:Nat,j≤8∧Hid (y= .int .i64 (56 - 8*(j:Int)))∧Hid (W2.ownsRow (N+1) 5 1 x (L+j) (bvals (padTo z++(Sha.be8 (8*ps.length)).take j)))∧Hid (Below (N+1) V W2)∧N+1≤W2.heap.size) (fun x _ _=>L+9 - sliceLen x)
   case atStart=>exact ⟨0,by omega,rfl,HOWZ.o,HBE.o,hsz⟩
   case round=>
    obtain ⟨j,hj,HY,HOW,HBE2,hsz2⟩:=hrel
    by_cases hj8:j<8
    ·obtain ⟨q,hq⟩: ∃q:Nat,56 - 8*(j:Int)=(q:Int):=⟨56 - 8*j,by omega⟩
     have hY:=HY.o
     rw [hq] at hY
     subst hY
     clear HY
     have hwq:wrap64 ((q:Int) - 8)=(q:Int) - 8:=by unfold wrap64;omega
     have HQ:=hid hq
     clear hq
     have HBY:Hid (((ps.length:Nat):Int)*8/2 ^ min q 64 % 256=((8*ps.length/256 ^ (7 - j) % 256:Nat):Int)):=hid (shift_byte ps.length j q hj8 HQ.o)
     have HBT:Hid (bvals (padTo z++(Sha.be8 (8*ps.length)).take j)++[.int .u8 (((ps.length:Nat):Int)*8/2 ^ min q 64 % 256)]=bvals (padTo z++(Sha.be8 (8*ps.length)).take (j+1))):=hid (by
      rw [be8_take _ _ hj8,← List.append_assoc,bvals_snoc,HBY.o])
     obtain ⟨M,hM⟩: ∃M,L+j=M:=⟨_,rfl⟩
     rw [hM] at HOW
     have HM:=hid hM
     have hMb:M≤100:=by omega
     clear hM
     have hu4:sliceLen u4=M:=by
      obtain ⟨M',rfl⟩: ∃M',M=M'+1:=⟨M - 1,by have:=HM.o;have:=HLZ.o;omega⟩
      obtain ⟨g4,cp4,rfl⟩:=ownsRow_succ HOW.o
      rfl
     have HU4:=hid hu4
     clear hu4
     go_upto_region 9 with fail
     go_wp2_with (first
      | (at_builtin
         refine wpList_append_own _ rfl _ _ 52 rfl (N+1) 5 i0 (.int .u8 0) 1 1 Tryz.underlying52 FI.o FZ0.o FZ1.o FZ2.o rfl (by decide) _ _ _ rfl (HOW.o.alloc _) ⟨wr.heap.size,0,none⟩ 1 1 [.int .u8 (((ps.length:Nat):Int)*8/2 ^ min q 64 % 256)] rfl rfl (cell_one_new _ _ _) (by simp [Value.oneCell']) (by unfold maxLen;omega) (by omega) (by simp;omega) ?_
         intro v' w4 hown4 hgr4 _
         have HO4:Hid (w4.ownsRow (N+1) 5 1 v' (M+1) (bvals (padTo z++(Sha.be8 (8*ps.length)).take (j+1)))):=by rw [← HBT.o];exact hown4
         have HC4:Hid (Chg (fun q _=>N+1≤q) wr w4):=(Chg.alloc1 wr _).trans (Chg.of_grown hgr4 (fun q _ e=>(HOW.o.lt q e).1))
         clear hown4 hgr4
         obtain ⟨g4,cp4,hv4⟩:=ownsRow_succ HO4.o
         subst hv4))
     go_roundw
     case rel=>exact ⟨j+1,by omega,hid (by have:=HQ.o;congr 1;omega),by have h:=HO4.o;rw [← HM.o] at h ⊢;exact h,HBE2.o.trans (HC4.o.below hsz2 (fun q i hq h=>by omega)),by have:=HC4.o.size;omega⟩
     case measure=>rw [HU4.o];have:=HM.o;simp [sliceLen];omega
    ·have e8:j=8:=by omega
     subst e8
     have hY:=HY.o
     rw [show (56:Int) - 8*((8:Nat):Int)= -8 by decide] at hY
     subst hY
     clear HY
     have hpd:padTo z++(Sha.be8 (8*ps.length)).take 8=128::(List.replicate z 0++Sha.be8 (8*ps.length)):=by
      rw [List.take_of_length_le (by rw [Sha.be8_length];exact Nat.le_refl _)];rfl
     obtain ⟨pd,hpdd⟩: ∃pd,128::(List.replicate z 0++Sha.be8 (8*ps.length))=pd:=⟨_,rfl⟩
     have hpp:ps++pd=Sha.pad ps:=by rw [← hpdd,← HZ.o];rfl
     have hpb: ∀x ∈ pd,x<256:=fun x hx=>by
      rw [← hpdd] at hx
      rcases List.mem_cons.1 hx with e | hx
      ·omega
      ·rcases List.mem_append.1 hx with hx | hx
       ·have:=List.eq_of_mem_replicate hx;omega
       ·exact Sha.be8_lt _ _ hx
     rw [hpd,hpdd] at HOW
     have hpl:pd.length=L+8:=by rw [← hpdd];have:=HLZ.o;simp [Sha.be8_length];omega
     obtain ⟨hn8,a8,cp8,hv8,hcap8,hcm8,hB8,hnil8⟩:=bytes_of_own HOW.o hpb (by unfold maxLen;omega)
     have hblk: ∀ad,a8=some ad→N+1≤ad.block:=fun ad e=>by
      subst e;subst hv8
      exact (HOW.o.lt ad.block rfl).1
     subst hv8
     clear hn8 HOW
     have HPP:=hid hpp
     have HBLK:=hid hblk
     have HB8:=hid hB8
     have HCAP8:=hid hcap8
     have HNIL8:=hid hnil8
     have hlp:ps.length+pd.length≤1000000000000:=by omega
     have HLP:=hid hlp
     have HKR:Hid (KonAt wr):=hid (fun t ht=>by
      have h1:=HK.o t ht
      have h2:w.heap.size=N:=HN.o
      have hlt: 2 <w.heap.size:=World.block_lt_of_cell? w _ h1
      exact ((HBE2.o.cell (p:=⟨2,t,none⟩) (by show 2 <N+1;omega)).trans (HBV.o.cell (p:=⟨2,t,none⟩) (by show 2 <N;omega))).trans h1)
     have HNK:Hid (N≠ 2):=hid (by
      have hlt: 2 <w.heap.size:=World.block_lt_of_cell? w _ (HK.o 0 (by decide))
      have h2:w.heap.size=N:=HN.o
      omega)
     have HVR:Hid (StateAt wr N 0 ps):=hid (HV.o.keep (Chg.of_below' (M:=fun g _=>N+1≤g) HBE2.o (fun k i h _=>h)) (fun i _ _ h=>by omega))
     clear hpd hpdd hpp hpb hpl hcap8 hcm8 hB8 hnil8 hblk hlp HZ HPC HMOD HLV
     have hmk: ∀W,(Instr.makeSlice 52 (.int .i64 0) (.int .i64 32)).run Tryz.prog W= .ok (.slice (some ⟨W.heap.size,0,none⟩) 0 32) (W.alloc (.cells (Array.replicate 32 (.int .u8 0)) 5)):=fun _=>by kernel_rfl
     obtain ⟨S,hS⟩:=ex_eq (Sha.hs (Sha.pad ps) (Sha.pad ps).length)
     have HS:=hid hS
     clear hS
     obtain ⟨RW,hRW⟩:=ex_eq (wordsL S).toArray
     have HRW:=hid hRW
     clear hRW
     go_upto_region 11 with (first
      | (with_reducible refine (write_any N 0 ps a8 cp8 pd HCAP8.o HNIL8.o HLP.o wr HVR.o HB8.o (fun ad e _=>by have:=HBLK.o ad e;omega) HKR.o HNK.o).mono ?_
         rintro e w5 ⟨rfl,h5,h6⟩
         have H5:=hid h5
         have H6:=hid h6
         clear h5 h6))
     have HB5:Hid (Below N w w5):=hid ((HBV.o.trans (HBE2.o.mono (Nat.le_succ N))).trans (H6.o.below (by have:=HN.o;omega) (fun k i hk h=>by have:=h.1;omega)))
     have hw5s:N+1≤w5.heap.size:=by have:=H6.o.size;omega
     have HW8:Hid (WordsAt w5 N 0 S):=hid (by have h:=H5.o.words;rw [HPP.o,HS.o] at h;exact h)
     have H12:Hid (∀W,Below (N+1) w5 W→ ∀j u,(wordsL S)[j]? =some u→W.cell? ⟨N,0+j,none⟩=some u):=hid (fun W hW j u hj=>by
      have hj8:j<8:=(List.getElem?_eq_some_iff.1 hj).1
      rw [wordsL_get S j hj8] at hj
      cases hj
      exact (hW.cell (p:=⟨N,0+j,none⟩) (Nat.lt_succ_self N)).trans (HW8.o j hj8))
     go_upto_region 12 with fail
     go_upto_region 13 with (first
      | (with_reducible refine wpList_load_cells rfl 305 (.tmp 46) rfl N 0 rfl (wordsL S) (H12.o _ ((Below.refl _ _).alloc hw5s _)) _ Tryz.underlying305 rfl rfl RW HRW.o ?_))
     have HIX:Hid (∀k,k<8→ ∀W,(Instr.index 305 (.agg RW) (.int .i64 ((k:Nat):Int))).run Tryz.prog W= .ok (.int .u32 (v (S.list.getD k 0))) W):=hid (fun k hk W=>by rw [← HRW.o];exact run_idx8 S k hk W)
     have HOW7:Hid ((w5.alloc (.cells (Array.replicate 32 (.int .u8 0)) 5)).ownsRow (N+1) 5 1 (.slice (some ⟨w5.heap.size,0,none⟩) 0 32) (4*0) (bvals ((Sha.digest S).take (4*0)))):=
      ⟨rfl,.inr ⟨w5.heap.size,32,Array.replicate 32 (.int .u8 0),rfl,hw5s,heap_alloc_new _ _,by decide,by unfold maxLen;omega,rfl,rfl⟩⟩
     have HBA:Hid (Below (N+1) w5 (w5.alloc (.cells (Array.replicate 32 (.int .u8 0)) 5))):=(Below.refl _ _).alloc hw5s _
     obtain ⟨W6,hW6⟩:=ex_eq (w5.alloc (.cells (Array.replicate 32 (.int .u8 0)) 5))
     rw [hW6] at HOW7 HBA ⊢
     have hw6s:N+1≤W6.heap.size:=by have:=HBA.o.size;omega
     clear hW6 hmk
     go_loopw [7,48] (fun x y W2=> ∃k:Nat,k≤8∧y= .int .i64 (k:Int)∧Hid (W2.ownsRow (N+1) 5 1 x (4*k) (bvals ((Sha.digest S).take (4*k))))∧Hid (Below (N+1) W6 W2)∧N+1≤W2.heap.size) (fun _ y _=>8 - (intOf y).toNat)
     case atStart=>exact ⟨0,by omega,rfl,HOW7.o,(Below.refl _ _),hw6s⟩
     case round=>
      obtain ⟨k8,hk8,rfl,HOW,HBE6,hsz6⟩:=hrel
      by_cases hk9:k8<8
      ·have hidx:=HIX.o k8 hk9
       have hdt:=digest_take S k8 hk9
       obtain ⟨X,hX⟩:=ex_eq (S.list.getD k8 0)
       rw [hX] at hidx hdt
       have HB4:Hid (bvals ((Sha.digest S).take (4*k8))++[.int .u8 (v X/16777216 % 256),.int .u8 (v X/65536 % 256),.int .u8 (v X/256 % 256),.int .u8 (v X % 256)]=bvals ((Sha.digest S).take (4*(k8+1)))):=hid (by
        rw [hdt,bvals_append];rfl)
       clear hdt hX
       obtain ⟨M7,hM7⟩:=ex_eq (4*k8)
       have HM7:=hid hM7
       rw [hM7] at HOW HB4
       have hM7b:M7≤32:=by omega
       clear hM7
       go_upto_region 15 with fail
       go_wp2_with (first
        | (at_builtin
           refine wpList_append_own _ rfl _ _ 52 rfl (N+1) 5 i0 (.int .u8 0) 1 1 Tryz.underlying52 FI.o FZ0.o FZ1.o FZ2.o rfl (by decide) _ _ _ rfl (HOW.o.alloc _) ⟨wr.heap.size,0,none⟩ 4 4 [.int .u8 (v X/16777216 % 256),.int .u8 (v X/65536 % 256),.int .u8 (v X/256 % 256),.int .u8 (v X % 256)] rfl rfl (by intro j u hu;rw [add_none];exact cells_new_at _ _ _ j u hu) (by simp [Value.oneCell']) (by unfold maxLen;omega) (by omega) (by simp;omega) ?_
           intro v' w4 hown4 hgr4 _
           have HO4:Hid (w4.ownsRow (N+1) 5 1 v' (M7+4) (bvals ((Sha.digest S).take (4*(k8+1))))):=by rw [← HB4.o];exact hown4
           have HC4:Hid (Chg (fun q _=>N+1≤q) wr w4):=(Chg.alloc1 wr _).trans (Chg.of_grown hgr4 (fun q _ e=>(HOW.o.lt q e).1))
           clear hown4 hgr4))
       go_roundw
       case rel=>exact ⟨k8+1,by omega,rfl,by have h:=HO4.o;rw [← HM7.o] at h;exact h,HBE6.o.trans (HC4.o.below hsz6 (fun q i hq h=>by omega)),by have:=HC4.o.size;omega⟩
       case measure=>simp [intOf];omega
      ·have e8:k8=8:=by omega
       subst e8
       rw [show (Sha.digest S).take (4*8)=Sha.digest S from List.take_of_length_le (by rw [Sha.digest_length];exact Nat.le_refl _)] at HOW
       have hD0:Sha.digest S=Sha.sum ps:=by unfold Sha.sum;rw [HS.o]
       have hDb: ∀x ∈ Sha.sum ps,x<256:=Sha.sum_lt ps
       have hDl:(Sha.sum ps).length=32:=Sha.sum_length ps
       rw [hD0] at HOW
       obtain ⟨D,hD⟩:=ex_eq (Sha.sum ps)
       rw [hD] at HOW hDb hDl
       have HD:=hid hD
       clear hD hD0
       obtain ⟨hn9,a9,cp9,hv9,hcap9,hcm9,hB9,hnil9⟩:=bytes_of_own HOW.o hDb (by unfold maxLen;omega)
       subst hv9
       have hcv:=conv_bytes hB9 cp9
       rw [hDl] at hcv ⊢
       clear hn9 hcap9 hcm9 hnil9
       have HBF:Hid (Below N w wr):=hid (((HB5.o.trans (HBA.o.mono (Nat.le_succ N)))).trans (HBE6.o.mono (Nat.le_succ N)))
       go_wp2_with fail
       go_ret
       exact ⟨D,rfl,HD.o.symm,by rw [HN.o];exact HBF.o⟩
theorem KonAt.later {w w':World} (h:KonAt w) (hb:Below w.heap.size w w'):KonAt w':=fun t ht=>(hb.cell (p:=⟨2,t,none⟩) (World.block_lt_of_cell? w _ (h t ht))).trans (h t ht)
theorem KonAt.lt {w:World} (h:KonAt w): 2 <w.heap.size:=World.block_lt_of_cell? w _ (h 0 (by decide))

theorem sum_any (a:Option Addr) (cap:Nat) (xs:List Nat) (hcap:xs.length≤cap) (hnil:a=none→cap=0) (hl:xs.length≤100000000000) (w:World) (hB:BytesAt w a xs) (hlt: ∀ad,a=some ad→0<xs.length→ad.block<w.heap.size) (hK:KonAt w) (hI:InitAt w):
    Calls Tryz.prog 157 #[.slice a xs.length cap] w fun e w'=> ∃bs:List Nat,e= .returned (.string (strB bs))∧bs=Sha.sum xs∧Below w.heap.size w w':=by
 have HB:=hid hB
 have HK:=hid hK
 have HI:=hid hI
 have HNIL:=hid hnil
 have HCAP:=hid hcap
 have HLT:=hid hlt
 have HL:=hid hl
 clear hB hK hI hnil hcap hlt hl
 go_enter Tryz.func157,Tryz.ntmps157
 go_upto_region 2 with (first
  | (with_reducible refine (newState_any _ HI.o).mono ?_
     rintro e w1 ⟨rfl,h1⟩
     have H1:=hid h1
     clear h1))
 obtain ⟨N,hN⟩:=ex_eq w.heap.size
 have HS1:Hid (StateAt w1 N 0 []):=hid (by rw [H1.o,← hN];exact state_new (heap_alloc_new _ _))
 have HB1:Hid (Below N w w1):=hid (by rw [H1.o,← hN];exact (Below.refl _ _).alloc (Nat.le_refl _) _)
 have HK1:Hid (KonAt w1):=hid (HK.o.later (by rw [hN];exact HB1.o))
 have HBB:Hid (BytesAt w1 a xs):=hid (HB.o.later (by rw [hN];exact HB1.o))
 have HAB:Hid (∀ad,a=some ad→0<xs.length→ad.block≠N):=hid (fun ad e h0=>by have:=HLT.o ad e h0;omega)
 have HNK:Hid (N≠ 2):=hid (by have:=HK.o.lt;omega)
 rw [hN]
 have HN:=hid hN
 clear hN
 go_upto_region 3 with (first
  | (with_reducible refine (write_any N 0 [] a cap xs HCAP.o HNIL.o (by have:=HL.o;simp;omega) _ HS1.o HBB.o HAB.o HK1.o HNK.o).mono ?_
     rintro e w2 ⟨rfl,h2,h3⟩
     have H2:=hid h2
     have H3:=hid h3
     clear h2 h3))
 have HK2:Hid (KonAt w2):=hid (fun t ht=>H3.o.cell (HK1.o t ht) (fun hm=>HNK.o hm.1.symm))
 have HB2:Hid (Below N w w2):=hid (HB1.o.trans (H3.o.below (by have:=HS1.o.lt;omega) (fun k i hk h=>by have:=h.1;omega)))
 go_wp2_with (first
  | (with_reducible refine (stateSum_any N 0 xs HL.o _ H2.o HK2.o).mono ?_
     rintro e w3 ⟨bs,rfl,h4,h5⟩
     have H4:=hid h4
     have H5:=hid h5
     clear h4 h5))
 go_ret
 exact ⟨bs,rfl,H4.o,by rw [HN.o];exact HB2.o.trans (H5.o.mono (by have:=H2.o.lt;omega))⟩
end Go.Proofs.YtndlihclgdkpaaaGreatDoor
namespace Go.Proofs.YtndlihclgdkpaaaGreatDoor
open Go.RowKit
open Kit (Chg)

def nb (s:ByteArray):List Nat:=s.data.toList.map UInt8.toNat
theorem nb_length (s:ByteArray):(nb s).length=s.size:=by unfold nb;rw [List.length_map,Array.length_toList];rfl
theorem nb_lt (s:ByteArray): ∀x ∈ nb s,x<256:=by
 intro x hx
 obtain ⟨u,_,rfl⟩:=List.mem_map.1 hx
 exact u.toNat_lt
theorem bytesWorld_bytes (w:World) (s:ByteArray) (h:s.size≤maxLen):BytesAt (Go.Lib.bytesWorld w 5 s) (some ⟨w.heap.size,0,none⟩) (nb s):=by
 refine ⟨.inr ⟨w.heap.size,0,rfl,fun i hi=> ?_⟩,nb_lt s,by rw [nb_length];exact h⟩
 rw [nb_length] at hi
 rw [Nat.zero_add,Go.Lib.bytesWorld_cell w 5 s i hi]
 have h2:i<s.data.toList.length:=by rw [Array.length_toList];exact hi
 have h3:i<s.data.size:=hi
 simp only [nb,lD,List.getElem?_map,Array.getElem?_toList,Array.getElem?_eq_getElem h3]
 rfl
theorem bytesWorld_below (w:World) (s:ByteArray):Below w.heap.size w (Go.Lib.bytesWorld w 5 s):=by
 refine ⟨?_,?_,?_,?_,fun k hk=>Go.Lib.bytesWorld_at_old w 5 s k hk⟩
 ·unfold Go.Lib.bytesWorld World.freeze;split<;> rfl
 ·unfold Go.Lib.bytesWorld World.freeze;split<;> rfl
 ·unfold Go.Lib.bytesWorld World.freeze;split<;> rfl
 ·rw [Go.Lib.bytesWorld_size];exact Nat.le_succ _
end Go.Proofs.YtndlihclgdkpaaaGreatDoor
namespace Go.Proofs.YtndlihclgdkpaaaGreatDoor
open Go.RowKit
open Kit (Chg)
open Sha (v)

def StrsAt (w:World) (a:Option Addr) (ss:List ByteArray):Prop:=
 ss=[]∨ ∃b o,a=some ⟨b,o,none⟩∧ ∀i,i<ss.length→w.cell? ⟨b,o+i,none⟩=some (.string (ss.getD i ByteArray.empty))
theorem StrsAt.later {w w':World} {a:Option Addr} {ss:List ByteArray} (h:StrsAt w a ss) (hb:Below w.heap.size w w'):StrsAt w' a ss:=by
 rcases h with h | ⟨b,o,e,h⟩
 ·exact .inl h
 ·exact .inr ⟨b,o,e,fun i hi=>(hb.cell (p:=⟨b,o+i,none⟩) (World.block_lt_of_cell? w _ (h i hi))).trans (h i hi)⟩
def catB (ss:List ByteArray):List Nat:=ss.flatMap nb
theorem catB_take (ss:List ByteArray) (k:Nat) (h:k<ss.length):catB (ss.take (k+1))=catB (ss.take k)++nb (ss.getD k ByteArray.empty):=by
 rw [List.take_add_one,lE h,lD,lE h]
 unfold catB
 rw [List.flatMap_append]
 simp
theorem conv_str (W:World) (s:ByteArray):(convert 9 52 (.string s)).run Tryz.prog W= .ok (.slice (some ⟨W.heap.size,0,none⟩) s.size (grownCap W s.size 0 5)) (Go.Lib.bytesWorld W 5 s):=
 Go.Lib.run_convert_string_bytes W 9 52 5 s Tryz.underlying9 Tryz.underlying52 Tryz.underlying5
theorem StrsAt.keep {w w':World} {a:Option Addr} {ss:List ByteArray} {M:Nat→Nat→Prop} (h:StrsAt w a ss) (hc:Chg M w w') (hM: ∀ad,a=some ad→0<ss.length→ ∀i,¬M ad.block i):StrsAt w' a ss:=by
 rcases h with h | ⟨b,o,e,h⟩
 ·exact .inl h
 ·exact .inr ⟨b,o,e,fun i hi=>hc.cell (h i hi) (hM _ e (by omega) _)⟩
theorem join_any (a:Option Addr) (cap:Nat) (ss:List ByteArray) (hl:(catB ss).length≤100000000000) (hn:ss.length≤1000000000) (w:World) (hS:StrsAt w a ss) (hK:KonAt w) (hI:InitAt w):
    Calls Tryz.prog 244 #[.slice a ss.length cap] w fun e w'=> ∃bs:List Nat,e= .returned (.string (strB bs))∧bs=Sha.sum (catB ss)∧Below w.heap.size w w':=by
 have HSS:=hid hS
 have HK:=hid hK
 have HI:=hid hI
 have HL:=hid hl
 have HCV:=hid conv_str
 clear hS hK hI hl
 go_enter Tryz.func244,Tryz.ntmps244
 go_upto_region 2 with (first
  | (with_reducible refine (newState_any _ HI.o).mono ?_
     rintro e w1 ⟨rfl,h1⟩
     have H1:=hid h1
     clear h1))
 obtain ⟨N,hN⟩:=ex_eq w.heap.size
 have HS1:Hid (StateAt w1 N 0 []):=hid (by rw [H1.o,← hN];exact state_new (heap_alloc_new _ _))
 have HB1:Hid (Below N w w1):=hid (by rw [H1.o,← hN];exact (Below.refl _ _).alloc (Nat.le_refl _) _)
 have HNK:Hid (N≠ 2):=hid (by have:=HK.o.lt;omega)
 rw [hN]
 have HN:=hid hN
 clear hN
 have hsz1:N+1≤w1.heap.size:=by have:=HS1.o.lt;omega
 go_wp2_with fail
 go_loopw [9] (fun x wr=> ∃k:Nat,k≤ss.length∧x= .int .i64 (k:Int)∧Hid (StateAt wr N 0 (catB (ss.take k)))∧Hid (Below N w wr)∧N+1≤wr.heap.size) (fun x _=>ss.length - (intOf x).toNat)
 case atStart=>exact ⟨0,Nat.zero_le _,rfl,HS1.o,HB1.o,hsz1⟩
 case round=>
  obtain ⟨k,hk,rfl,HST,HBE,hsz⟩:=hrel
  by_cases hlt:k<ss.length
  ·obtain ⟨b,o,rfl,hcs⟩: ∃b o,a=some ⟨b,o,none⟩∧ ∀i,i<ss.length→wr.cell? ⟨b,o+i,none⟩=some (.string (ss.getD i ByteArray.empty)):=by
      rcases HSS.o.later (by rw [HN.o];exact HBE.o) with h | h
      ·subst h;simp at hlt
      ·exact h
   have hck:=hcs k hlt
   clear hcs
   have hct:=catB_take ss k hlt
   obtain ⟨s,hs⟩:=ex_eq (ss.getD k ByteArray.empty)
   rw [hs] at hck hct
   have HCT:=hid hct
   clear hct hs
   go_upto_region 5 with fail
   have hcat:(catB (ss.take (k+1))).length≤(catB ss).length:=by
    have e:catB ss=catB (ss.take (k+1))++catB (ss.drop (k+1)):=by
     unfold catB;rw [← List.flatMap_append,List.take_append_drop]
    rw [e,List.length_append];omega
   have hsl:(catB (ss.take k)).length+(nb s).length≤100000000000:=by
    have h1:=HL.o
    rw [HCT.o,List.length_append] at hcat
    omega
   have HSL:=hid hsl
   have hsm:s.size≤maxLen:=by have:=nb_length s;unfold maxLen;omega
   have hcv:=HCV.o wr s
   have HBY:=hid (bytesWorld_bytes wr s hsm)
   have HBW:=hid (bytesWorld_below wr s)
   obtain ⟨cp,hcp⟩:=ex_eq (grownCap wr s.size 0 5)
   obtain ⟨W2,hW2⟩:=ex_eq (Go.Lib.bytesWorld wr 5 s)
   have HCPL:Hid ((nb s).length≤cp):=hid (by rw [nb_length,← hcp];exact grownCap_ge _ _ _ _)
   rw [hcp,hW2,← nb_length] at hcv
   rw [hW2] at HBY HBW
   clear hcat hsl hsm hcp hW2
   have HST2:Hid (StateAt W2 N 0 (catB (ss.take k))):=hid (HST.o.later HBW.o)
   have HK2:Hid (KonAt W2):=hid ((HK.o.later (by rw [HN.o];exact HBE.o)).later HBW.o)
   go_wp2_with (first
    | (with_reducible refine (write_any N 0 (catB (ss.take k)) (some ⟨wr.heap.size,0,none⟩) cp (nb s) HCPL.o (fun e=>by cases e) (by have:=HSL.o;omega) _ HST2.o HBY.o (fun ad e _=>by cases e;show wr.heap.size≠N;omega) HK2.o HNK.o).mono ?_
       rintro e w3 ⟨rfl,h2,h3⟩
       have H2:=hid h2
       have H3:=hid h3
       clear h2 h3))
   go_roundw
   case rel=>exact ⟨k+1,by omega,rfl,by rw [HCT.o];exact H2.o,HBE.o.trans ((HBW.o.mono (by omega)).trans (H3.o.below (by have:=HBW.o.size;omega) (fun k i hk h=>by have:=h.1;omega))),by have h4:=HBW.o.size;have h5:=H3.o.size;omega⟩
   case measure=>simp [intOf];omega
  ·have e:k=ss.length:=by omega
   subst e
   have HST2:Hid (StateAt wr N 0 (catB ss)):=hid (by have h:=HST.o;rw [List.take_length] at h;exact h)
   have HK2:Hid (KonAt wr):=hid (HK.o.later (by rw [HN.o];exact HBE.o))
   go_wp2_with (first
    | (with_reducible refine (stateSum_any N 0 (catB ss) HL.o _ HST2.o HK2.o).mono ?_
       rintro e w3 ⟨bs,rfl,h4,h5⟩
       have H4:=hid h4
       have H5:=hid h5
       clear h4 h5))
   go_ret
   exact ⟨bs,rfl,H4.o,by rw [HN.o];exact HBE.o.trans (H5.o.mono (by omega))⟩
def xorL (ks:List Nat) (c:Nat):List Nat:=ks.map (· ^^^ c)
theorem xorL_length (ks:List Nat) (c:Nat):(xorL ks c).length=ks.length:=by simp [xorL]
theorem xor_lt {x c:Nat} (hx:x<256) (hc:c<256):x ^^^ c<256:=Nat.xor_lt_two_pow (n:=8) hx hc
theorem xorL_lt (ks:List Nat) (c:Nat) (hk: ∀x ∈ ks,x<256) (hc:c<256): ∀x ∈ xorL ks c,x<256:=by
 intro x hx
 obtain ⟨y,hy,rfl⟩:=List.mem_map.1 hx
 exact xor_lt (hk y hy) hc
theorem ofInt8 (x:Nat) (hx:x<256):(BitVec.ofInt 8 (x:Int)).toNat=x:=by
 rw [BitVec.toNat_ofInt];omega
theorem bits_xor8 (x c:Nat) (hx:x<256) (hc:c<256):bits .xor .u8 (x:Int) (c:Int)=((x ^^^ c:Nat):Int):=by
 show IntKind.u8.wrap ((BitVec.ofInt 8 (x:Int) ^^^ BitVec.ofInt 8 (c:Int)).toNat:Int)=_
 rw [BitVec.toNat_xor,ofInt8 x hx,ofInt8 c hc]
 have:=xor_lt hx hc
 rw [IntKind.wrap_u8];omega
def padRow (ks:List Nat) (c k:Nat):List Nat:=(xorL ks c).take k++List.replicate (64 - k) 0
theorem padRow_length (ks:List Nat) (c k:Nat) (h:ks.length=64) (hk:k≤64):(padRow ks c k).length=64:=by
 simp [padRow,xorL_length,h];omega
theorem padRow_set (ks:List Nat) (c k:Nat) (h:ks.length=64) (hk:k<64):(padRow ks c k).set k (ks.getD k 0 ^^^ c)=padRow ks c (k+1):=by
 have hx:k<(xorL ks c).length:=by rw [xorL_length,h];exact hk
 have e:(xorL ks c)[k]=ks.getD k 0 ^^^ c:=by
  have:k<ks.length:=by omega
  simp [xorL,lD,this]
 unfold padRow
 rw [List.set_append_right _ _ (by rw [List.length_take];omega),List.length_take,Nat.min_eq_left (by omega),Nat.sub_self,show 64 - k=(64 - (k+1))+1 by omega,List.replicate_succ,List.set_cons_zero,
  List.take_add_one,lE hx,e]
 simp
theorem run_idxB (ks:List Nat) (k:Nat) (hk:k<ks.length) (hl:ks.length=64) (W:World):(Instr.index 306 (.agg (bvals ks).toArray) (.int .i64 (k:Int))).run Tryz.prog W= .ok (.int .u8 ((ks.getD k 0:Nat):Int)) W:=by
 have hu: Tryz.prog.underlying 306 =some (.array 64 5):= Tryz.underlying306
 have hk2:(0:Int)≤(k:Int)∧(k:Int)<(64:Nat):=by omega
 have hs: Tryz.prog.info? 5 = Tryz.prog.info? 5:=rfl
 simp [Instr.index,run_underlying hu,asIntOf,hk2,go_sem]
 rw [if_pos (by omega)]
 simp [bvals,hk,go_sem]
theorem bvals_arr_size (ks:List Nat) (h:ks.length=64):(bvals ks).toArray.size=64:=by rw [List.size_toArray,bvals_length];exact h
theorem Tryz.size140:(Tryz.prog.info? 306).map (·.size)=some 64:=by kernel_rfl

theorem padc_any (kb:Nat) (ks:List Nat) (c:Nat) (hk:ks.length=64) (hb: ∀x ∈ ks,x<256) (hc:c<256) (w:World) (hK:w.heap[kb]? =some (.cells (bvals ks).toArray 306 (0,0))):
    Calls Tryz.prog 285 #[.int .u8 (c:Int),.pointer (some ⟨kb,0,none⟩)] w fun e w'=>e= .returned (.agg (bvals (xorL ks c)).toArray)∧Below w.heap.size w w':=by
 have HK:=hid hK
 have HB:=hid hb
 obtain ⟨R,hR⟩:=ex_eq (bvals ks).toArray
 have HIX:Hid (∀k,k<64→ ∀W,(Instr.index 306 (.agg R) (.int .i64 ((k:Nat):Int))).run Tryz.prog W= .ok (.int .u8 ((ks.getD k 0:Nat):Int)) W):=hid (fun k h W=>by rw [← hR];exact run_idxB ks k (by omega) hk W)
 have HRS:Hid (R.size=64):=hid (by rw [← hR];exact bvals_arr_size ks hk)
 rw [hR] at hK HK
 clear hK hb hR
 go_enter Tryz.func285,Tryz.ntmps285
 go_upto_region 2 with (first
  | (with_reducible refine wpList_load_row rfl 306 (.tmp 1) rfl kb rfl 306 R (0,0) _ (by first | exact HK.o | exact (Below.heap_alloc w _ kb (by have:=(gS HK.o).1;omega)).trans HK.o) Tryz.underlying306 rfl (by rw [HRS.o];exact Tryz.size140) ?_))
 refine wp_over (fun W=>Hid (W.heap[w.heap.size]? =some (.cells (bvals (padRow ks c 0)).toArray 306 (0,0)))∧Hid (Below w.heap.size w W)) ⟨?_,?_⟩ ?_
 ·exact heap_alloc_new _ _
 ·exact (Below.refl _ _).alloc (Nat.le_refl _) _
 rintro V ⟨HV,HBV⟩
 obtain ⟨N,hN⟩:=ex_eq w.heap.size
 rw [hN] at HV HBV ⊢
 go_loopw [7] (fun x wr=> ∃k:Nat,k≤64∧x= .int .i64 (k:Int)∧Hid (wr.heap[N]? =some (.cells (bvals (padRow ks c k)).toArray 306 (0,0)))∧Hid (Below N w wr)) (fun x _=>64 - (intOf x).toNat)
 case atStart=>exact ⟨0,by omega,rfl,HV.o,HBV.o⟩
 case round=>
  obtain ⟨k,hk64,rfl,HROW,HBE⟩:=hrel
  by_cases hlt:k<64
  ·have hidx:=HIX.o k hlt
   have hx:=bits_xor8 (ks.getD k 0) c (by
    rw [lD,lE (by omega)];exact HB.o _ (List.getElem_mem _)) hc
   obtain ⟨x,hxx⟩:=ex_eq (ks.getD k 0)
   rw [hxx] at hidx hx
   have hfz:wr.frozen? ⟨N,k,none⟩=false:=frozen_of_row _ _ _ _ _ HROW.o
   have hcl:wr.cell? ⟨N,k,none⟩=some (.int .u8 (((padRow ks c k).getD k 0:Nat):Int)):=by
    rw [cell_of_row _ _ _ _ _ _ HROW.o]
    have:=padRow_length ks c k hk hk64
    simp [bvals,this,hlt]
   have HXX:=hid hxx
   clear hxx
   go_wp2_with fail
   go_roundw
   case rel=>
    refine ⟨k+1,by omega,by go_num,?_,HBE.o.setCell (p:=⟨N,k,none⟩) (Nat.le_refl _) _⟩
    show _=_
    rw [heap_setCell_same _ _ _ _ _ _ HROW.o,← padRow_set ks c k hk hlt,HXX.o]
    simp [bvals]
   case measure=>simp [intOf];omega
  ·have e:k=64:=by omega
   subst e
   have hps:(bvals (padRow ks c 64)).toArray.size=64:=bvals_arr_size _ (padRow_length ks c 64 hk (by omega))
   have hpe:padRow ks c 64=xorL ks c:=by
    unfold padRow
    rw [List.take_of_length_le (by rw [xorL_length];omega)];simp
   have hone:(bvals (padRow ks c 64)).toArray.all (·.oneCell')=true:=all_one (bvals_one _)
   rw [hpe] at hps hone HROW
   obtain ⟨R2,hR2⟩:=ex_eq (bvals (xorL ks c)).toArray
   rw [hR2] at hps hone HROW
   have HPS:=hid hps
   have HONE:=hid hone
   have HR2:=hid hR2
   clear hps hone hpe hR2
   go_wp2_with (first
    | (with_reducible refine wpList_load_row rfl 306 (.tmp 3) rfl N rfl 306 R2 (0,0) _ HROW.o Tryz.underlying306 rfl (by rw [HPS.o];exact Tryz.size140) ?_)
    | (with_reducible refine wpList_store_row rfl 306 (.tmp 3) (.tmp 17) rfl N R2 rfl rfl 306 R2 HROW.o (by rw [HPS.o];exact Tryz.size140) rfl HONE.o ?_))
   simp only [Act.put]
   refine bodyPost_ret (results_cell_row (p:=3) rfl _ _ N 306 R2 (0,0) _ (by rfl) (setRow_heap wr N _ R2 306 (0,0) HROW.o) Tryz.underlying306 rfl (by rw [HPS.o];exact Tryz.size140)) rfl ⟨by rw [HR2.o],?_⟩
   rw [hN]
   exact below_setRow HBE.o (Nat.le_refl _) _
end Go.Proofs.YtndlihclgdkpaaaGreatDoor
