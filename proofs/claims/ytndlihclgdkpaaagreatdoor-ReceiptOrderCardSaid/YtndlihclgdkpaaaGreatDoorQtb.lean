/- Two books side by side. -/
import Derived.Test.YtndlihclgdkpaaaGreatDoorGn
import Derived.Test.YtndlihclgdkpaaaGreatDoorQan
set_option linter.unusedVariables false
set_option linter.unusedSimpArgs false
open Go.Lib (hid)
namespace Go.Proofs.YtndlihclgdkpaaaGreatDoor
open Go.RowKit
open Kit (Chg)
open Sha (v)
open Go.Proofs.YtndlihclgdkpaaaGreatDoor.One

def TwoB (w V:World) (ba bb:Nat) (mA:List Rc) (cA:Nat) (mB:List Rc) (cB:Nat):Prop:= ∃OA OB:Nat→Prop,BookAt V OA ba mA cA∧BookAt V OB bb mB cB∧(∀q,OA q→w.heap.size≤q)∧(∀q,OB q→w.heap.size≤q)∧(∀q,OA q→ ¬OB q)∧Below w.heap.size w V
theorem TwoB.below {w V:World} {ba bb:Nat} {mA:List Rc} {cA:Nat} {mB:List Rc} {cB:Nat} (h:TwoB w V ba bb mA cA mB cB):Below w.heap.size w V:=by
 obtain ⟨_,_,_,_,_,_,_,h⟩:=h
 exact h
theorem TwoB.later {w V V':World} {ba bb:Nat} {mA:List Rc} {cA:Nat} {mB:List Rc} {cB:Nat} (h:TwoB w V ba bb mA cA mB cB) (hb:Below V.heap.size V V'):TwoB w V' ba bb mA cA mB cB:=by
 obtain ⟨OA,OB,hA,hB,nA,nB,dj,h⟩:=h
 exact ⟨OA,OB,hA.later hb,hB.later hb,nA,nB,dj,h.trans (hb.mono h.size)⟩
theorem TwoB.monoB {w V:World} {ba bb:Nat} {mA:List Rc} {cA:Nat} {mB:List Rc} {cB:Nat} (h:TwoB w V ba bb mA cA mB cB):TwoB w V ba bb mA cA mB (cB+1):=by
 obtain ⟨OA,OB,hA,hB,r⟩:=h
 exact ⟨OA,OB,hA,hB.mono (Nat.le_succ _),r⟩
theorem TwoB.swap {w V:World} {ba bb:Nat} {mA:List Rc} {cA:Nat} {mB:List Rc} {cB:Nat} (h:TwoB w V ba bb mA cA mB cB):TwoB w V bb ba mB cB mA cA:=by
 obtain ⟨OA,OB,hA,hB,nA,nB,dj,h⟩:=h
 exact ⟨OB,OA,hB,hA,nB,nA,fun q h1 h2=>dj q h2 h1,h⟩
set_option maxRecDepth 100000 in
set_option maxHeartbeats 4000000 in
theorem TwoB.add {w V:World} {ba bb:Nat} {mA:List Rc} {cA:Nat} {mB:List Rc} {cB:Nat} (h:TwoB w V ba bb mA cA mB cB) (hcA:cA≤100000) (hol vlt:Int) (str:ByteArray) (ix sz day ser cnt pl:Int) (root:ByteArray) (ap:Option Addr) (n1 c1:Nat) (si:Int) (aq:Option Addr) (n2 c2:Nat) (ar:Option Addr) (n3 c3:Nat) (pa pt sq:List ByteArray) (h1:pa.length=n1) (k1:n1<9223372036854775808) (s1:StrsAt V ap pa) (h2:pt.length=n2) (k2:n2<9223372036854775808) (s2:StrsAt V aq pt) (h3:sq.length=n3) (k3:n3<9223372036854775808) (s3:StrsAt V ar sq):Calls Tryz.prog 42 #[.pointer (some ⟨ba,0,none⟩),.agg #[.int .i64 hol,.int .i64 vlt,.string str,.int .i64 ix,.int .i64 sz,.int .i64 day,.int .i64 ser,.int .i64 cnt,.int .i64 pl,.string root,.slice ap n1 c1,.int .i64 si,.slice aq n2 c2,.slice ar n3 c3]] V fun e w'=>e= .returned (.int .i64 (addP mA ⟨hol,vlt,str,ix,sz,day,ser,cnt,pl,root,pa,si,pt,sq⟩).2)∧TwoB w w' ba bb (addP mA ⟨hol,vlt,str,ix,sz,day,ser,cnt,pl,root,pa,si,pt,sq⟩).1 (cA+1) mB cB:=by
 obtain ⟨OA,OB,hA,hB,nA,nB,dj,hb⟩:=h
 refine (add_any OA ba mA cA hcA hol vlt str ix sz day ser cnt pl root ap n1 c1 si aq n2 c2 ar n3 c3 pa pt sq V h1 k1 s1 h2 k2 s2 h3 k3 s3 hA).mono ?_
 rintro e w' ⟨he,⟨OA',hA',ho,_⟩,hch⟩
 have hlt:=hB.lt
 have hsz:=hb.size
 refine ⟨he,OA',OB,hA',hB.keep hch (fun q hq i h=>dj q h hq),fun q hq=> ?_,nB,fun q hq hq2=> ?_,hb.trans (hch.below hsz (fun k i hk h=> ?_))⟩
 ·rcases ho q hq with h | h
  ·exact nA q h
  ·omega
 ·rcases ho q hq with h | h
  ·exact dj q h hq2
  ·have:=hlt q hq2
   omega
 ·have:=nA k h
  omega
theorem TwoB.of {w V:World} {ba bb:Nat} {mA:List Rc} {cA:Nat} {mB:List Rc} {cB:Nat} (h:TwoB w V ba bb mA cA mB cB) (hcA:cA≤100000) (s:ByteArray) (i:Int) (hs:s.size≤maxLen) (hi:(Lit.int .i64 i).wf=true):Calls Tryz.prog 47 #[.pointer (some ⟨ba,0,none⟩),.agg #[.string s,.int .i64 i]] V fun e w'=> ∃v,e= .returned v∧ ∃n ys,OwnRc w' V.heap.size v n ys∧ys.map RcV.r=ofB mA ⟨s,i⟩∧TwoB w w' ba bb mA cA mB cB∧Below V.heap.size V w':=by
 have h0:=h
 obtain ⟨OA,OB,hA,_⟩:=h
 refine (of_any OA ba mA cA hcA s i hs hi V hA).mono ?_
 rintro e w' ⟨v,he,n,ys,h1,h2,h3⟩
 exact ⟨v,he,n,ys,h1,h2,h0.later h3,h3⟩
end Go.Proofs.YtndlihclgdkpaaaGreatDoor
