/- Plain words: what a head covers, what a fork proves. -/
import Derived.Test.YtndlihclgdkpaaaGreatDoorGsm
set_option linter.unusedVariables false
set_option linter.unusedSimpArgs false
open Go.Lib (hid)
namespace Go.Proofs.YtndlihclgdkpaaaGreatDoor
open Go.Proofs.YtndlihclgdkpaaaGreatDoor.One

def agreeE (a b:List Ent):Bool:=(a.zip b).all fun p=>sameE p.1 p.2
theorem agreeE_bad {a b:List Ent} (k:Nat) (h1:k<a.length) (h2:k<b.length) (h:sameE a[k] b[k]=false):agreeE a b=false:=by
 unfold agreeE
 rw [List.all_eq_false]
 refine ⟨(a[k],b[k]),?_,by simpa using h⟩
 have hz:k<(a.zip b).length:=by rw [List.length_zip];omega
 have:=List.getElem_mem hz
 rwa [List.getElem_zip] at this
theorem agreeE_good {a b:List Ent} (h: ∀k,(h1:k<a.length)→(h2:k<b.length)→sameE a[k] b[k]=true):agreeE a b=true:=by
 unfold agreeE
 rw [List.all_eq_true]
 intro p hp
 obtain ⟨k,hk,rfl⟩:=List.getElem_of_mem hp
 rw [List.length_zip] at hk
 rw [List.getElem_zip]
 exact h k (by omega) (by omega)
theorem agreeE_take (a b:List Ent):agreeE (a.take (min a.length b.length)) (b.take (min a.length b.length))=agreeE a b:=by
 unfold agreeE
 have e:(a.take (min a.length b.length)).zip (b.take (min a.length b.length))=a.zip b:=by
  have h:(a.take (min a.length b.length)).zip (b.take (min a.length b.length))=(a.zip b).take (min a.length b.length):=by
   unfold List.zip
   rw [List.take_zipWith]
  rw [h,List.take_of_length_le (by rw [List.length_zip];exact Nat.le_refl _)]
 rw [e]
def sameAllE (a b:List Ent):Bool:=decide (a.length=b.length) && agreeE a b
def oneDev (d:Int) (es:List Ent):Bool:=es.all fun e=>decide (e.dev=d)
theorem oneDev_bad {d:Int} {es:List Ent} (k:Nat) (hk:k<es.length) (h:es[k].dev≠d):oneDev d es=false:=by
 unfold oneDev
 rw [List.all_eq_false]
 exact ⟨_,List.getElem_mem hk,by simpa using h⟩
theorem oneDev_good {d:Int} {es:List Ent} (h: ∀k,(hk:k<es.length)→es[k].dev=d):oneDev d es=true:=by
 unfold oneDev
 rw [List.all_eq_true]
 intro e he
 obtain ⟨k,hk,rfl⟩:=List.getElem_of_mem he
 simpa using h k hk
def lastSum (s:List Nat) (es:List Ent):Bool:=match es.getLast? with | some e=>decide (sumE e=s) | none=>false
theorem lastSum_at {s:List Nat} {es:List Ent} (k:Nat) (hk:es.length=k+1):lastSum s es=decide (sumE (es[k]'(by omega))=s):=by
 have e:es.getLast? =some (es[k]'(by omega)):=by
  rw [List.getLast?_eq_getElem?,show es.length - 1=k by omega]
  exact lE (by omega)
 unfold lastSum
 rw [e]
def covE (h:Hd) (es:List Ent):Bool:=decide (es.length≤4096) && (decide ((es.length:Int)=h.seq) && (decide (chainI es= -1) && (oneDev h.dev es && lastSum (nb h.sum) es)))
def sideE (B H:Int) (pk:List Nat) (d:Int) (h:Hd) (es:List Ent):Bool:=decide (h.dev=d) && (decide (SignedH B H pk h) && covE h es)
def forkE (B H:Int) (pk:List Nat) (f:Frk):Bool:=sideE B H pk f.dev f.h0 f.l0 && (sideE B H pk f.dev f.h1 f.l1 && !agreeE f.l0 f.l1)
theorem chainI_valid {es:List Ent} (h:chainI es= -1): ∀e ∈ es,ValidE e:=fun e he=>by
 obtain ⟨k,hk,rfl⟩:=List.getElem_of_mem he
 have h1:=(chainI_iff es).1 h k hk
 unfold contE at h1
 rw [Bool.and_eq_true] at h1
 exact (validE_iff _).1 h1.1
end Go.Proofs.YtndlihclgdkpaaaGreatDoor
