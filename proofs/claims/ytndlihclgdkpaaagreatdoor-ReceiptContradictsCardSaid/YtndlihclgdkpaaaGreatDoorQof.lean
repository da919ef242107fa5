/- Book.Of. -/
import Derived.Test.YtndlihclgdkpaaaGreatDoorQcu
set_option linter.unusedVariables false
set_option linter.unusedSimpArgs false
open Go.Lib (hid)
namespace Go.Proofs.YtndlihclgdkpaaaGreatDoor
open Go.RowKit
open Go.Maps
open Kit (Chg)
open Sha (v)
open Go.Proofs.YtndlihclgdkpaaaGreatDoor.One
def OwnRc (w:World) (B:Nat) (v:Value) (n:Nat) (ys:List RcV):Prop:=w.ownsRow B 47 14 v n (rcv ys)∧ys.length=n∧ ∀y ∈ ys,y.ok w∧(∀q,y.blk q→B≤q)∧ ∀g,v.ownBlock=some g→ ¬y.blk g
theorem own_lt {w:World} {B n:Nat} {v:Value} {xs:List Value} {T size:Nat} (h:w.ownsRow B T size v n xs) {g:Nat} (hg:v.ownBlock=some g):B≤g∧g<w.heap.size:=by
 rcases h.2 with ⟨e,_⟩ | ⟨g',cap,cur,e,h1,h2,_⟩
 ·rw [e] at hg;cases hg
 ·rw [e] at hg
  have:g'=g:=by injection hg
  subst this
  exact ⟨h1,(gS h2).1⟩
theorem OwnRc.later {w w':World} {B n:Nat} {v:Value} {ys:List RcV} (h:OwnRc w B v n ys) (hb:Below w.heap.size w w'):OwnRc w' B v n ys:=⟨own_later h.1 hb,h.2.1,fun y hy=>⟨(h.2.2 y hy).1.later hb,(h.2.2 y hy).2⟩⟩
theorem OwnRc.nil (w:World) (B:Nat):OwnRc w B (.slice none 0 0) 0 []:=⟨World.ownsRow_nil _ _ _ _,rfl,fun y hy=>by simp at hy⟩
theorem OwnRc.snoc {w w':World} {B n bl cap:Nat} {v:Value} {ys:List RcV} {x:RcV} (h:OwnRc w B v n ys) (hx:x.ok w) (hxb: ∀q,x.blk q→B≤q) (hxv: ∀g,v.ownBlock=some g→ ¬x.blk g) (ho:w'.ownsRow B 47 14 (.slice (some ⟨bl,0,none⟩) (n+1) cap) (n+1) (rcv (ys++[x]))) (hg:w.grownBy w' v.ownBlock) (hbl:some bl=v.ownBlock∨bl=w.heap.size):OwnRc w' B (.slice (some ⟨bl,0,none⟩) (n+1) cap) (n+1) (ys++[x]):=by
 have hc:Chg (fun q _=>v.ownBlock=some q) w w':=Chg.of_grown hg (fun k i e=>e)
 have key: ∀y:RcV,y.ok w→(∀g,v.ownBlock=some g→ ¬y.blk g)→y.ok w'∧ ¬y.blk bl:=fun y hy hn=>⟨hy.keepB hc (fun q hq i e=>hn q e hq),fun hq=>by
  rcases hbl with e | e
  ·exact hn bl e.symm hq
  ·have:=hy.blk_lt hq;omega⟩
 refine ⟨ho,by rw [List.length_append,h.2.1];rfl,fun y hy=> ?_⟩
 have hown:(Value.slice (some ⟨bl,0,none⟩) (n+1) cap).ownBlock=some bl:=rfl
 rcases List.mem_append.1 hy with e | e
 ·obtain ⟨a1,a2,a3⟩:=h.2.2 y e
  obtain ⟨k1,k2⟩:=key y a1 a3
  exact ⟨k1,a2,fun g hg'=>by rw [hown] at hg';injection hg' with hg';subst hg';exact k2⟩
 ·rw [List.mem_singleton] at e
  subst e
  obtain ⟨k1,k2⟩:=key y hx hxv
  exact ⟨k1,hxb,fun g hg'=>by rw [hown] at hg';injection hg' with hg';subst hg';exact k2⟩
end Go.Proofs.YtndlihclgdkpaaaGreatDoor
