/- Books of receipts in memory; NewBook, current. -/
import Derived.Test.YtndlihclgdkpaaaGreatDoorQmb
import Derived.Test.YtndlihclgdkpaaaGreatDoorQbi
import Derived.Test.YtndlihclgdkpaaaGreatDoorQbp
import Derived.Test.YtndlihclgdkpaaaGreatDoorQcl
set_option linter.unusedVariables false
set_option linter.unusedSimpArgs false
open Go.Lib (hid)
namespace Go.Proofs.YtndlihclgdkpaaaGreatDoor
open Go.RowKit
open Go.Maps
open Kit (Chg)
open Sha (v)
open Go.Proofs.YtndlihclgdkpaaaGreatDoor.One

structure BRow where
 g:Nat
 cap:Nat
 xs:List RcV
def BRow.val (r:BRow):Value:= .slice (some ⟨r.g,0,none⟩) r.xs.length r.cap
def sgV (r:Rc):Value:= .agg #[.int .i64 r.hol,.int .i64 r.vlt,.int .i64 r.sz,.int .i64 r.day,.int .i64 r.ser,.string r.str,.int .i64 r.ix]
def listF (R:Pc→Option BRow):Value→Option Value
 | .agg ⟨[.string s,.int .i64 i]⟩=>(R ⟨s,i⟩).map BRow.val
 | _=>none
def numF (m:List Rc):Value→Option Value
 | .agg ⟨[.int .i64 h,.int .i64 s]⟩=>(findN m h s).map sgV
 | _=>none
theorem listF_piece (R:Pc→Option BRow) (s:ByteArray) (i:Int):listF R (pieceV s i)=(R ⟨s,i⟩).map BRow.val:=rfl
theorem numF_number (m:List Rc) (h s:Int):numF m (numberV h s)=(findN m h s).map sgV:=rfl
def RcV.blk (x:RcV) (q:Nat):Prop:=(x.r.path≠[]∧ ∃ad,x.a1=some ad∧ad.block=q)∨(x.r.parts≠[]∧ ∃ad,x.a2=some ad∧ad.block=q)∨(x.r.sp≠[]∧ ∃ad,x.a3=some ad∧ad.block=q)
theorem RcV.ok.keepB {w w':World} {M:Nat→Nat→Prop} {x:RcV} (h:x.ok w) (hc:Chg M w w') (hm: ∀q,x.blk q→ ∀i,¬M q i):x.ok w':=
 ⟨h.n1,h.n2,h.n3,h.s1.keep hc (fun ad e hl=>hm ad.block (.inl ⟨List.length_pos_iff.1 hl,ad,e,rfl⟩)),h.s2.keep hc (fun ad e hl=>hm ad.block (.inr (.inl ⟨List.length_pos_iff.1 hl,ad,e,rfl⟩))),h.s3.keep hc (fun ad e hl=>hm ad.block (.inr (.inr ⟨List.length_pos_iff.1 hl,ad,e,rfl⟩)))⟩
theorem strs_block {w:World} {a:Option Addr} {ss:List ByteArray} (h:StrsAt w a ss) (hn:ss≠[]) {ad:Addr} (e:a=some ad): ∃c t f,w.heap[ad.block]? =some (.cells c t f):=by
 rcases h with h | ⟨b,o,e2,hc⟩
 ·exact absurd h hn
 ·rw [e2] at e
  cases e
  have h0:=hc 0 (List.length_pos_iff.2 hn)
  unfold World.cell? at h0
  split at h0
  ·rename_i c t f hb
   exact ⟨c,t,f,hb⟩
  ·cases h0
theorem RcV.ok.block {w:World} {x:RcV} (h:x.ok w) {q:Nat} (hq:x.blk q): ∃c t f,w.heap[q]? =some (.cells c t f):=by
 rcases hq with ⟨h1,ad,e,rfl⟩ | ⟨h1,ad,e,rfl⟩ | ⟨h1,ad,e,rfl⟩
 ·exact strs_block h.s1 h1 e
 ·exact strs_block h.s2 h1 e
 ·exact strs_block h.s3 h1 e
theorem RcV.ok.blk_lt {w:World} {x:RcV} (h:x.ok w) {q:Nat} (hq:x.blk q):q<w.heap.size:=by
 obtain ⟨c,t,f,hb⟩:=h.block hq
 exact (gS hb).1
structure BookR (w:World) (O:Nat→Prop) (bk b1 b2:Nat) (R:Pc→Option BRow) (m:List Rc) (c:Nat):Prop where
 good:GoodB m
 len:m.length≤c
 cell:w.heap[bk]? =some (.cells #[.map (some b1),.map (some b2)] 198 (0,0))
 m1:MapV Tryz.prog 42 w b1 c (listF R)
 m2:MapV Tryz.prog 200 w b2 c (numF m)
 ne12:b1≠b2
 row: ∀p r,R p=some r→RowN RcV.cells 14 47 w r.g r.cap r.xs∧r.xs.map RcV.r=ofB m p∧r.xs≠[]
 no: ∀p,R p=none→ofB m p=[]
 ok: ∀p r,R p=some r→ ∀x ∈ r.xs,x.ok w∧(∀q,x.blk q→O q)∧ ∀p' r',R p'=some r'→ ¬x.blk r'.g
 apart: ∀p r p' r',R p=some r→R p'=some r'→r.g=r'.g→p=p'
 o0:O bk
 o1:O b1
 o2:O b2
 og: ∀p r,R p=some r→O r.g
 lt: ∀q,O q→q<w.heap.size
def BookAt (w:World) (O:Nat→Prop) (bk:Nat) (m:List Rc) (c:Nat):Prop:= ∃b1 b2 R,BookR w O bk b1 b2 R m c
theorem BookR.keep {w w':World} {O:Nat→Prop} {bk b1 b2:Nat} {R:Pc→Option BRow} {m:List Rc} {c:Nat} {M:Nat→Nat→Prop} (h:BookR w O bk b1 b2 R m c) (hc:Chg M w w') (hM: ∀q,O q→ ∀i,¬M q i):BookR w' O bk b1 b2 R m c:=by
 have e: ∀q,O q→w'.heap[q]? =w.heap[q]? :=fun q hq=>hc.other q (h.lt q hq) (hM q hq)
 exact ⟨h.good,h.len,(e bk h.o0).trans h.cell,h.m1.keep (e b1 h.o1),h.m2.keep (e b2 h.o2),h.ne12,fun p r hr=>⟨(h.row p r hr).1.keep (e r.g (h.og p r hr)),(h.row p r hr).2⟩,h.no,fun p r hr x hx=>⟨(h.ok p r hr x hx).1.keepB hc (fun q hq=>hM q ((h.ok p r hr x hx).2.1 q hq)),(h.ok p r hr x hx).2⟩,h.apart,h.o0,h.o1,h.o2,h.og,fun q hq=>Nat.lt_of_lt_of_le (h.lt q hq) hc.size⟩
theorem BookR.later {w w':World} {O:Nat→Prop} {bk b1 b2:Nat} {R:Pc→Option BRow} {m:List Rc} {c:Nat} (h:BookR w O bk b1 b2 R m c) (hb:Below w.heap.size w w'):BookR w' O bk b1 b2 R m c:=h.keep (Chg.of_below (M:=fun _ _=>False) hb) (fun _ _ _ h=>h)
theorem BookAt.later {w w':World} {O:Nat→Prop} {bk:Nat} {m:List Rc} {c:Nat} (h:BookAt w O bk m c) (hb:Below w.heap.size w w'):BookAt w' O bk m c:=by
 obtain ⟨b1,b2,R,h⟩:=h
 exact ⟨b1,b2,R,h.later hb⟩
theorem listZero (w:World):(zeroValue 32).run Tryz.prog w= .ok (.slice none 0 0) w:=by kernel_rfl
def sgZ:Value:= .agg #[.int .i64 0,.int .i64 0,.int .i64 0,.int .i64 0,.int .i64 0,.string ByteArray.empty,.int .i64 0]
theorem sgZero (w:World):(zeroValue 193).run Tryz.prog w= .ok sgZ w:=by kernel_rfl
theorem listF_none (v:Value):listF (fun _=>none) v=none:=by
 unfold listF
 split<;> rfl
theorem numF_nil (v:Value):numF [] v=none:=by
 unfold numF
 split<;> rfl
set_option maxRecDepth 100000 in
set_option maxHeartbeats 4000000 in
theorem newBook_any (w:World):Calls Tryz.prog 38 #[] w fun e w'=> ∃bk,e= .returned (.pointer (some ⟨bk,0,none⟩))∧w.heap.size≤bk∧BookAt w' (fun q=>w.heap.size≤q∧q<w'.heap.size) bk [] 0∧Below w.heap.size w w':=by
 have hmm:= @run_makeMap Tryz.prog
 go_enter Tryz.func38,Tryz.ntmps38
 go_wp2_with fail
 go_ret
 have e1:(w.alloc (.map #[] 0)).heap.size=w.heap.size+1:=World.size_alloc _ _
 have e2:((w.alloc (.map #[] 0)).alloc (.map #[] 0)).heap.size=w.heap.size+2:=by rw [World.size_alloc,e1]
 have e3:(((w.alloc (.map #[] 0)).alloc (.map #[] 0)).alloc (.cells #[.map (some w.heap.size),.map (some (w.heap.size+1))] 198)).heap.size=w.heap.size+3:=by rw [World.size_alloc,e2]
 have b1:Below (w.heap.size+1) (w.alloc (.map #[] 0)) ((w.alloc (.map #[] 0)).alloc (.map #[] 0)):=(Below.refl _ _).alloc (by rw [e1];exact Nat.le_refl _) _
 have b2:Below (w.heap.size+2) ((w.alloc (.map #[] 0)).alloc (.map #[] 0)) (((w.alloc (.map #[] 0)).alloc (.map #[] 0)).alloc (.cells #[.map (some w.heap.size),.map (some (w.heap.size+1))] 198)):=(Below.refl _ _).alloc (by rw [e2];exact Nat.le_refl _) _
 have m1:MapV Tryz.prog 42 (w.alloc (.map #[] 0)) w.heap.size 0 (fun _=>none):=MapV.start w
 have m2:MapV Tryz.prog 200 ((w.alloc (.map #[] 0)).alloc (.map #[] 0)) (w.heap.size+1) 0 (fun _=>none):=by have h:=MapV.start (P:= Tryz.prog) (k:= 200) (w.alloc (.map #[] 0));rw [e1] at h;exact h
 refine ⟨w.heap.size+2,rfl,by omega,⟨w.heap.size,w.heap.size+1,fun _=>none,⟨goodB_nil,Nat.le_refl _,?_,?_,?_,by omega,fun p r h=>(by cases h),fun p _=>rfl,fun p r h=>(by cases h),fun p r _ _ h=>(by cases h),?_,?_,?_,fun p r h=>(by cases h),fun q hq=>hq.2⟩⟩,?_⟩
 ·have h:=heap_alloc_new ((w.alloc (.map #[] 0)).alloc (.map #[] 0)) (.cells #[.map (some w.heap.size),.map (some (w.heap.size+1))] 198 (0,0))
  rw [e2] at h
  exact h
 ·exact ((m1.later (b1.mono (by rw [e1];exact Nat.le_refl _))).later (b2.mono (by rw [e2];exact Nat.le_refl _))).congr (fun key kl _=>listF_none key)
 ·exact (m2.later (b2.mono (by rw [e2];exact Nat.le_refl _))).congr (fun key kl _=>numF_nil key)
 ·rw [e3];omega
 ·rw [e3];omega
 ·rw [e3];omega
 ·exact (((Below.refl _ w).alloc (Nat.le_refl _) _).alloc (by rw [e1];omega) _).alloc (by rw [e2];omega) _
end Go.Proofs.YtndlihclgdkpaaaGreatDoor
