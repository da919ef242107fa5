/- The law's worlds in memory. -/
import Derived.Test.YtndlihclgdkpaaaGreatDoorGg
import Derived.Test.YtndlihclgdkpaaaGreatDoorGsi
import Derived.Test.YtndlihclgdkpaaaGreatDoorGse
set_option linter.unusedVariables false
set_option linter.unusedSimpArgs false
open Go.Lib (hid)
namespace Go.Proofs.YtndlihclgdkpaaaGreatDoor
open Go.RowKit
open Kit (Chg)
open Sha (v)
open Go.Proofs.YtndlihclgdkpaaaGreatDoor.One
def AgreeI (B N:Nat) (w w':World):Prop:= ∀k,B≤k→k<N→w'.heap[k]? =w.heap[k]? ∨ ∃c c' f f',w.heap[k]? =some (.cells c 144 f)∧w'.heap[k]? =some (.cells c' 144 f')
structure SgO (w:World) (G:Nat→Nat) (B N g:Nat) (b t:Nat) (seed pk:ByteArray):Prop where
 ex: ∃gt ls,w.heap[g]? =some (.cells (signerRow b seed gt pk (2 ^ t) 0) 144 (0,0))∧(∀w',w.heap.size≤w'.heap.size→AgreeI B N w w'→TreeAt w' B gt ls)∧TreeOf ls (sigLeaves b (nb seed) (2 ^ t))
 base:B≤g
 lt:g<N
 dom:N≤w.heap.size
 pk:nb pk=sigPub b (nb seed) t
 bits:Bits b
 size:seed.size=32
 height:t≤8
 tag: ∀k,B≤k→k<N→G k=0
theorem AgreeI.other {B N:Nat} {w w':World} (h:AgreeI B N w w') {k:Nat} {c:Array Value} {T:TypeId} {f:Nat × Nat} (hb:B≤k) (hk:k<N) (hc:w.heap[k]? =some (.cells c T f)) (hT:T≠ 144):w'.heap[k]? =w.heap[k]? :=by
 rcases h k hb hk with h1 | ⟨c1,c2,f1,f2,h1,_⟩
 ·exact h1
 ·rw [h1] at hc
  injection hc with hc
  injection hc with _ hc _
  exact absurd hc.symm hT
theorem SgO.of {w:World} {G:Nat→Nat} {B g b t:Nat} {seed pk:ByteArray} (h:SignerAt w B g b t seed pk 0) (hG: ∀k,B≤k→G k=0):SgO w G B w.heap.size g b t seed pk:=by
 obtain ⟨gt,ls,h1,h2,h3⟩:=h.ex
 refine ⟨⟨gt,ls,h1,fun w' hs ha=> ?_,h3⟩,h.base,h.lt,Nat.le_refl _,h.pk,h.bits,h.size,h.height,fun k hk _=>hG k hk⟩
 obtain ⟨bl,cap,rows,hR⟩:=h2
 have hown: ∀{e size n:Nat} {v:Value} {xs:List Value},w.ownsRow B e size v n xs→e≠ 144 →w'.ownsRow B e size v n xs:=fun hr he=>ownsRow_eq hr (fun q hq=>by
  obtain ⟨cur,hc⟩:=row_type hr hq
  exact ha.other (hr.lt q hq).1 (hr.lt q hq).2 hc he)
 exact ⟨bl,cap,rows,⟨(ha.other hR.base (gS hR.box).1 hR.box (by decide)).trans hR.box,hR.base,hown hR.row (by decide),hR.rows.keep fun k _ ho=>hown ho (by decide)⟩⟩
theorem SgO.step {w w':World} {G G':Nat→Nat} {T:Nat→Prop} {B N g b t:Nat} {seed pk:ByteArray} (h:SgO w G B N g b t seed pk) (hs:Step G G' T w w') (h0: ¬T 0):SgO w' G' B N g b t seed pk:=by
 obtain ⟨gt,ls,h1,h2,h3⟩:=h.ex
 have hk: ∀k,B≤k→k<N→w'.heap[k]? =w.heap[k]? :=fun k hb hN=>hs.chg.other k (Nat.lt_of_lt_of_le hN h.dom) (fun i hm=>h0 (by rw [h.tag k hb hN] at hm;exact hm))
 refine ⟨⟨gt,ls,(hk g h.base h.lt).trans h1,fun v hv hav=>h2 v (Nat.le_trans hs.chg.size hv) (fun k hb hN=> ?_),h3⟩,h.base,h.lt,Nat.le_trans h.dom hs.chg.size,h.pk,h.bits,h.size,h.height,fun k hb hN=>(hs.tag k (Nat.lt_of_lt_of_le hN h.dom)).trans (h.tag k hb hN)⟩
 have:=hav k hb hN
 rw [hk k hb hN] at this
 exact this
theorem SgO.in {w:World} {G:Nat→Nat} {B N M g b t:Nat} {seed pk:ByteArray} (h:SgO w G B N g b t seed pk) (hN:N≤M) (hM:M≤w.heap.size):SgIn w M B g b t seed pk 0:=by
 obtain ⟨gt,ls,h1,h2,h3⟩:=h.ex
 exact ⟨⟨gt,ls,h1,fun w' hs ha=>h2 w' hs (fun k _ hk=>ha k (Nat.lt_of_lt_of_le hk hN)),h3⟩,h.base,Nat.lt_of_lt_of_le h.lt hN,hM,h.pk,h.bits,h.size,h.height,Nat.zero_le _⟩
def worldRow (b t:Nat) (vp vs vt:Value):Array Value:= #[.int .i64 (b:Int),.int .i64 (t:Int),vp,vs,vt]
theorem world_cells {w:World} {p b t:Nat} {vp vs vt:Value} (h:w.heap[p]? =some (.cells (worldRow b t vp vs vt) 110 (0,0))):w.cell? ⟨p,0,none⟩=some (.int .i64 (b:Int))∧w.cell? ⟨p,1,none⟩=some (.int .i64 (t:Int))∧w.cell? ⟨p,2,none⟩=some vp∧w.cell? ⟨p,3,none⟩=some vs∧w.cell? ⟨p,4,none⟩=some vt∧ ∀i,w.frozen? ⟨p,i,none⟩=false:=
 ⟨cr h,cr h,cr h,cr h,cr h,fun i=>frozen_of_row _ _ _ _ _ h⟩
end Go.Proofs.YtndlihclgdkpaaaGreatDoor
