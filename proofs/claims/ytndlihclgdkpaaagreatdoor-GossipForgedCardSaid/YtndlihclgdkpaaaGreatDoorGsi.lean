/- Signers beside stores: what of them stays whatever the stores do. -/
import Derived.Test.YtndlihclgdkpaaaGreatDoorGf
import Derived.Test.YtndlihclgdkpaaaGreatDoorGg
set_option linter.unusedVariables false
set_option linter.unusedSimpArgs false
open Go.Lib (hid)
namespace Go.Proofs.YtndlihclgdkpaaaGreatDoor
open Go.RowKit
open Kit (Chg)
open Sha (v)
open Go.Proofs.YtndlihclgdkpaaaGreatDoor.One

theorem StoreR.putT {w w':World} {G G':Nat→Nat} {T:Nat→Prop} {s p:Nat} {B H:Int} {ls:List Lin} {vr:Value} {gs:List Nat} (h:StoreR w G s p B H ls vr gs) (d:Nat) (l:Lin) (hs:Step G G' T w w') (h0: ¬T 0) (hts: ¬T s) (hto: ∀i,i<ls.length→i≠d→ ¬T (s+1+i)) (hl:LineAt w' G' (s+1+d) (gs.getD d 0) l):StoreR w' G' s p B H (ls.set d l) vr gs:=by
 have hp:p<w.heap.size:=(gS h.row).1
 obtain ⟨k1,k2⟩:=own_step h.lines h.ltag hs hts
 refine ⟨(hs.chg.other p hp (fun i hm=>hts (by rw [h.tag] at hm;exact hm))).trans h.row,(hs.tag p hp).trans h.tag,k1,k2,by rw [List.length_set];exact h.len,fun i hi=> ?_⟩
 have hi':i<ls.length:=by simpa using hi
 by_cases e:i=d
 ·subst e
  rw [List.getElem_set_self]
  exact hl
 ·rw [List.getElem_set_ne (fun h=>e h.symm)]
  exact (h.line i hi').step hs h0 (hto i hi' e)
def Agree (N:Nat) (w w':World):Prop:= ∀k,k<N→w'.heap[k]? =w.heap[k]? ∨ ∃c c' f f',w.heap[k]? =some (.cells c 144 f)∧w'.heap[k]? =some (.cells c' 144 f')
theorem Agree.refl (N:Nat) (w:World):Agree N w w:=fun _ _=> .inl rfl
theorem Agree.trans {N:Nat} {w w' w'':World} (h:Agree N w w') (k:Agree N w' w''):Agree N w w'':=fun q hq=>by
 rcases h q hq with h1 | ⟨c,c',f,f',h1,h2⟩
 ·rcases k q hq with k1 | ⟨c,c',f,f',k1,k2⟩
  ·exact .inl (k1.trans h1)
  ·exact .inr ⟨c,c',f,f',h1 ▸ k1,k2⟩
 ·rcases k q hq with k1 | ⟨d,d',e,e',k1,k2⟩
  ·exact .inr ⟨c,c',f,f',h1,k1.trans h2⟩
  ·exact .inr ⟨c,d',f,e',h1,k2⟩
theorem Agree.of_below {N:Nat} {w w':World} (h:Below N w w'):Agree N w w':=fun k hk=> .inl (h.block k hk)
structure SgIn (w:World) (N B g:Nat) (b t:Nat) (seed pk:ByteArray) (next:Nat):Prop where
 ex: ∃gt ls,w.heap[g]? =some (.cells (signerRow b seed gt pk (2 ^ t) next) 144 (0,0))∧(∀w',w.heap.size≤w'.heap.size→Agree N w w'→TreeAt w' B gt ls)∧TreeOf ls (sigLeaves b (nb seed) (2 ^ t))
 base:B≤g
 lt:g<N
 dom:N≤w.heap.size
 pk:nb pk=sigPub b (nb seed) t
 bits:Bits b
 size:seed.size=32
 height:t≤8
 next:next≤2 ^ t
theorem SgIn.at {w:World} {N B g b t next:Nat} {seed pk:ByteArray} (h:SgIn w N B g b t seed pk next):SignerAt w B g b t seed pk next:=by
 obtain ⟨gt,ls,h1,h2,h3⟩:=h.ex
 exact ⟨⟨gt,ls,h1,h2 w (Nat.le_refl _) (Agree.refl N w),h3⟩,h.base,h.pk,h.bits,h.size,h.height,h.next⟩
theorem SgIn.step {w w':World} {N B g b t next:Nat} {seed pk:ByteArray} (h:SgIn w N B g b t seed pk next) (hs:w.heap.size≤w'.heap.size) (ha:Agree N w w') (hg:w'.heap[g]? =w.heap[g]?):SgIn w' N B g b t seed pk next:=by
 obtain ⟨gt,ls,h1,h2,h3⟩:=h.ex
 exact ⟨⟨gt,ls,hg.trans h1,fun v hv hav=>h2 v (Nat.le_trans hs hv) (ha.trans hav),h3⟩,h.base,h.lt,Nat.le_trans h.dom hs,h.pk,h.bits,h.size,h.height,h.next⟩
theorem SgIn.sign {w w':World} {N B g b t next next':Nat} {seed pk:ByteArray} (h:SgIn w N B g b t seed pk next) (h':SignerAt w' B g b t seed pk next') (hc:Chg (fun q i=>q=g∧i=6) w w'):SgIn w' N B g b t seed pk next'∧Agree N w w':=by
 obtain ⟨gt,ls,h1,h2,h3⟩:=h.ex
 obtain ⟨gt',ls',k1,k2,k3⟩:=h'.ex
 have hgt:gt'=gt:=by
  obtain ⟨c',e1,e2,e3⟩:=hc.cells g ⟨0,fun h=>by omega⟩ _ _ _ h1
  rw [k1] at e1
  have e4:=e3 3 (fun h=>by omega)
  injection e1 with e1
  injection e1 with e1 _ _
  rw [← e1] at e4
  have e5:some (Value.pointer (some ⟨gt',0,none⟩))=some (Value.pointer (some ⟨gt,0,none⟩)):=e4
  injection e5 with e5
  injection e5 with e5
  injection e5 with e5
  injection e5
 have hA:Agree N w w':=fun k hk=>by
  by_cases e:k=g
  ·subst e
   exact .inr ⟨_,_,_,_,h1,k1⟩
  ·exact .inl (hc.other k (Nat.lt_of_lt_of_le hk h.dom) (fun i hi=>e hi.1))
 exact ⟨⟨⟨gt,ls,hgt ▸ k1,fun v hv hav=>h2 v (Nat.le_trans hc.size hv) (hA.trans hav),h3⟩,h.base,h.lt,Nat.le_trans h.dom hc.size,h'.pk,h.bits,h.size,h.height,h'.next⟩,hA⟩
theorem ownsRow_eq {w w':World} {base e size n:Nat} {v:Value} {xs:List Value} (h:w.ownsRow base e size v n xs) (hb: ∀g,v.ownBlock=some g→w'.heap[g]? =w.heap[g]?):w'.ownsRow base e size v n xs:=by
 refine ⟨h.1,?_⟩
 rcases h.2 with hn | ⟨g,cap,cur,rfl,hbg,hg,r⟩
 ·exact .inl hn
 ·exact .inr ⟨g,cap,cur,rfl,hbg,(hb g rfl).trans hg,r⟩
theorem Agree.other {N:Nat} {w w':World} (h:Agree N w w') {k:Nat} {c:Array Value} {T:TypeId} {f:Nat × Nat} (hk:k<N) (hc:w.heap[k]? =some (.cells c T f)) (hT:T≠ 144):w'.heap[k]? =w.heap[k]? :=by
 rcases h k hk with h1 | ⟨c1,c2,f1,f2,h1,_⟩
 ·exact h1
 ·rw [h1] at hc
  injection hc with hc
  injection hc with _ hc _
  exact absurd hc.symm hT
theorem SgIn.of {w:World} {B g b t next:Nat} {seed pk:ByteArray} (h:SignerAt w B g b t seed pk next):SgIn w w.heap.size B g b t seed pk next:=by
 obtain ⟨gt,ls,h1,h2,h3⟩:=h.ex
 refine ⟨⟨gt,ls,h1,fun w' hs ha=> ?_,h3⟩,h.base,h.lt,Nat.le_refl _,h.pk,h.bits,h.size,h.height,h.next⟩
 obtain ⟨bl,cap,rows,hR⟩:=h2
 have hown: ∀{base e size n:Nat} {v:Value} {xs:List Value},w.ownsRow base e size v n xs→e≠ 144 →w'.ownsRow base e size v n xs:=fun hr he=>ownsRow_eq hr (fun q hq=>by
  obtain ⟨cur,hc⟩:=row_type hr hq
  exact ha.other (hr.lt q hq).2 hc he)
 exact ⟨bl,cap,rows,⟨(ha.other (gS hR.box).1 hR.box (by decide)).trans hR.box,hR.base,hown hR.row (by decide),hR.rows.keep fun k _ ho=>hown ho (by decide)⟩⟩
theorem SgIn.store {w w':World} {G G':Nat→Nat} {T:Nat→Prop} {N B g b t next:Nat} {seed pk:ByteArray} (h:SgIn w N B g b t seed pk next) (hO:Own w G N) (hs:Step G G' T w w') (h0: ¬T 0) (h7: ¬T 7):SgIn w' N B g b t seed pk next:=
 have hb:=hs.below hO h0 h7
 h.step hs.chg.size (Agree.of_below hb) (hb.block g h.lt)
theorem SgIn.later {w w':World} {N B g b t next:Nat} {seed pk:ByteArray} (h:SgIn w N B g b t seed pk next) (hb:Below w.heap.size w w'):SgIn w' N B g b t seed pk next:=
 h.step hb.size (Agree.of_below (hb.mono h.dom)) (hb.block g (Nat.lt_of_lt_of_le h.lt h.dom))
end Go.Proofs.YtndlihclgdkpaaaGreatDoor
