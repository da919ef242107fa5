/- Forks that Forks has put in a row: their parts lie in blocks of their own. -/
import Derived.Test.YtndlihclgdkpaaaGreatDoorWfl
set_option linter.unusedVariables false
set_option linter.unusedSimpArgs false
open Go.Lib (hid)
namespace Go.Proofs.YtndlihclgdkpaaaGreatDoor
open Go.RowKit
open Kit (Chg)
open Sha (v)
open Go.Proofs.YtndlihclgdkpaaaGreatDoor.One

def NLog (w:World) (lo:Nat) (a:Option Addr) (es:List Ent):Prop:= ∃(bl cap:Nat) (xs:List EV),a=some ⟨bl,0,none⟩∧xs.map EV.e=es∧RowS EV.cells 92 w bl cap xs∧lo≤bl∧ ∀x ∈ xs,NewE w lo x
theorem NLog.ents {w:World} {lo:Nat} {a:Option Addr} {es:List Ent} (h:NLog w lo a es):EntsAt w a es:=by
 obtain ⟨bl,cap,xs,rfl,rfl,h3,h4,h5⟩:=h
 refine .inr ⟨bl,0,rfl,fun i hi=> ?_⟩
 have hi':i<xs.length:=by simpa using hi
 obtain ⟨hc,_⟩:=h3.cells (fun _=>rfl) i hi'
 have hx:=h5 _ (List.getElem_mem hi')
 rw [List.getElem_map,Nat.zero_add]
 exact ⟨xs[i].a,xs[i].e.body.length,xs[i].c,rfl,hx.1,hx.2.1,hc 0 (by decide),hc 1 (by decide),hc 2 (by decide),hc 3 (by decide),hc 4 (by decide),hc 5 (by decide)⟩
theorem NLog.chg {w w':World} {lo:Nat} {a:Option Addr} {es:List Ent} {M:Nat→Nat→Prop} (h:NLog w lo a es) (hc:Chg M w w') (hM: ∀k i,lo≤k→k<w.heap.size→ ¬M k i):NLog w' lo a es:=by
 obtain ⟨bl,cap,xs,h1,h2,h3,h4,h5⟩:=h
 refine ⟨bl,cap,xs,h1,h2,h3.keep (hc.other bl h3.lt (fun i=>hM bl i h4 h3.lt)),h4,fun x hx=>(h5 x hx).chg hc (fun hb ad e i=> ?_)⟩
 exact hM _ i ((h5 x hx).2.2 ad e) ((h5 x hx).2.1.blk ad e hb)
theorem NLog.later {w w':World} {lo:Nat} {a:Option Addr} {es:List Ent} (h:NLog w lo a es) (hb:Below w.heap.size w w'):NLog w' lo a es:=
 h.chg (M:=fun _ _=>False) (Chg.of_below hb) (fun _ _ _ _ h=>h)
def NHd (w:World) (lo:Nat) (x:HV):Prop:=x.h.ps.length<9223372036854775808∧x.h.qs.length<9223372036854775808∧NewH w lo x
theorem NHd.chg {w w':World} {lo:Nat} {x:HV} {M:Nat→Nat→Prop} (h:NHd w lo x) (hc:Chg M w w') (hM: ∀k i,lo≤k→k<w.heap.size→ ¬M k i):NHd w' lo x:=
 ⟨h.1,h.2.1,h.2.2.chg hc (fun hb ad e i=>hM _ i (h.2.2.2.2.1 ad e) (h.2.2.1.blk ad e hb)) (fun hb ad e i=>hM _ i (h.2.2.2.2.2 ad e) (h.2.2.2.1.blk ad e hb))⟩
theorem NHd.later {w w':World} {lo:Nat} {x:HV} (h:NHd w lo x) (hb:Below w.heap.size w w'):NHd w' lo x:=
 h.chg (M:=fun _ _=>False) (Chg.of_below hb) (fun _ _ _ _ h=>h)
theorem NHd.in {w:World} {lo:Nat} {x:HV} (h:NHd w lo x):HeadIn w x:=⟨h.1,h.2.1,h.2.2.1,h.2.2.2.1⟩
def NFk (w:World) (lo:Nat) (x:FV):Prop:=NLog w lo x.a0 x.l0∧NLog w lo x.a1 x.l1∧NHd w lo x.x0∧NHd w lo x.x1
def FSt (w:World) (v:Value) (x:FV):Prop:= ∃w1 lo,NFk w1 lo x∧Chg (fun q _=>q<lo∨w1.heap.size≤q) w1 w∧ ∀b,v.ownBlock=some b→b<lo∨w1.heap.size≤b
theorem FSt.ok {w:World} {v:Value} {x:FV} (h:FSt w v x):x.ok w:=by
 obtain ⟨w1,lo,⟨h1,h2,h3,h4⟩,hc,_⟩:=h
 have hM: ∀k (i:Nat),lo≤k→k<w1.heap.size→ ¬(k<lo∨w1.heap.size≤k):=fun k _ _ _=>by omega
 exact ⟨(h1.chg hc hM).ents,(h2.chg hc hM).ents,(h3.chg hc hM).in,(h4.chg hc hM).in⟩
theorem FSt.later {w w':World} {v:Value} {x:FV} (h:FSt w v x) (hb:Below w.heap.size w w'):FSt w' v x:=by
 obtain ⟨w1,lo,h1,hc,h2⟩:=h
 exact ⟨w1,lo,h1,hc.trans (Chg.of_below hb),h2⟩
theorem FSt.put {w w':World} {v:Value} {x:FV} {bl n c:Nat} (h:FSt w v x) (hc:Chg (fun q _=>some q=v.ownBlock) w w') (hat:some bl=v.ownBlock∨w.heap.size≤bl):FSt w' (.slice (some ⟨bl,0,none⟩) n c) x:=by
 obtain ⟨w1,lo,h1,hc1,h2⟩:=h
 refine ⟨w1,lo,h1,hc1.trans (hc.mono fun q i _ e=>h2 q e.symm),fun b hb=> ?_⟩
 have e:b=bl:=(Option.some.inj hb).symm
 subst e
 rcases hat with h3 | h3
 ·exact h2 b h3.symm
 ·exact .inr (Nat.le_trans hc1.size h3)
theorem FSt.new {w w1:World} {v:Value} {x:FV} {lo bl n c:Nat} (h:NFk w1 lo x) (hv: ∀b,v.ownBlock=some b→b<lo) (hc:Chg (fun q _=>some q=v.ownBlock) w1 w) (hat:some bl=v.ownBlock∨w1.heap.size≤bl):FSt w (.slice (some ⟨bl,0,none⟩) n c) x:=by
 refine ⟨w1,lo,h,hc.mono fun q i _ e=> .inl (hv q e.symm),fun b hb=> ?_⟩
 have e:b=bl:=(Option.some.inj hb).symm
 subst e
 rcases hat with h3 | h3
 ·exact .inl (hv b h3.symm)
 ·exact .inr h3
end Go.Proofs.YtndlihclgdkpaaaGreatDoor
