/- A store beside a world: what its functions answer (for the law GossipForged). -/
import Derived.Test.YtndlihclgdkpaaaGreatDoorFpl
import Derived.Test.YtndlihclgdkpaaaGreatDoorWfs
set_option linter.unusedVariables false
set_option linter.unusedSimpArgs false
open Go.Lib (hid)
namespace Go.Proofs.YtndlihclgdkpaaaGreatDoor
open Go.RowKit
open Kit (Chg)
open Sha (v)
open Go.Proofs.YtndlihclgdkpaaaGreatDoor.One

theorem store_vector {w:World} {G:Nat→Nat} {s p:Nat} {B H:Int} {ls:List Lin} (h:StoreAt w G s p B H ls) (h3:ls.length=3):Calls Tryz.prog 65 #[.pointer (some ⟨p,0,none⟩)] w fun e w'=> ∃bl:Nat,e= .returned (.slice (some ⟨bl,0,none⟩) 3 3)∧(∀j,j<3→w'.cell? ⟨bl,j,none⟩=some (.int .i64 ((sdAt ls j:Nat):Int)))∧w.heap.size≤bl∧bl<w'.heap.size∧Below w.heap.size w w':=by
 refine (vector_any w h (by rw [h3];decide)).mono ?_
 rintro e w2 ⟨bl,L,rfl,hL,ho,hbl,hb⟩
 rw [h3] at hL
 subst hL
 have hlv:(vecOf ls).length=3:=by unfold vecOf;rw [List.length_map,h3]
 obtain ⟨_,a9,cap9,he9,_,_,hI9,_⟩:=ints_of_own ho
 rw [hlv] at he9
 injection he9 with e1 e2 e3
 have hc: ∀j,j<3→w2.cell? ⟨bl,j,none⟩=some (.int .i64 ((sdAt ls j:Nat):Int)):=fun j hj=>by
  rcases hI9 with h1 | ⟨b9,o9,h1,h2⟩
  ·rw [h1] at hlv;simp at hlv
  ·rw [h1] at e1
   cases e1
   have h4:=h2 j (by rw [hlv];exact hj)
   rw [Nat.zero_add,vec_at (by rw [h3];exact hj)] at h4
   exact h4
 exact ⟨bl,rfl,hc,hbl,World.block_lt_of_cell? w2 _ (hc 0 (by decide)),hb⟩
theorem store_log {w:World} {G:Nat→Nat} {s p:Nat} {B H:Int} {ls:List Lin} (h:StoreAt w G s p B H ls) (h3:ls.length=3) (hg:GoodS B H ls) {d:Nat} (hd:d<3):Calls Tryz.prog 63 #[.pointer (some ⟨p,0,none⟩),.int .i64 (d:Int)] w fun e w'=> ∃bl:Nat,e= .returned (.slice (some ⟨bl,0,none⟩) (logAt ls d).length (logAt ls d).length)∧Below w.heap.size w w':=by
 have hl:d<ls.length:=by rw [h3];exact hd
 have hm:=(hg.miss (ls[d]) (List.getElem_mem hl))
 refine (log_any d hl (by omega) hm.2.2.1 w h (by rw [h3];decide)).mono ?_
 rintro e w2 ⟨bl,L,xs,rfl,hL,hxs,hr,hbl,hn,hb⟩
 rw [logAt_eq hl,hL]
 exact ⟨bl,rfl,hb⟩
theorem store_nofork {w:World} {G:Nat→Nat} {s p:Nat} {B H:Int} {ls:List Lin} (h:StoreAt w G s p B H ls) (h3:ls.length=3) (hf: ∀l ∈ ls,l.fork=none):Calls Tryz.prog 66 #[.pointer (some ⟨p,0,none⟩)] w fun e w'=> ∃(a:Option Addr) (c:Nat),e= .returned (.slice a 0 c)∧Below w.heap.size w w':=by
 refine (forks_any (by rw [h3];decide) (fun l hl f hh=>by rw [hf l hl] at hh;cases hh) w h).mono ?_
 rintro e w2 ⟨v,xs,rfl,ho,hm,hok,hb⟩
 have e:ls.filterMap Lin.fork=[]:=by
  rw [List.filterMap_eq_nil_iff]
  exact hf
 rw [e] at hm
 have hx:xs=[]:=List.map_eq_nil_iff.1 hm
 subst hx
 obtain ⟨_,a,cap,rfl,_⟩:=fvs_cells ho
 exact ⟨a,cap,rfl,hb⟩
theorem merge_unsigned {G:Nat→Nat} {s p N0:Nat} {B H:Int} {ls:List Lin} (xs0:List EV) (y:HV) (a1:Option Addr) (c1 LE:Nat) (a2:Option Addr) (c2:Nat) (hLE:xs0.length=LE) (hE4:LE≤4096) (hl:ls.length≤12) (h7:7<s) (hN4:3≤N0) (hG:GoodS B H ls) (hn: ∀(i:Nat) (hi:i<ls.length),y.h.dev=(i:Int)→ ¬SignedH B H (nb ls[i].pub) y.h) (w:World) (hE:EVsAt w a1 xs0) (hY:HeadsAt w a2 [y]) (hxo: ∀x ∈ xs0,x.ok w G∧x.e.body.length≤1000000000) (hyo:y.ok w G∧BigH y.h) (h:StoreAt w G s p B H ls) (hO:Own w G N0) (hL:Laid w):
    Calls Tryz.prog 61 #[.pointer (some ⟨p,0,none⟩),.slice a1 LE c1,.slice a2 1 c2] w fun e w'=> ∃G':Nat→Nat,e= .returned (.tuple #[.int .i64 0,.int .i64 0])∧StoreAt w' G' s p B H ls∧Own w' G' N0∧Step G G' (MT s) w w':=by
 refine (storeMerge_any xs0 [y] a1 c1 LE a2 c2 1 hLE rfl hE4 (by decide) hl h7 hN4 hG w hE hY hxo (fun z hz=>by rw [List.mem_singleton.1 hz];exact hyo) h hO hL).mono ?_
 rintro e w2 ⟨G',hs,gr,rfl,k1,k2,k3,k4,k5,k6⟩
 have hf:=foldM_none (gv:=givenOf (xs0.map EV.e)) (ls:=ls) (hs:=hs) (h:=y.h) (B:=B) (H:=H) k1 hn
 rw [hf] at k2 k3
 subst k2
 exact ⟨G',rfl,k3,k4,k5⟩
theorem sum_gen (e0:Ent) (a:Option Addr) (n c:Nat) (hn:e0.body.length=n) (hnil:a=none→c=0) (w:World) (hB:BytesAt w a e0.body) (hL:Laid w):Calls Tryz.prog 62 #[.agg #[.int .i64 e0.dev,.int .i64 e0.seq,.int .i64 e0.kind,.int .i64 e0.day,.slice a n c,.string e0.prev]] w fun e w'=> ∃(u:ByteArray) (er:Int),e= .returned (.tuple #[.string u,.int .i64 er])∧(ValidE e0→er=0∧nb u=sumE e0)∧Below w.heap.size w w':=by
 by_cases hv:ValidE e0
 ·obtain ⟨dv,sq,kd,dy,bs,p⟩:=e0
  have h0:=hv
  obtain ⟨d0,rfl⟩: ∃d:Nat,dv=(d:Int):=⟨dv.toNat,by have:=hv.dev0;simp only at this;omega⟩
  obtain ⟨d1,rfl⟩: ∃d:Nat,sq=(d:Int):=⟨sq.toNat,by have:=hv.seq0;simp only at this;omega⟩
  obtain ⟨d2,rfl⟩: ∃d:Nat,kd=(d:Int):=⟨kd.toNat,by have:=hv.kind0;simp only at this;omega⟩
  obtain ⟨d3,rfl⟩: ∃d:Nat,dy=(d:Int):=⟨dy.toNat,by have:=hv.day0;simp only at this;omega⟩
  refine (sum_ok d0 d1 d2 d3 a n c p bs hn hnil h0 _ rfl w hB hL).mono ?_
  rintro e w2 ⟨u,rfl,h1,_,h2⟩
  exact ⟨u,0,rfl,fun _=>⟨rfl,h1⟩,h2⟩
 ·have hf:validE e0=false:=Bool.eq_false_iff.2 fun h=>hv ((validE_iff _).1 h)
  refine (sum_bad e0.dev e0.seq e0.kind e0.day a n c e0.prev e0.body hn hf w).mono ?_
  rintro e w2 ⟨rfl,h2⟩
  exact ⟨_,1,rfl,fun h=>absurd h hv,h2⟩
theorem set_mem {α:Type} {l:List α} {i:Nat} {z x:α} (h:x ∈ l.set i z):x ∈ l∨x=z:=List.mem_or_eq_of_mem_set h
end Go.Proofs.YtndlihclgdkpaaaGreatDoor
