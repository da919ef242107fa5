/- A world turns: what stays of it. -/
import Derived.Test.YtndlihclgdkpaaaGreatDoorWnw
import Derived.Test.YtndlihclgdkpaaaGreatDoorWpl
import Derived.Test.YtndlihclgdkpaaaGreatDoorWse
set_option linter.unusedVariables false
set_option linter.unusedSimpArgs false
open Go.Lib (hid)
namespace Go.Proofs.YtndlihclgdkpaaaGreatDoor
open Go.RowKit
open Kit (Chg)
open Sha (v)
open Go.Proofs.YtndlihclgdkpaaaGreatDoor.One

theorem World3.lt {w:World} {G:Nat→Nat} {N P b t:Nat} {pks sds:List ByteArray} {gs ps:List Nat} {lss:Nat→List Lin} {nx:Nat→Nat} {vp vs vt:Value} (h:World3 w G N P b t pks sds gs ps lss nx vp vs vt):P<w.heap.size:=(gS h.row).1
theorem World3.later {w w':World} {G:Nat→Nat} {N P b t:Nat} {pks sds:List ByteArray} {gs ps:List Nat} {lss:Nat→List Lin} {nx:Nat→Nat} {vp vs vt:Value} (h:World3 w G N P b t pks sds gs ps lss nx vp vs vt) (hb:Below w.heap.size w w'):World3 w' G N P b t pks sds gs ps lss nx vp vs vt:=
 ⟨(hb.block P h.lt).trans h.row,h.rtag,own_later h.pub hb,h.ptag,own_later h.sig hb,h.stag,own_later h.sto hb,h.ttag,h.plen,h.glen,h.tlen,fun i hi=>by
  obtain ⟨B,hs⟩:=h.sg i hi
  exact ⟨B,hs.later hb⟩,h.dis,h.glo,h.gtag,h.low,fun i hi=>(h.st i hi).later hb,h.own.later hb.size,h.lim⟩
theorem World3.upd {w w':World} {G G':Nat→Nat} {T:Nat→Prop} {N P b t:Nat} {pks sds:List ByteArray} {gs ps:List Nat} {lss:Nat→List Lin} {nx:Nat→Nat} {vp vs vt:Value} {ls':List Lin} (h:World3 w G N P b t pks sds gs ps lss nx vp vs vt) (i0:Nat) (hi0:i0<3) (hs:Step G G' T w w') (h0: ¬T 0) (h7: ¬T 7) (hT: ∀x,T x→8+52*i0≤x∧x≤8+52*i0+50) (hst:StoreAt w' G' (8+52*i0) (ps.getD i0 0) (b:Int) (t:Int) ls') (hO:Own w' G' N) (hl: ∀q,G' q=G q∨(8+52*i0≤G' q∧G' q≤8+52*i0+50)) (hln: ∀i,i<3→(lss i).length=3):World3 w' G' N P b t pks sds gs ps (fun i=>if i=i0 then ls' else lss i) nx vp vs vt:=by
 obtain ⟨a1,a2⟩:=own_step h.pub h.ptag hs h0
 obtain ⟨a3,a4⟩:=own_step h.sig h.stag hs h0
 obtain ⟨a5,a6⟩:=own_step h.sto h.ttag hs h0
 refine ⟨(hs.chg.other P h.lt (fun i hm=>h0 (by rw [h.rtag] at hm;exact hm))).trans h.row,(hs.tag P h.lt).trans h.rtag,a1,a2,a3,a4,a5,a6,h.plen,h.glen,h.tlen,fun i hi=> ?_,h.dis,h.glo,fun i hi=> ?_,fun k hk=> ?_,fun i hi=> ?_,hO,fun q=> ?_⟩
 ·obtain ⟨B,hg⟩:=h.sg i hi
  exact ⟨B,hg.store h.own hs h0 h7⟩
 ·obtain ⟨B,hg⟩:=h.sg i hi
  rw [hs.tag _ (Nat.lt_of_lt_of_le hg.lt hg.dom)]
  exact h.gtag i hi
 ·rcases h.low k hk with e | e
  ·exact .inl ((hs.tag k (Nat.lt_of_lt_of_le hk h.own.size)).trans e)
  ·exact .inr e
 ·by_cases e:i=i0
  ·subst e
   rw [if_pos rfl]
   exact hst
  ·rw [if_neg e]
   refine (h.st i hi).step hs h0 (fun j hj hm=> ?_)
   have h1:=hT _ hm
   have h2:=hln i hi
   omega
 ·rcases hl q with e | e
  ·rw [e];exact h.lim q
  ·omega
theorem World3.sealed {w w':World} {G:Nat→Nat} {N P b t:Nat} {pks sds:List ByteArray} {gs ps:List Nat} {lss:Nat→List Lin} {nx:Nat→Nat} {vp vs vt:Value} {ls':List Lin} {SB:Nat} (h:World3 w G N P b t pks sds gs ps lss nx vp vs vt) (i0 d:Nat) (hi0:i0<3) (hd:d<3) (hs:Step G G (TagZ (8+52*i0) d) w w') (hst:StoreAt w' G (8+52*i0) (ps.getD i0 0) (b:Int) (t:Int) ls') (hO:Own w' G N) (hsg:SgIn w' N SB (gs.getD d 0) b t (sds.getD d ByteArray.empty) (pks.getD d ByteArray.empty) (nx d+1)) (hk: ∀k,k<N→k≠gs.getD d 0→w'.heap[k]? =w.heap[k]?) (hln: ∀i,i<3→(lss i).length=3):World3 w' G N P b t pks sds gs ps (fun i=>if i=i0 then ls' else lss i) (fun j=>if j=d then nx d+1 else nx j) vp vs vt:=by
 have h0: ¬TagZ (8+52*i0) d 0:=fun e=>by
  rcases e with (e | e) | e<;> omega
 obtain ⟨a1,a2⟩:=own_step h.pub h.ptag hs h0
 obtain ⟨a3,a4⟩:=own_step h.sig h.stag hs h0
 obtain ⟨a5,a6⟩:=own_step h.sto h.ttag hs h0
 have hA:Agree N w w':=fun k hkN=>by
  by_cases e:k=gs.getD d 0
  ·obtain ⟨B,hg⟩:=h.sg d hd
   obtain ⟨_,_,h1,_⟩:=hg.ex
   obtain ⟨_,_,h2,_⟩:=hsg.ex
   rw [e]
   exact .inr ⟨_,_,_,_,h1,h2⟩
  ·exact .inl (hk k hkN e)
 refine ⟨(hs.chg.other P h.lt (fun i hm=>h0 (by rw [h.rtag] at hm;exact hm))).trans h.row,h.rtag,a1,a2,a3,a4,a5,a6,h.plen,h.glen,h.tlen,fun i hi=> ?_,h.dis,h.glo,h.gtag,h.low,fun i hi=> ?_,hO,h.lim⟩
 ·by_cases e:i=d
  ·subst e
   rw [if_pos rfl]
   exact ⟨SB,hsg⟩
  ·rw [if_neg e]
   obtain ⟨B,hg⟩:=h.sg i hi
   refine ⟨B,hg.step hs.chg.size hA (hk _ hg.lt (fun e2=> ?_))⟩
   rcases Nat.lt_or_gt_of_ne e with h1 | h1
   ·have:=h.dis d i hd h1;omega
   ·have:=h.dis i d hi h1;omega
 ·by_cases e:i=i0
  ·subst e
   rw [if_pos rfl]
   exact hst
  ·rw [if_neg e]
   refine (h.st i hi).step hs h0 (fun j hj hm=> ?_)
   have h2:=hln i hi
   rcases hm with (hm | hm) | hm<;> omega
structure WI (w:World) (G:Nat→Nat) (N P:Nat) (b t:Nat) (pks sds:List ByteArray) (gs ps:List Nat) (lss:Nat→List Lin) (nx:Nat→Nat) (vp vs vt:Value):Prop where
 wd:World3 w G N P b t pks sds gs ps lss nx vp vs vt
 good: ∀i,i<3→GoodS (b:Int) (t:Int) (lss i)
 len: ∀i,i<3→(lss i).length=3
 pub: ∀i,i<3→ ∀d,d<3→ ∀h:d<(lss i).length,(lss i)[d].pub=pks.getD d ByteArray.empty
 laid:Laid w
 three:3≤N
 threeP:3≤P
theorem WI.later {w w':World} {G:Nat→Nat} {N P b t:Nat} {pks sds:List ByteArray} {gs ps:List Nat} {lss:Nat→List Lin} {nx:Nat→Nat} {vp vs vt:Value} (h:WI w G N P b t pks sds gs ps lss nx vp vs vt) (hb:Below w.heap.size w w'):WI w' G N P b t pks sds gs ps lss nx vp vs vt:=
 ⟨h.wd.later hb,h.good,h.len,h.pub,h.laid.later hb (Nat.le_refl _),h.three,h.threeP⟩
theorem WI.six {w w':World} {G G':Nat→Nat} {T:Nat→Prop} {N P b t:Nat} {pks sds:List ByteArray} {gs ps:List Nat} {lss:Nat→List Lin} {nx:Nat→Nat} {vp vs vt:Value} (h:WI w G N P b t pks sds gs ps lss nx vp vs vt) (hs:Step G G' T w w') (hT: ∀q,T q→q=6) (hO:Own w' G' N) (hl: ∀q,G' q<164):WI w' G' N P b t pks sds gs ps lss nx vp vs vt:=by
 have h0: ¬T 0:=fun e=>by have:=hT _ e;omega
 have h7: ¬T 7:=fun e=>by have:=hT _ e;omega
 obtain ⟨a1,a2⟩:=own_step h.wd.pub h.wd.ptag hs h0
 obtain ⟨a3,a4⟩:=own_step h.wd.sig h.wd.stag hs h0
 obtain ⟨a5,a6⟩:=own_step h.wd.sto h.wd.ttag hs h0
 refine ⟨⟨(hs.chg.other P h.wd.lt (fun i hm=>h0 (by rw [h.wd.rtag] at hm;exact hm))).trans h.wd.row,(hs.tag P h.wd.lt).trans h.wd.rtag,a1,a2,a3,a4,a5,a6,h.wd.plen,h.wd.glen,h.wd.tlen,fun i hi=> ?_,h.wd.dis,h.wd.glo,fun i hi=> ?_,fun k hk=> ?_,fun i hi=> ?_,hO,hl⟩,h.good,h.len,h.pub,h.laid.low (hs.below h.wd.own h0 h7) h.three,h.three,h.threeP⟩
 ·obtain ⟨B,hg⟩:=h.wd.sg i hi
  exact ⟨B,hg.store h.wd.own hs h0 h7⟩
 ·obtain ⟨B,hg⟩:=h.wd.sg i hi
  rw [hs.tag _ (Nat.lt_of_lt_of_le hg.lt hg.dom)]
  exact h.wd.gtag i hi
 ·rcases h.wd.low k hk with e | e
  ·exact .inl ((hs.tag k (Nat.lt_of_lt_of_le hk h.wd.own.size)).trans e)
  ·exact .inr e
 ·exact (h.wd.st i hi).step hs h0 (fun j hj hm=>by have:=hT _ hm;omega)
theorem goodS_new {B H:Int} (pks:List ByteArray):GoodS B H (pks.map lin0):=by
 refine ⟨fun i hi=> ?_,fun l hl=> ?_⟩
 ·rw [List.getElem_map]
  exact ⟨fun j hj=>absurd hj (Nat.not_lt_zero _),Nat.zero_le _,Nat.zero_le _,fun h=>absurd rfl h,fun f hf=>by cases hf⟩
 ·obtain ⟨x,_,rfl⟩:=List.mem_map.1 hl
  exact ⟨Nat.zero_le _,Nat.zero_le _⟩
end Go.Proofs.YtndlihclgdkpaaaGreatDoor
