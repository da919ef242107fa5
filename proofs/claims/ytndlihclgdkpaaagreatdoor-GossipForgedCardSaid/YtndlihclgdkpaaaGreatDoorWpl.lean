/- What Append and Seal make of a good line: plain. -/
import Derived.Test.YtndlihclgdkpaaaGreatDoorGh
import Derived.Test.YtndlihclgdkpaaaGreatDoorGse
set_option linter.unusedVariables false
set_option linter.unusedSimpArgs false
open Go.Lib (hid)
namespace Go.Proofs.YtndlihclgdkpaaaGreatDoor
open Go.RowKit
open Kit (Chg)
open Sha (v)
open Go.Proofs.YtndlihclgdkpaaaGreatDoor.One

theorem newE_valid {l:Lin} {d kd dy:Nat} {bs:List Nat} (hd:d≤11) (hk:1≤kd∧kd≤9) (hy:dy≤999999) (hb:bs.length≤69632) (hn:l.log.length<4096):ValidE (newE l d kd dy bs):=by
 unfold newE
 refine ⟨by simp only;omega,by simp only;omega,by simp only;omega,by simp only;omega,by simp only;omega,by simp only;omega,by simp only;omega,by simp only;omega,by simp only;omega,?_⟩
 simp only
 by_cases hz0:l.log.length=0
 ·have hnl:l.log=[]:=List.eq_nil_of_length_eq_zero hz0
  rw [if_pos (by omega),hnl]
  rfl
 ·have hnn:l.log≠[]:=fun e=>hz0 (by rw [e];rfl)
  rw [if_neg (by omega),← nb_length,nb_prevOf hnn]
  exact sumE_len _
theorem appL_good {B H:Int} {l:Lin} {d kd dy:Nat} {bs:List Nat} (h:GoodL B H (d:Int) l) (hd:d≤11) (hk:1≤kd∧kd≤9) (hy:dy≤999999) (hb:bs.length≤69632) (hn:l.log.length<4096) (hday: ∀e,l.log.getLast? =some e→e.day≤(dy:Int)):GoodL B H (d:Int) (appL l d kd dy bs):=by
 refine ⟨?_,?_,?_,fun hs=> ?_,h.fork⟩
 ·refine h.log.snoc _ rfl (by show ((l.log.length:Nat):Int)+1=_;omega) (newE_valid hd hk hy hb hn) fun j hj=> ?_
  have hj':j<l.log.length:=by omega
  have hne:l.log≠[]:=fun e=>by rw [e] at hj';simp at hj'
  have hlast:l.log.getLast hne=l.log[j]:=by rw [List.getLast_eq_getElem];congr 1;omega
  refine ⟨?_,?_⟩
  ·show nb (prevOf l.log)=_
   rw [nb_prevOf hne,hlast]
  ·exact hday _ (by rw [List.getLast?_eq_some_getLast hne,hlast])
 ·show (l.log++[_]).length≤4096
  rw [List.length_append,List.length_singleton];omega
 ·show l.sealed'≤(l.log++[_]).length
  rw [List.length_append,List.length_singleton]
  have:=h.sealed;omega
 ·have h1:=h.head hs
  have e:(appL l d kd dy bs).log.take (appL l d kd dy bs).sealed'=l.log.take l.sealed':=by
   show (l.log++[_]).take l.sealed'=_
   rw [List.take_append_of_le_length h.sealed]
  rw [e]
  exact h1
theorem appL_keep {l:Lin} {d kd dy:Nat} {bs:List Nat} (h:l.sealed'≤l.log.length):l.sealed'≤(appL l d kd dy bs).sealed'∧(appL l d kd dy bs).log.take l.sealed'=l.log.take l.sealed'∧(appL l d kd dy bs).pub=l.pub:=
 ⟨Nat.le_refl _,List.take_append_of_le_length h,rfl⟩
theorem sealL_good {B H:Int} {l:Lin} {d:Nat} {x:Hd} (h:GoodL B H (d:Int) l) (hne:l.log≠[]) (hd:x.dev=(d:Int)) (hq:x.seq=((l.log.length:Nat):Int)) (hs:x.sum=prevOf l.log) (hsg:SignedH B H (nb l.pub) x):GoodL B H (d:Int) (sealL l x):=by
 refine ⟨h.log,h.most,Nat.le_refl _,fun _=>⟨hd,hsg,?_⟩,h.fork⟩
 show CoversH x (l.log.take l.log.length)
 rw [List.take_length]
 refine ⟨by rw [hd];exact h.log,hq.symm,h.most,fun hl=> ?_⟩
 rw [hs,nb_prevOf hne,List.getLast_eq_getElem]
theorem sealL_keep {l:Lin} {x:Hd} (h:l.sealed'≤l.log.length):l.sealed'≤(sealL l x).sealed'∧(sealL l x).log.take l.sealed'=l.log.take l.sealed'∧(sealL l x).pub=l.pub:=
 ⟨h,rfl,rfl⟩
theorem seal_signed {b t next d L:Nat} {seed pk:ByteArray} {es:List Ent} {x:Hd} (hB:Bits b) (hb4:b≤4) (ht:t≤8) (hn:next<2 ^ t) (hpk:nb pk=sigPub b (nb seed) t) (hd11:d≤11) (hL:1≤L) (hL2:L≤4096) (hne:es≠[]) (hd:x.dev=(d:Int)) (hq:x.seq=(L:Int)) (hs:x.sum=prevOf es) (hi:x.idx=(next:Int))
    (hp:x.ps.map nb=sigParts b (nb seed) next (headDg d L (nb (prevOf es)))) (hqs:x.qs.map nb=sigPath b (nb seed) t next):SignedH (b:Int) (t:Int) (nb pk) x:=
 ⟨⟨by rw [hd];omega,by rw [hd];omega,by rw [hq];omega,by rw [hq];omega,by rw [hs,← nb_length,nb_prevOf hne];exact sumE_len _⟩,by
  rw [hpk,hd,hq,hi,hp,hqs,hs,Int.toNat_natCast,Int.toNat_natCast]
  exact sigAcc_sign b hB hb4 (nb seed) t next ht hn _ (headDg_len _ _ _)⟩
theorem GoodS.miss {B H:Int} {ls:List Lin} (h:GoodS B H ls): ∀l ∈ ls,l.log.length≤4096∧l.sealed'≤l.log.length∧(∀e ∈ l.log,e.body.length≤1000000000)∧l.head.ps.length≤100000000∧l.head.qs.length≤100000000:=fun l hl=>by
 obtain ⟨i,hi,rfl⟩:=List.getElem_of_mem hl
 have hg:=h.good i hi
 refine ⟨hg.most,hg.sealed,fun e he=> ?_,(h.small _ hl).1,(h.small _ hl).2⟩
 obtain ⟨j,hj,rfl⟩:=List.getElem_of_mem he
 have:=(hg.log j hj).2.2.1.body
 omega
end Go.Proofs.YtndlihclgdkpaaaGreatDoor
