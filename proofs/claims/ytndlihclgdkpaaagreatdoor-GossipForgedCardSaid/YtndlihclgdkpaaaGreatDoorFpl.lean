/- What a new store takes of changed entries: plain. -/
import Derived.Test.YtndlihclgdkpaaaGreatDoorWpm
set_option linter.unusedVariables false
set_option linter.unusedSimpArgs false
open Go.Lib (hid)
namespace Go.Proofs.YtndlihclgdkpaaaGreatDoor
open Go.Proofs.YtndlihclgdkpaaaGreatDoor.One

def BefE (e f:Ent):Prop:=e.dev<f.dev∨(e.dev=f.dev∧e.seq<f.seq)
theorem partE_at {ls:List Lin} {i:Nat} (h:i<ls.length):partE ls [] i=if 0<ls[i].sealed' then (ls[i].log.take ls[i].sealed').drop 0 else []:=by
 unfold partE
 rw [lE h]
 rfl
theorem partH_at {ls:List Lin} {i:Nat} (h:i<ls.length):partH ls [] i=if 0<ls[i].sealed' then [ls[i].head] else []:=by
 unfold partH
 rw [lE h]
 rfl
theorem partE_nil {ls:List Lin} {i:Nat} (h:i<ls.length):partE ls [] i=ls[i].log.take ls[i].sealed':=by
 rw [partE_at h]
 by_cases h0:0<ls[i].sealed'
 ·rw [if_pos h0,List.drop_zero]
 ·rw [if_neg h0,show ls[i].sealed'=0 by omega,List.take_zero]
theorem LogOk.bef {d:Int} {es:List Ent} (h:LogOk d es):es.Pairwise BefE:=by
 refine List.pairwise_iff_getElem.2 fun i j hi hj hij=> .inr ⟨(h i hi).1.trans (h j hj).1.symm,?_⟩
 rw [(h i hi).2.1,(h j hj).2.1]
 omega
theorem missE_bef {B H:Int} {ls:List Lin} (hg:GoodS B H ls): ∀n,n≤ls.length→(∀e ∈ missE ls [] n,∃(i:Nat) (h:i<ls.length),i<n∧e.dev=(i:Int)∧e ∈ ls[i].log.take ls[i].sealed')∧(missE ls [] n).Pairwise BefE
 | 0,_=>by simp [missE]
 | n+1,hn=>by
   obtain ⟨h1,h2⟩:=missE_bef hg n (by omega)
   have hlog:=((hg.good n (by omega)).log).take ls[n].sealed'
   rw [missE_succ,partE_nil (by omega)]
   refine ⟨fun e he=> ?_,List.pairwise_append.2 ⟨h2,hlog.bef,fun e he f hf=> ?_⟩⟩
   ·rcases List.mem_append.1 he with h | h
    ·obtain ⟨i,hi,h3,h4⟩:=h1 e h
     exact ⟨i,hi,by omega,h4⟩
    ·obtain ⟨j,hj,rfl⟩:=List.getElem_of_mem h
     exact ⟨n,by omega,Nat.lt_succ_self _,(hlog j hj).1,h⟩
   ·obtain ⟨i,hi,h3,h4,_⟩:=h1 e he
    obtain ⟨j,hj,rfl⟩:=List.getElem_of_mem hf
    refine .inl ?_
    rw [h4,(hlog j hj).1]
    omega
theorem findL_mem {log:List Ent} {gv:List Nat→Option Ent} {h:Hd} {b:Nat} {es:List Ent} (hf:findL log gv h=some (b,es)): ∀e ∈ es,∃s,gv s=some e:=by
 have hb: ∀(d:Int) (n:Nat) (s:List Nat) (acc:List Ent) (b:Nat) (es:List Ent),back log gv d n s acc=some (b,es)→(∀e ∈ acc,∃s,gv s=some e)→ ∀e ∈ es,∃s,gv s=some e:=by
  intro d n
  induction n with
  | zero=>
    intro s acc b es h ha
    rw [back] at h
    cases h
    exact ha
  | succ n ih=>
    intro s acc b es h ha
    rw [back] at h
    split at h
    ·cases h;exact ha
    ·split at h
     ·rename_i x hx
      split at h
      ·exact ih _ _ _ _ h (fun e he=>by
          rcases List.mem_cons.1 he with e1 | e1
          ·exact ⟨s,by rw [e1];exact hx⟩
          ·exact ha e e1)
      ·cases h
     ·cases h
 unfold findL at hf
 split at hf
 ·cases hf
 ·split at hf
  ·rename_i b' es' hbk
   split at hf
   ·cases hf
    exact hb _ _ _ _ _ _ hbk (by simp)
   ·cases hf
  ·cases hf
def FromH (hs:List Hd) (chg:List Ent) (i:Nat) (l:Lin):Prop:=l.log=[]∨ ∃h ∈ hs,h.dev=(i:Int)∧CoversH h l.log∧ ∀e ∈ l.log,e ∈ chg
theorem mergeL_from {B H:Int} {l:Lin} {hs:List Hd} {chg:List Ent} {h:Hd} {i:Nat} (hl:GoodL B H (i:Int) l) (hd:h.dev=(i:Int)) (hm:h ∈ hs) (hsg:SignedH B H (nb l.pub) h) (hf:FromH hs chg i l):FromH hs chg i (mergeL l (givenOf chg) h).1:=by
 have hgv: ∀s e,givenOf chg s=some e→ValidE e∧sumE e=s:=fun s e he=>⟨(givenOf_some he).2.1,(givenOf_some he).2.2⟩
 unfold mergeL
 split
 ·exact hf
 ·rename_i b es hfl
  obtain ⟨k1,k2,k3,_⟩:=findL_ok hgv (by rw [hd];exact hl.log) hsg.1.2.2.1 hfl
  split
  ·cases l.fork<;> exact hf
  ·split
   ·exact hf
   ·rename_i hb1 hb2
    by_cases hb:b<h.seq.toNat
    ·refine .inr ⟨h,hm,hd,?_,fun e he=> ?_⟩
     ·simp only [if_pos hb];exact k3
     ·simp only [if_pos hb] at he
      rcases List.mem_append.1 he with h1 | h1
      ·have h2:=List.mem_of_mem_take h1
       rcases hf with h3 | ⟨_,_,_,_,h3⟩
       ·rw [h3] at h2;cases h2
       ·exact h3 e h2
      ·obtain ⟨s,hs⟩:=findL_mem hfl e h1
       exact (givenOf_some hs).1
    ·simp only [if_neg hb]
     have hes:es=[]:=List.eq_nil_of_length_eq_zero (by omega)
     rcases hf with h3 | ⟨h',m1,m2,m3,m4⟩
     ·exact .inl h3
     ·exact .inr ⟨h',m1,m2,m3,m4⟩
theorem foldM_from {B H:Int} {chg:List Ent} {hs0:List Hd}: ∀(hs:List Hd) (ls:List Lin) (n:Nat),GoodS B H ls→(∀h ∈ hs,SmallH h∧h ∈ hs0)→(∀(i:Nat) (h:i<ls.length),FromH hs0 chg i ls[i])→ ∀(i:Nat) (h:i<(hs.foldl (fun q h=>((stepM B H (givenOf chg) q.1 h).1,q.2+(stepM B H (givenOf chg) q.1 h).2)) (ls,n)).1.length),FromH hs0 chg i ((hs.foldl (fun q h=>((stepM B H (givenOf chg) q.1 h).1,q.2+(stepM B H (givenOf chg) q.1 h).2)) (ls,n)).1[i])
 | [],ls,n,_,_,hk=>hk
 | h::hs,ls,n,hl,hh,hk=>by
   have hgv: ∀s e,givenOf chg s=some e→ValidE e∧sumE e=s:=fun s e he=>⟨(givenOf_some he).2.1,(givenOf_some he).2.2⟩
   obtain ⟨q1,q2⟩:=hh h (List.mem_cons_self ..)
   have hm:=(stepM_good hgv hl q1).1
   have hstep: ∀(i:Nat) (hi:i<(stepM B H (givenOf chg) ls h).1.length),FromH hs0 chg i ((stepM B H (givenOf chg) ls h).1[i]):=by
    unfold stepM
    cases e:ls[h.dev.toNat]? with
    | none=>exact hk
    | some l=>
      simp only
      split
      ·rename_i hc
       obtain ⟨hd,rfl⟩:=List.getElem?_eq_some_iff.1 e
       have hdv:h.dev=((h.dev.toNat:Nat):Int):=(Int.toNat_of_nonneg hc.1).symm
       intro i hi
       by_cases ei:h.dev.toNat=i
       ·subst ei
        rw [List.getElem_set_self]
        exact mergeL_from (hl.good _ hd) hdv q2 hc.2 (hk _ hd)
       ·rw [List.getElem_set_ne ei]
        exact hk i (by simpa using hi)
      ·exact hk
   simp only [List.foldl_cons]
   exact foldM_from hs _ _ hm (fun x hx=>hh x (List.mem_cons_of_mem _ hx)) hstep
theorem forged_sum {B H:Int} {ls ls':List Lin} {entry old:Ent} {at':Nat} {hs:List Hd} (hg:GoodS B H ls) (hl3:ls.length=3) (hat:at'<(missE ls [] 3).length) (hold:(missE ls [] 3)[at']=old) (hhs: ∀h ∈ hs,h ∈ missH ls [] 3) {d:Nat} (hd:old.dev=(d:Int)) (hd':d<ls'.length) (hf:FromH hs ((missE ls [] 3).set at' entry) d ls'[d]) (hlen:old.seq≤((ls'[d].log.length:Nat):Int)):ValidE old∧ValidE entry∧sumE entry=sumE old:=by
 obtain ⟨hmem,hbef⟩:=missE_bef hg 3 (by omega)
 have hEnt: ∀e ∈ missE ls [] 3,∀(i:Nat),e.dev=(i:Int)→ ∃(hi:i<ls.length) (p:Nat) (hp:p<(ls[i].log.take ls[i].sealed').length),(ls[i].log.take ls[i].sealed')[p]=e∧e.seq=((p+1:Nat):Int):=fun e he i hi=>by
  obtain ⟨j,hj,_,h1,h2⟩:=hmem e he
  have hij:j=i:=by omega
  subst hij
  obtain ⟨p,hp,h3⟩:=List.getElem_of_mem h2
  exact ⟨hj,p,hp,h3,by rw [← h3];exact ((hg.good j hj).log.take _ p hp).2.1⟩
 have hom:old ∈ missE ls [] 3:=by rw [← hold];exact List.getElem_mem _
 obtain ⟨hdl,q,hq,hq1,hq2⟩:=hEnt old hom d hd
 have hL0:=(hg.good d hdl).log.take ls[d].sealed'
 obtain ⟨L0,hL0e⟩: ∃L0,L0=ls[d].log.take ls[d].sealed':=⟨_,rfl⟩
 have hvo:ValidE old:=by rw [← hq1];exact (hL0 q hq).2.2.1
 rcases hf with hnil | ⟨h,hh,hdev,hcov,hall⟩
 ·rw [hnil] at hlen;simp at hlen;omega
 ·obtain ⟨j,hj,_,hne,rfl⟩:=missH_mem2 (hhs h hh)
  obtain ⟨g1,g2,g3⟩:=(hg.good j hj).head hne
  have hjd:j=d:=by omega
  subst hjd
  obtain ⟨L,hL⟩: ∃L,L=ls'[j].log:=⟨_,rfl⟩
  rw [← hL] at hcov hall hlen
  have hlenE:L.length=(ls[j].log.take ls[j].sealed').length:=by have h1:=hcov.len;have h2:=g3.len;omega
  have hLk:=hcov.log
  have hqL:q<L.length:=by omega
  -- what stands at the place of the old entry
  have hat2:L[q]=entry:=by
   obtain ⟨m,hm,hm2⟩:=List.getElem_of_mem (hall _ (List.getElem_mem hqL))
   rw [List.length_set] at hm
   rw [List.getElem_set] at hm2
   split at hm2
   ·exact hm2.symm
   ·rename_i hmne
    have e1:((missE ls [] 3)[m]).dev=old.dev:=by rw [hm2,(hLk q hqL).1,g1];exact hd.symm
    have e2:((missE ls [] 3)[m]).seq=old.seq:=by rw [hm2,(hLk q hqL).2.1,hq2]
    rcases Nat.lt_or_gt_of_ne hmne with h1 | h1
    ·have:=List.pairwise_iff_getElem.1 hbef at' m hat hm h1
     rw [hold] at this
     unfold BefE at this
     omega
    ·have:=List.pairwise_iff_getElem.1 hbef m at' hm hat h1
     rw [hold] at this
     unfold BefE at this
     omega
  have hve:ValidE entry:=by rw [← hat2];exact (hLk q hqL).2.2.1
  refine ⟨hvo,hve,?_⟩
  have hes:entry.seq=((q+1:Nat):Int):=by rw [← hat2];exact (hLk q hqL).2.1
  by_cases hlast:q+1=L.length
  ·have h1:=hcov.last (by omega)
   have h2:=g3.last (by omega)
   have e1:L[L.length - 1]'(by omega)=L[q]:=by congr 1;omega
   have e2:(ls[j].log.take ls[j].sealed')[(ls[j].log.take ls[j].sealed').length - 1]'(by omega)=(ls[j].log.take ls[j].sealed')[q]:=by congr 1;omega
   rw [e1,hat2] at h1
   rw [e2,hq1] at h2
   rw [h1,h2]
  ·have hq3:q+1<L.length:=by omega
   have hnx:L[q+1]=(ls[j].log.take ls[j].sealed')[q+1]'(by omega):=by
    obtain ⟨m,hm,hm2⟩:=List.getElem_of_mem (hall _ (List.getElem_mem hq3))
    rw [List.length_set] at hm
    rw [List.getElem_set] at hm2
    split at hm2
    ·have:=(hLk (q+1) hq3).2.1
     rw [← hm2,hes] at this
     omega
    ·obtain ⟨_,p,hp,h1,h2⟩:=hEnt _ (List.getElem_mem hm) j (by rw [hm2,(hLk (q+1) hq3).1,g1])
     rw [hm2,(hLk (q+1) hq3).2.1] at h2
     have hpq:p=q+1:=by omega
     subst hpq
     rw [h1,hm2]
   have h1:=((hLk (q+1) hq3).2.2.2 q rfl).1
   have h2:=((hL0 (q+1) (by omega)).2.2.2 q rfl).1
   rw [hnx,hat2] at h1
   rw [hq1] at h2
   rw [← h1,← h2]
theorem missH_one {B H:Int} {ls:List Lin} (hg:GoodS B H ls): ∀n,n≤ls.length→(missH ls [] n).Pairwise (fun a b=>a.dev≠b.dev)∧ ∀h ∈ missH ls [] n,∃(i:Nat) (hi:i<ls.length),i<n∧h.dev=(i:Int)
 | 0,_=>by simp [missH]
 | n+1,hn=>by
   obtain ⟨h1,h2⟩:=missH_one hg n (by omega)
   have hp: ∀h ∈ partH ls [] n,h.dev=(n:Int):=fun h hh=>by
    rw [partH_at (by omega)] at hh
    split at hh
    ·rw [List.mem_singleton.1 hh]
     exact ((hg.good n (by omega)).head (by omega)).1
    ·cases hh
   have hpp:(partH ls [] n).Pairwise (fun a b=>a.dev≠b.dev):=by
    rw [partH_at (by omega)]
    split
    ·exact List.pairwise_singleton _ _
    ·exact List.Pairwise.nil
   rw [missH_succ]
   refine ⟨List.pairwise_append.2 ⟨h1,hpp,fun a ha b hb=> ?_⟩,fun h hh=> ?_⟩
   ·obtain ⟨i,hi,h3,h4⟩:=h2 a ha
    rw [h4,hp b hb]
    omega
   ·rcases List.mem_append.1 hh with h3 | h3
    ·obtain ⟨i,hi,h4,h5⟩:=h2 h h3
     exact ⟨i,hi,by omega,h5⟩
    ·exact ⟨n,by omega,Nat.lt_succ_self _,hp h h3⟩
theorem mergeL_nofork {l:Lin} {gv:List Nat→Option Ent} {h:Hd} (hs:l.sealed'=0) (hf:l.fork=none):(mergeL l gv h).1.fork=none:=by
 unfold mergeL
 split
 ·exact hf
 ·split
  ·rename_i h1
   rw [hs] at h1
   omega
  ·split
   ·exact hf
   ·exact hf
theorem foldM_nofork {B H:Int} {gv:List Nat→Option Ent}: ∀(hs:List Hd) (ls:List Lin) (n:Nat),hs.Pairwise (fun a b=>a.dev≠b.dev)→(∀(i:Nat) (h:i<ls.length),ls[i].fork=none∧((∃x ∈ hs,x.dev=(i:Int))→ls[i].sealed'=0))→ ∀l ∈ (hs.foldl (fun q h=>((stepM B H gv q.1 h).1,q.2+(stepM B H gv q.1 h).2)) (ls,n)).1,l.fork=none
 | [],ls,n,_,hk=>fun l hl=>by
   obtain ⟨i,hi,rfl⟩:=List.getElem_of_mem hl
   exact (hk i hi).1
 | h::hs,ls,n,hp,hk=>by
   obtain ⟨p1,p2⟩:=List.pairwise_cons.1 hp
   rw [List.foldl_cons]
   refine foldM_nofork hs _ _ p2 ?_
   unfold stepM
   cases e:ls[h.dev.toNat]? with
   | none=>exact fun i hi=>⟨(hk i hi).1,fun ⟨x,hx,he⟩=>(hk i hi).2 ⟨x,List.mem_cons_of_mem _ hx,he⟩⟩
   | some l=>
     simp only
     split
     ·rename_i hc
      obtain ⟨hd,rfl⟩:=List.getElem?_eq_some_iff.1 e
      have hdv:h.dev=((h.dev.toNat:Nat):Int):=(Int.toNat_of_nonneg hc.1).symm
      intro i hi
      have hi':i<ls.length:=by simpa using hi
      by_cases ei:h.dev.toNat=i
      ·subst ei
       simp only [List.getElem_set_self]
       exact ⟨mergeL_nofork ((hk _ hd).2 ⟨h,List.mem_cons_self ..,hdv⟩) (hk _ hd).1,fun ⟨x,hx,he⟩=>absurd (hdv.trans he.symm) (p1 x hx)⟩
      ·simp only [List.getElem_set_ne ei]
       exact ⟨(hk i hi').1,fun ⟨x,hx,he⟩=>(hk i hi').2 ⟨x,List.mem_cons_of_mem _ hx,he⟩⟩
     ·exact fun i hi=>⟨(hk i hi).1,fun ⟨x,hx,he⟩=>(hk i hi).2 ⟨x,List.mem_cons_of_mem _ hx,he⟩⟩
theorem foldM_none {B H:Int} {gv:List Nat→Option Ent} {ls:List Lin} {hs:List Hd} {h:Hd} (hp:hs.Perm [h]) (hn: ∀(i:Nat) (hi:i<ls.length),h.dev=(i:Int)→ ¬SignedH B H (nb ls[i].pub) h):foldM B H gv ls hs=(ls,0):=by
 rw [List.perm_singleton.1 hp]
 unfold foldM stepM
 simp only [List.foldl_cons,List.foldl_nil]
 cases e:ls[h.dev.toNat]? with
 | none=>rfl
 | some l=>
   obtain ⟨hd,rfl⟩:=List.getElem?_eq_some_iff.1 e
   simp only
   rw [if_neg (fun hc=>hn _ hd (Int.toNat_of_nonneg hc.1).symm hc.2)]
   rfl
end Go.Proofs.YtndlihclgdkpaaaGreatDoor
