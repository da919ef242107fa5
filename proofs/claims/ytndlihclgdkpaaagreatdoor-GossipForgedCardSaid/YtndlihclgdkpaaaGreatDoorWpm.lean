/- Missing, dropped and Merge in a world. -/
import Derived.Test.YtndlihclgdkpaaaGreatDoorWpw
import Derived.Test.YtndlihclgdkpaaaGreatDoorWdr
import Derived.Test.YtndlihclgdkpaaaGreatDoorGmm
import Derived.Test.YtndlihclgdkpaaaGreatDoorGmv
set_option linter.unusedVariables false
set_option linter.unusedSimpArgs false
open Go.Lib (hid)
namespace Go.Proofs.YtndlihclgdkpaaaGreatDoor
open Go.RowKit
open Kit (Chg)
open Sha (v)
open Go.Proofs.YtndlihclgdkpaaaGreatDoor.One

theorem own_six {α:Type} {f:α→List Value} (hf: ∀x,(f x).length=6) {w:World} {base n:Nat} {T:TypeId} {v:Value} {xs:List α} (h:w.ownsRow base T 6 v n (sixes f xs)): ∃a c,v= .slice a xs.length c∧((a=none∧xs=[])∨ ∃b o,a=some ⟨b,o,none⟩∧ ∀j u,(sixes f xs)[j]? =some u→w.cell? ⟨b,o+j,none⟩=some u):=by
 have hn:n=xs.length:=by have:=h.1;rw [sixes_len hf] at this;omega
 subst hn
 rcases h.2 with ⟨rfl,h0⟩ | ⟨g,cap,cur,rfl,hbg,hg,hnc,hcm,hcs,htake⟩
 ·exact ⟨none,0,by rw [h0],.inl ⟨rfl,List.eq_nil_of_length_eq_zero h0⟩⟩
 ·refine ⟨some ⟨g,0,none⟩,cap,rfl,.inr ⟨g,0,rfl,fun j u hu=> ?_⟩⟩
  have hj:j<xs.length*6:=by
   have:=(List.getElem?_eq_some_iff.1 hu).1
   rwa [sixes_len hf] at this
  rw [Nat.zero_add,cell_of_row _ _ _ _ _ _ hg]
  rw [← htake,List.getElem?_take_of_lt hj] at hu
  simpa using hu
set_option maxRecDepth 100000 in
theorem merge_large (p:Nat) (a1:Option Addr) (c1 LE:Nat) (a2:Option Addr) (c2 LH:Nat) (hE:4096<LE) (w:World):Calls Tryz.prog 61 #[.pointer (some ⟨p,0,none⟩),.slice a1 LE c1,.slice a2 LH c2] w fun e w'=>e= .returned (.tuple #[.int .i64 0,.int .i64 2])∧w=w':=by
 have h1:(4096:Int)<(LE:Int):=by omega
 go_enter Tryz.func61,Tryz.ntmps61
 go_wp2
 go_ret2
 exact ⟨rfl,rfl⟩
theorem missE_mem {ls:List Lin} {zs:List Nat} {k:Nat} {e:Ent} (h:e ∈ missE ls zs k): ∃l ∈ ls,e ∈ l.log:=by
 unfold missE at h
 obtain ⟨i,_,hi⟩:=List.mem_flatMap.1 h
 unfold partE at hi
 cases hl:ls[i]? with
 | none=>rw [hl] at hi;cases hi
 | some l=>
   rw [hl] at hi
   simp only at hi
   split at hi
   ·exact ⟨l,List.mem_of_getElem? hl,List.mem_of_mem_take (List.mem_of_mem_drop hi)⟩
   ·cases hi
theorem missH_mem2 {ls:List Lin} {zs:List Nat} {k:Nat} {x:Hd} (h:x ∈ missH ls zs k): ∃(i:Nat) (hi:i<ls.length),i<k∧ls[i].sealed'≠0∧x=ls[i].head:=by
 unfold missH at h
 obtain ⟨i,hik,hi⟩:=List.mem_flatMap.1 h
 unfold partH at hi
 cases hl:ls[i]? with
 | none=>rw [hl] at hi;cases hi
 | some l=>
   rw [hl] at hi
   simp only at hi
   obtain ⟨h1,h2⟩:=List.getElem?_eq_some_iff.1 hl
   split at hi
   ·exact ⟨i,h1,List.mem_range.1 hik,by rw [h2];omega,by rw [h2];simpa using hi⟩
   ·cases hi
def LenH (lss:Nat→List Lin) (h:Hd):Prop:= ∀K:Nat,(∀i,i<3→ ∀l ∈ lss i,l.log.length≤K)→h.seq≤(K:Int)
theorem mergeL_len {B H d:Int} {l:Lin} {gv:List Nat→Option Ent} {h:Hd} {K:Nat} (hg: ∀s e,gv s=some e→ValidE e∧sumE e=s) (hl:GoodL B H d l) (hd:h.dev=d) (hs:SignedH B H (nb l.pub) h) (h1:l.log.length≤K) (h2:h.seq≤(K:Int)):(mergeL l gv h).1.log.length≤K:=by
 unfold mergeL
 split
 ·exact h1
 ·rename_i b es hf
  obtain ⟨k1,_,_,_⟩:=findL_ok hg (by rw [hd];exact hl.log) hs.1.2.2.1 hf
  split
  ·cases l.fork<;> exact h1
  ·split
   ·exact h1
   ·show (if b<h.seq.toNat then l.log.take b++es else l.log).length≤K
    split
    ·rw [List.length_append,List.length_take];omega
    ·exact h1
theorem foldM_len {B H:Int} {gv:List Nat→Option Ent} {K:Nat} (hg: ∀s e,gv s=some e→ValidE e∧sumE e=s): ∀(hs:List Hd) (ls:List Lin) (n:Nat),GoodS B H ls→(∀h ∈ hs,SmallH h∧h.seq≤(K:Int))→(∀l ∈ ls,l.log.length≤K)→ ∀l ∈ (hs.foldl (fun q h=>((stepM B H gv q.1 h).1,q.2+(stepM B H gv q.1 h).2)) (ls,n)).1,l.log.length≤K
 | [],ls,n,_,_,hk=>hk
 | h::hs,ls,n,hl,hh,hk=>by
   rw [List.foldl_cons]
   obtain ⟨q1,q2⟩:=hh h (List.mem_cons_self ..)
   refine foldM_len hg hs _ _ (stepM_good hg hl q1).1 (fun x hx=>hh x (List.mem_cons_of_mem _ hx)) ?_
   unfold stepM
   cases e:ls[h.dev.toNat]? with
   | none=>exact hk
   | some l=>
     simp only
     split
     ·rename_i hc
      obtain ⟨hd,rfl⟩:=List.getElem?_eq_some_iff.1 e
      have hdv:h.dev=((h.dev.toNat:Nat):Int):=(Int.toNat_of_nonneg hc.1).symm
      intro l2 hl2
      rcases List.mem_or_eq_of_mem_set hl2 with h1 | h1
      ·exact hk l2 h1
      ·rw [h1]
       exact mergeL_len hg (hl.good _ hd) hdv hc.2 (hk _ (List.getElem_mem hd)) q2
     ·exact hk
section
variable {w w':World} {G:Nat→Nat} {N P b t:Nat} {pks sds:List ByteArray} {gs ps:List Nat} {lss:Nat→List Lin} {nx:Nat→Nat} {vp vs vt:Value}
theorem WI.merge {M:Nat} {v1 v2:Value} {xs:List EV} {ys:List HV} (h:WI w G N P b t pks sds gs ps lss nx vp vs vt) (i1:Nat) (hi1:i1<3) (hM: ∀q,M≤q→G q=0) (hg:Got w M v1 v2 xs ys) (hY:ys.length≤19) (hxb: ∀x ∈ xs,x.e.body.length≤1000000000) (hys: ∀y ∈ ys,SmallH y.h∧LenH lss y.h):
    Calls Tryz.prog 61 #[.pointer (some ⟨ps.getD i1 0,0,none⟩),v1,v2] w fun e w'=> ∃(m er:Int),e= .returned (.tuple #[.int .i64 m,.int .i64 er])∧PlayO w w' G N P b t pks sds gs ps lss nx vp vs vt:=by
 obtain ⟨a1,c1,rfl,hE⟩:=own_six (f:=EV.cells) (fun _=>rfl) hg.es
 obtain ⟨a2,c2,rfl,hH⟩:=own_six (f:=HV.cells) (fun _=>rfl) hg.hs
 by_cases hl:xs.length≤4096
 ·refine (storeMerge_any (s:=8+52*i1) xs ys a1 c1 xs.length a2 c2 ys.length rfl rfl hl hY (by rw [h.len i1 hi1];decide) (by omega) h.three (h.good i1 hi1) w hE hH (fun x hx=>⟨⟨(hg.ne x hx).1,(hg.ne x hx).2.1,fun _ ad e=>hM _ ((hg.ne x hx).2.2 ad e)⟩,hxb x hx⟩) (fun y hy=>⟨⟨(hg.nh y hy).1,(hg.nh y hy).2.1,fun _ ad e=>hM _ ((hg.nh y hy).2.2.1 ad e),fun _ ad e=>hM _ ((hg.nh y hy).2.2.2 ad e)⟩,(hys y hy).1.big⟩) (h.wd.st i1 hi1) h.wd.own h.laid).mono ?_
  rintro e w2 ⟨G',hs,gr,rfl,k1,k2,k3,k4,k5,k6⟩
  have hT0: ¬MT (8+52*i1) 0:=fun e=>by have:=e.1;omega
  have hT7: ¬MT (8+52*i1) 7:=fun e=>by have:=e.1;omega
  have hTr: ∀x,MT (8+52*i1) x→8+52*i1≤x∧x≤8+52*i1+50:=fun x e=>⟨Nat.le_of_lt e.1,e.2⟩
  obtain ⟨g1,g2⟩:=foldM_good (gv:=givenOf (xs.map EV.e)) (fun s e he=>⟨(givenOf_some he).2.1,(givenOf_some he).2.2⟩) (h.good i1 hi1) hs (fun x hx=>by
   obtain ⟨y,hy,rfl⟩:=List.mem_map.1 (k1.mem_iff.1 hx)
   exact (hys y hy).1)
  exact ⟨_,0,rfl,PlayO.one h hi1 (h.wd.upd i1 hi1 k5 hT0 hT7 hTr k3 k4 k6 h.len) (k5.mono fun q hq=>by have:=hTr q hq;omega) g1 g2 (h.laid.low (k5.below h.wd.own hT0 hT7) h.three) (fun K hK l hl=>Nat.le_succ_of_le (foldM_len (fun s e he=>⟨(givenOf_some he).2.1,(givenOf_some he).2.2⟩) hs (lss i1) 0 (h.good i1 hi1) (fun x hx=>by
   obtain ⟨y,hy,rfl⟩:=List.mem_map.1 (k1.mem_iff.1 hx)
   exact ⟨(hys y hy).1,(hys y hy).2 K hK⟩) (hK i1 hi1) l hl))⟩
 ·refine (merge_large _ a1 c1 xs.length a2 c2 ys.length (by omega) w).mono ?_
  rintro e w2 ⟨rfl,rfl⟩
  exact ⟨0,2,rfl,PlayO.same h (Below.refl _ _)⟩
theorem WI.missing (h:WI w G N P b t pks sds gs ps lss nx vp vs vt) (i0:Nat) (hi0:i0<3) (av:Option Addr) (cv LV:Nat) (zs:List Nat) (hLV:zs.length=LV) (hz:LV≤3) (hZ:IntsAt w av zs):
    Calls Tryz.prog 58 #[.pointer (some ⟨ps.getD i0 0,0,none⟩),.slice av LV cv] w fun e w'=> ∃(v7 v8:Value) (xs:List EV) (ys:List HV),e= .returned (.tuple #[v7,v8,.int .i64 0])∧Got w' w.heap.size v7 v8 xs ys∧xs.map EV.e=missE (lss i0) zs 3∧ys.map HV.h=missH (lss i0) zs 3∧xs.length≤12288∧ys.length≤3∧(∀x ∈ xs,x.e.body.length≤1000000000)∧(∀y ∈ ys,SmallH y.h∧LenH lss y.h)∧Below w.heap.size w w':=by
 have hln:=h.len i0 hi0
 refine (missing_ok av cv LV zs hLV (by rw [hln];exact hz) (by rw [hln];decide) (h.good i0 hi0).miss w hZ (h.wd.st i0 hi0)).mono ?_
 rintro e w2 ⟨v7,v8,xs,ys,rfl,k1,k2,k3,k4⟩
 rw [hln] at k2 k3
 refine ⟨v7,v8,xs,ys,rfl,k1,k2,k3,?_,?_,fun x hx=> ?_,fun y hy=> ?_,k4⟩
 ·have h1:=congrArg List.length k2
  have h2:=missE_len (lss i0) zs 4096 (fun l hl=>((h.good i0 hi0).miss l hl).1) 3
  rw [List.length_map] at h1
  omega
 ·have h1:=congrArg List.length k3
  have h2:=missH_len (lss i0) zs 3
  rw [List.length_map] at h1
  omega
 ·have h1:x.e ∈ missE (lss i0) zs 3:=by rw [← k2];exact List.mem_map_of_mem hx
  obtain ⟨l,hl,he⟩:=missE_mem h1
  exact ((h.good i0 hi0).miss l hl).2.2.1 _ he
 ·have h1:y.h ∈ missH (lss i0) zs 3:=by rw [← k3];exact List.mem_map_of_mem hy
  obtain ⟨i,hi,_,hne,he⟩:=missH_mem2 h1
  rw [he]
  refine ⟨(h.good i0 hi0).small _ (List.getElem_mem hi),fun K hK=> ?_⟩
  have h2:=((h.good i0 hi0).good i hi).head hne
  have h3:=h2.2.2.len
  rw [List.length_take] at h3
  have h4:=hK i0 hi0 _ (List.getElem_mem hi)
  omega
end
end Go.Proofs.YtndlihclgdkpaaaGreatDoor
