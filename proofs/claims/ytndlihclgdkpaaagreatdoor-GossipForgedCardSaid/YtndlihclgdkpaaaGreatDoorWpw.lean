/- What Append and Seal do in a world. -/
import Derived.Test.YtndlihclgdkpaaaGreatDoorWup
import Derived.Test.YtndlihclgdkpaaaGreatDoorWap
set_option linter.unusedVariables false
set_option linter.unusedSimpArgs false
open Go.Lib (hid)
namespace Go.Proofs.YtndlihclgdkpaaaGreatDoor
open Go.RowKit
open Kit (Chg)
open Sha (v)
open Go.Proofs.YtndlihclgdkpaaaGreatDoor.One

def LenG (lss lss':Nat→List Lin):Prop:= ∀K:Nat,(∀i,i<3→ ∀l ∈ lss i,l.log.length≤K)→ ∀i,i<3→ ∀l ∈ lss' i,l.log.length≤K+1
def PlayO (w w':World) (G:Nat→Nat) (N P:Nat) (b t:Nat) (pks sds:List ByteArray) (gs ps:List Nat) (lss:Nat→List Lin) (nx:Nat→Nat) (vp vs vt:Value):Prop:= ∃(G':Nat→Nat) (lss':Nat→List Lin) (nx':Nat→Nat),WI w' G' N P b t pks sds gs ps lss' nx' vp vs vt∧Step G G' (fun q=>7≤q) w w'∧(∀i,i<3→KeptS (lss i) (lss' i))∧LenG lss lss'
section
variable {w w':World} {G:Nat→Nat} {N P b t:Nat} {pks sds:List ByteArray} {gs ps:List Nat} {lss:Nat→List Lin} {nx:Nat→Nat} {vp vs vt:Value}
theorem PlayO.same (h:WI w G N P b t pks sds gs ps lss nx vp vs vt) (hb:Below w.heap.size w w'):PlayO w w' G N P b t pks sds gs ps lss nx vp vs vt:=
 ⟨G,lss,nx,h.later hb,Step.of_below hb G _,fun i _=>KeptS.refl _,fun K h i hi l hl=>Nat.le_succ_of_le (h i hi l hl)⟩
theorem PlayO.one {G':Nat→Nat} {nx':Nat→Nat} {i0:Nat} {ls':List Lin} (h:WI w G N P b t pks sds gs ps lss nx vp vs vt) (hi0:i0<3) (hw:World3 w' G' N P b t pks sds gs ps (fun i=>if i=i0 then ls' else lss i) nx' vp vs vt) (hs:Step G G' (fun q=>7≤q) w w') (hg:GoodS (b:Int) (t:Int) ls') (hk:KeptS (lss i0) ls') (hL:Laid w') (hq: ∀K:Nat,(∀i,i<3→ ∀l ∈ lss i,l.log.length≤K)→ ∀l ∈ ls',l.log.length≤K+1):PlayO w w' G N P b t pks sds gs ps lss nx vp vs vt:=by
 refine ⟨G',_,nx',⟨hw,fun i hi=> ?_,fun i hi=> ?_,fun i hi d hd hh=> ?_,hL,h.three,h.threeP⟩,hs,fun i hi=> ?_,fun K hK i hi l hl=> ?_⟩
 ·by_cases e:i=i0
  ·rw [if_pos e];exact hg
  ·rw [if_neg e];exact h.good i hi
 ·by_cases e:i=i0
  ·rw [if_pos e,hk.len];exact h.len i0 hi0
  ·rw [if_neg e];exact h.len i hi
 ·by_cases e:i=i0
  ·subst e
   simp only [if_true] at hh ⊢
   rw [(hk.line d (by rw [h.len i hi];exact hd) hh).2.2]
   exact h.pub i hi d hd _
  ·simp only [if_neg e] at hh ⊢
   exact h.pub i hi d hd hh
 ·by_cases e:i=i0
  ·subst e
   rw [if_pos rfl];exact hk
  ·rw [if_neg e];exact KeptS.refl _
 ·by_cases e:i=i0
  ·simp only [if_pos e] at hl
   exact hq K hK l hl
  ·simp only [if_neg e] at hl
   exact Nat.le_succ_of_le (hK i hi l hl)
theorem set_len {ls:List Lin} {d K:Nat} {l0:Lin} (h1: ∀l ∈ ls,l.log.length≤K) (h2:l0.log.length≤K+1): ∀l ∈ ls.set d l0,l.log.length≤K+1:=fun l hl=>by
 rcases List.mem_or_eq_of_mem_set hl with h | h
 ·exact Nat.le_succ_of_le (h1 l h)
 ·rw [h];exact h2
theorem WI.append (h:WI w G N P b t pks sds gs ps lss nx vp vs vt) (i0 d:Nat) (hi0:i0<3) (hd:d<3) (kd dy:Int) (a:Option Addr) (n c:Nat) (bs:List Nat) (hn:bs.length=n) (hn2:n≤69632) (hB:BytesAt w a bs):
    Calls Tryz.prog 139 #[.pointer (some ⟨ps.getD i0 0,0,none⟩),.int .i64 (d:Int),.int .i64 kd,.int .i64 dy,.slice a n c] w fun e w'=> ∃(x:EV) (er:Int),e= .returned (.tuple #[.agg #[.int .i64 x.e.dev,.int .i64 x.e.seq,.int .i64 x.e.kind,.int .i64 x.e.day,.slice x.a x.e.body.length x.c,.string x.e.prev],.int .i64 er])∧PlayO w w' G N P b t pks sds gs ps lss nx vp vs vt:=by
 have hdl:d<(lss i0).length:=by rw [h.len i0 hi0];exact hd
 have hl3:(lss i0).length≤12:=by rw [h.len i0 hi0];decide
 have hst:=h.wd.st i0 hi0
 have hzero: ∀(er:Int) {e:Ending} {w2:World},e= .returned (.tuple #[.agg #[.int .i64 0,.int .i64 0,.int .i64 0,.int .i64 0,.slice none 0 0,.string ByteArray.empty],.int .i64 er])∧Below w.heap.size w w2→ ∃(x:EV) (er:Int),e= .returned (.tuple #[.agg #[.int .i64 x.e.dev,.int .i64 x.e.seq,.int .i64 x.e.kind,.int .i64 x.e.day,.slice x.a x.e.body.length x.c,.string x.e.prev],.int .i64 er])∧PlayO w w2 G N P b t pks sds gs ps lss nx vp vs vt:=fun er e w2 ⟨h1,h2⟩=>
  ⟨⟨⟨0,0,0,0,[],ByteArray.empty⟩,none,0⟩,er,h1,PlayO.same h h2⟩
 by_cases hk:1≤kd∧kd≤9
 ·by_cases hy:0≤dy∧dy≤999999
  ·obtain ⟨k,rfl⟩: ∃k:Nat,kd=(k:Int):=⟨kd.toNat,by omega⟩
   obtain ⟨y,rfl⟩: ∃y:Nat,dy=(y:Int):=⟨dy.toNat,by omega⟩
   have hk':1≤k∧k≤9:=by omega
   have hy':y≤999999:=by omega
   have hgd:=(h.good i0 hi0).good d hdl
   by_cases hday: ∀e,((lss i0)[d]'hdl).log.getLast? =some e→e.day≤(y:Int)
   ·by_cases hf:((lss i0)[d]'hdl).log.length<4096
    ·refine (append_ok d k y hdl (by omega) hk' hy' a n c bs hn hn2 hday hf hl3 (by omega) w hB hst h.wd.own h.laid).mono ?_
     rintro e w2 ⟨a9,cp9,G',rfl,h1,h2,h3,h4,_,_,_⟩
     refine ⟨⟨⟨(d:Int),_,(k:Int),(y:Int),bs,_⟩,a9,cp9⟩,0,by rw [hn],?_⟩
     have hT0: ¬TagS (8+52*i0) d 0:=fun e=>by rcases e with e | e<;> omega
     have hT7: ¬TagS (8+52*i0) d 7:=fun e=>by rcases e with e | e<;> omega
     have hTr: ∀x,TagS (8+52*i0) d x→8+52*i0≤x∧x≤8+52*i0+50:=fun x e=>by rcases e with e | e<;> omega
     have hs0:Step G G' (fun q=>7≤q) w w2:=h3.mono fun q hq=>by have:=hTr q hq;omega
     refine PlayO.one h hi0 (h.wd.upd i0 hi0 h3 hT0 hT7 hTr h1 h2 h4 h.len) hs0 ?_ ?_ ?_ (fun K hK=>set_len (hK i0 hi0) (by show (_++[_]).length≤_;rw [List.length_append,List.length_singleton];exact Nat.succ_le_succ (hK i0 hi0 _ (List.getElem_mem hdl))))
     ·exact (h.good i0 hi0).set d _ (appL_good hgd (by omega) hk' hy' (by omega) hf hday) ((h.good i0 hi0).small ((lss i0)[d]'hdl) (List.getElem_mem hdl):SmallL ((lss i0)[d]'hdl))
     ·exact KeptS.set d _ hdl (appL_keep hgd.sealed)
     ·exact h.laid.low (h3.below h.wd.own hT0 hT7) h.three
    ·exact (append_full d k y hdl (by omega) hk' hy' a n c bs hn hn2 hday (by have:=hgd.most;omega) hl3 (by omega) w hB hst h.wd.own h.laid).mono fun e w2 hh=>hzero 7 hh
   ·have hday': ∃e,((lss i0)[d]'hdl).log.getLast? =some e∧(y:Int)<e.day:=by
       have h1: ∃e,¬(((lss i0)[d]'hdl).log.getLast? =some e→e.day≤(y:Int)):=Classical.not_forall.1 hday
       obtain ⟨e,he⟩:=h1
       have h2:=Classical.not_imp.1 he
       exact ⟨e,h2.1,by omega⟩
    exact (append_day d k y hdl (by omega) hk' hy' a n c bs hn hn2 hday' hgd.most hl3 (by omega) w hB hst h.wd.own h.laid).mono fun e w2 hh=>hzero 13 hh
  ·exact (append_bad2 d hdl kd dy hk hy hl3 a n c w hst).mono fun e w2 hh=>hzero 1 hh
 ·exact (append_bad1 d hdl kd dy hk hl3 a n c w hst).mono fun e w2 hh=>hzero 1 hh
theorem WI.sealing (h:WI w G N P b t pks sds gs ps lss nx vp vs vt) (hB4:b≤4) (i0 d:Nat) (hi0:i0<3) (hd:d<3):
    Calls Tryz.prog 140 #[.pointer (some ⟨ps.getD i0 0,0,none⟩),.int .i64 (d:Int),.pointer (some ⟨gs.getD d 0,0,none⟩)] w fun e w'=> ∃(x:HV) (er:Int),e= .returned (.tuple #[.agg #[.int .i64 x.h.dev,.int .i64 x.h.seq,.string x.h.sum,.int .i64 x.h.idx,.slice x.a1 x.h.ps.length x.c1,.slice x.a2 x.h.qs.length x.c2],.int .i64 er])∧PlayO w w' G N P b t pks sds gs ps lss nx vp vs vt:=by
 have hdl:d<(lss i0).length:=by rw [h.len i0 hi0];exact hd
 have hl3:(lss i0).length≤12:=by rw [h.len i0 hi0];decide
 have hst:=h.wd.st i0 hi0
 have hgd:=(h.good i0 hi0).good d hdl
 have hsm:=(h.good i0 hi0).small _ (List.getElem_mem hdl)
 obtain ⟨SB,hsg⟩:=h.wd.sg d hd
 have hg0:=h.wd.gtag d hd
 have hpk:=h.pub i0 hi0 d hd hdl
 have hzero: ∀(er:Int) {e:Ending} {w2:World},e= .returned (.tuple #[.agg #[.int .i64 0,.int .i64 0,.string ByteArray.empty,.int .i64 0,.slice none 0 0,.slice none 0 0],.int .i64 er])∧Below w.heap.size w w2→ ∃(x:HV) (er:Int),e= .returned (.tuple #[.agg #[.int .i64 x.h.dev,.int .i64 x.h.seq,.string x.h.sum,.int .i64 x.h.idx,.slice x.a1 x.h.ps.length x.c1,.slice x.a2 x.h.qs.length x.c2],.int .i64 er])∧PlayO w w2 G N P b t pks sds gs ps lss nx vp vs vt:=fun er e w2 ⟨h1,h2⟩=>
  ⟨hvZero,er,h1,PlayO.same h h2⟩
 by_cases hne:((lss i0)[d]'hdl).log=[]
 ·exact (seal_empty d hdl (by omega) hl3 (by omega) hpk hne w hst h.wd.own hsg hg0 h.laid).mono fun e w2 hh=>hzero 4 hh
 ·by_cases hse:((lss i0)[d]'hdl).sealed'=((lss i0)[d]'hdl).log.length
  ·refine (seal_same d hdl (by omega) hl3 (by omega) hpk hne hse hgd.most hsm w hst h.wd.own hsg hg0 h.laid).mono ?_
   rintro e w2 ⟨x,h1,h2⟩
   exact ⟨x,0,h1,PlayO.same h h2⟩
  ·have hlt:((lss i0)[d]'hdl).sealed'<((lss i0)[d]'hdl).log.length:=by have:=hgd.sealed;omega
   by_cases hnx:nx d<2 ^ t
   ·refine (seal_ok d hdl (by omega) hl3 (by omega) hnx hpk hne hlt hgd.most w hst h.wd.own hsg hg0 h.laid).mono ?_
    rintro e w2 ⟨x,rfl,k1,k2,k3,k4,k5,k6,k7,k8,k9,k10,k11,k12⟩
    have hT0: ¬TagZ (8+52*i0) d 0:=fun e=>by rcases e with (e | e) | e<;> omega
    have hL1:1≤((lss i0)[d]'hdl).log.length:=List.length_pos_iff.2 hne
    have hsx:SignedH (b:Int) (t:Int) (nb (pks.getD d ByteArray.empty)) x.h:=seal_signed hsg.bits hB4 hsg.height hnx hsg.pk (by omega) hL1 hgd.most hne k1 k2 k3 k4 k5 k6
    have hxs:x.h.ps.length≤100000000∧x.h.qs.length≤100000000:=by
     have h1:=congrArg List.length k5
     have h2:=congrArg List.length k6
     rw [List.length_map,sigParts_len b hsg.bits _ _ _ (headDg_len _ _ _)] at h1
     rw [List.length_map,sigPath_len] at h2
     have:=count_max hsg.bits;have:=hsg.height
     omega
    refine ⟨x,0,rfl,PlayO.one h hi0 (h.wd.sealed i0 d hi0 hd k10 k8 k9 k11 k12 h.len) (k10.mono fun q hq=>by rcases hq with (e | e) | e<;> omega) ?_ ?_ ?_ (fun K hK=>set_len (hK i0 hi0) (Nat.le_succ_of_le (hK i0 hi0 ((lss i0)[d]'hdl) (List.getElem_mem hdl))))⟩
    ·exact (h.good i0 hi0).set d _ (sealL_good hgd hne k1 k2 k3 (by rw [hpk];exact hsx)) hxs
    ·exact KeptS.set d _ hdl (sealL_keep hgd.sealed)
    ·refine h.laid.low (N:=3) (k10.chg.below (Nat.le_trans h.three h.wd.own.size) (fun q i hq hm=> ?_)) (by decide)
     have hq3:q<N:=by have:=h.three;omega
     rcases h.wd.low q hq3 with e | ⟨j,hj,e⟩
     ·rw [e] at hm;exact hT0 hm
     ·have h1:=h.wd.glo j hj;have:=h.threeP;omega
   ·have hn2:nx d=2 ^ t:=by have:=hsg.next;omega
    rw [hn2] at hsg
    exact (seal_spent d hdl (by omega) hl3 (by omega) hpk hne hlt hgd.most w hst h.wd.own hsg hg0 h.laid).mono fun e w2 hh=>hzero 12 hh
end
end Go.Proofs.YtndlihclgdkpaaaGreatDoor
