/- A fork that a good store keeps is proved: plain. -/
import Derived.Test.YtgfdghoaodlcdaaGreatDoorWup
import Derived.Test.YtgfdghoaodlcdaaGreatDoorVpl
set_option linter.unusedVariables false
set_option linter.unusedSimpArgs false
open Go.Lib (hid)
namespace Go.Proofs.YtgfdghoaodlcdaaGreatDoor
open Go.Proofs.YtgfdghoaodlcdaaGreatDoor.One

theorem covE_good {h:Hd} {es:List Ent} (hc:CoversH h es) (hq:1≤h.seq) (hk:chainI es= -1):covE h es=true:=by
 have hl:0<es.length:=by have:=hc.len;omega
 obtain ⟨k,hke⟩: ∃k,es.length=k+1:=⟨es.length - 1,by omega⟩
 unfold covE
 rw [decide_eq_true hc.most,decide_eq_true hc.len,decide_eq_true hk,oneDev_good (fun i hi=>(hc.log i hi).1),lastSum_at k hke]
 have h1:=hc.last hl
 have e:es[es.length - 1]'(by omega)=es[k]'(by omega):=by congr 1;omega
 rw [e] at h1
 rw [decide_eq_true h1]
 rfl
theorem logOk_chain {d:Int} {es:List Ent} (h:LogOk d es):chainI es= -1:=by
 refine (chainI_iff es).2 fun i hi=> ?_
 obtain ⟨h1,h2,h3,h4⟩:=h i hi
 unfold contE
 rw [(validE_iff _).2 h3,Bool.true_and,h1]
 cases i with
 | zero=>
   rw [List.take_zero,lastOf_nil]
   simp only
   rw [decide_eq_true_iff,h2]
   rfl
 | succ j=>
   obtain ⟨h5,h6⟩:=h4 j rfl
   have h7:=h j (by omega)
   rw [List.take_succ_eq_append_getElem (by omega),lastOf_snoc,if_pos h7.1]
   simp only
   rw [h2,h7.2.1,decide_eq_true h5,decide_eq_true h6,decide_eq_true (by omega)]
   rfl
theorem sameE_ne {a b:Ent} (h:a≠b):sameE a b=false:=by
 cases hs:sameE a b with
 | false=>rfl
 | true=>exact absurd ((sameE_iff a b).1 hs) h
theorem proves_fork {B H:Int} {pk:List Nat} {f:Frk} (h:ProvesF B H pk f):forkE B H pk f=true:=by
 have s0:sideE B H pk f.dev f.h0 f.l0=true:=by
  unfold sideE
  rw [decide_eq_true h.dev0,decide_eq_true h.sig0,covE_good h.cov0 h.sig0.1.2.2.1 (logOk_chain h.cov0.log)]
  rfl
 have s1:sideE B H pk f.dev f.h1 f.l1=true:=by
  unfold sideE
  rw [decide_eq_true h.dev1,decide_eq_true h.sig1,covE_good h.cov1 h.sig1.1.2.2.1 (logOk_chain h.cov1.log)]
  rfl
 obtain ⟨i,h0,h1,hne⟩:=h.differ
 unfold forkE
 rw [s0,s1,agreeE_bad i h0 h1 (sameE_ne hne)]
 rfl
end Go.Proofs.YtgfdghoaodlcdaaGreatDoor
