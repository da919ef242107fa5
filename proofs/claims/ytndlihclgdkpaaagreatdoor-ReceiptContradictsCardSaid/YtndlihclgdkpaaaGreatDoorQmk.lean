/- Merkle trees of any number of leaves in plain Lean (chapter 9): no program is named here. -/
import Derived.Test.YtndlihclgdkpaaaGreatDoorGe
set_option linter.unusedVariables false
set_option linter.unusedSimpArgs false
open Go.Lib (hid)
namespace Go.Proofs.YtndlihclgdkpaaaGreatDoor
namespace Mrk

def spl (n:Nat):Nat:=2 ^ Nat.log2 (n - 1)
theorem spl_pos (n:Nat):0<spl n:=Nat.two_pow_pos _
theorem spl_lt {n:Nat} (h:2≤n):spl n<n:=by
 have:=Nat.log2_self_le (n:=n - 1) (by omega)
 unfold spl
 omega
theorem spl_ge {n:Nat} (h:2≤n):n≤2*spl n:=by
 have:=Nat.lt_log2_self (n:=n - 1)
 rw [Nat.pow_succ] at this
 unfold spl
 omega
theorem spl_unique {n k:Nat} (h:2 ^ k<n) (h2:n≤2 ^ (k+1)):spl n=2 ^ k:=by
 unfold spl
 have:Nat.log2 (n - 1)=k:=by
  rw [Nat.log2_eq_iff (by have:=Nat.two_pow_pos k;omega)]
  rw [Nat.pow_succ] at h2 ⊢
  omega
 rw [this]
def rootM (l:List (List Nat)):List Nat:=
 if h:2≤l.length then node (rootM (l.take (spl l.length))) (rootM (l.drop (spl l.length)))
 else if l.length=0 then Sha.sum [] else l.getD 0 []
termination_by l.length
decreasing_by
 ·rw [List.length_take];have:=spl_lt h;omega
 ·rw [List.length_drop];have:=spl_pos l.length;omega
theorem rootM_two {l:List (List Nat)} (h:2≤l.length):rootM l=node (rootM (l.take (spl l.length))) (rootM (l.drop (spl l.length))):=by
 rw [rootM,dif_pos h]
theorem rootM_one {l:List (List Nat)} (h:l.length=1):rootM l=l.getD 0 []:=by
 rw [rootM,dif_neg (by omega),if_neg (by omega)]
theorem rootM_len {l:List (List Nat)} (h: ∀x ∈ l,x.length=32):(rootM l).length=32:=by
 by_cases h2:2≤l.length
 ·rw [rootM_two h2];exact node_len _ _
 ·by_cases h1:l.length=1
  ·rw [rootM_one h1]
   match l,h1 with
   | [x],_=>exact h x (List.mem_cons_self ..)
  ·rw [rootM,dif_neg h2,if_pos (by omega)]
   exact Sha.sum_length _
theorem rootM_lt {l:List (List Nat)} (h: ∀x ∈ l,∀y ∈ x,y<256): ∀y ∈ rootM l,y<256:=by
 by_cases h2:2≤l.length
 ·rw [rootM_two h2];exact node_lt _ _
 ·by_cases h1:l.length=1
  ·rw [rootM_one h1]
   match l,h1 with
   | [x],_=>exact h x (List.mem_cons_self ..)
  ·rw [rootM,dif_neg h2,if_pos (by omega)]
   exact Sha.sum_lt _
def pathM (i:Nat) (l:List (List Nat)):List (List Nat):=
 if h:2≤l.length then
  (if i<spl l.length then pathM i (l.take (spl l.length))++[rootM (l.drop (spl l.length))]
  else pathM (i - spl l.length) (l.drop (spl l.length))++[rootM (l.take (spl l.length))])
 else []
termination_by l.length
decreasing_by
 ·rw [List.length_take];have:=spl_lt h;omega
 ·rw [List.length_drop];have:=spl_pos l.length;omega
theorem pathM_left {i:Nat} {l:List (List Nat)} (h:2≤l.length) (hi:i<spl l.length):pathM i l=pathM i (l.take (spl l.length))++[rootM (l.drop (spl l.length))]:=by
 rw [pathM,dif_pos h,if_pos hi]
theorem pathM_right {i:Nat} {l:List (List Nat)} (h:2≤l.length) (hi: ¬i<spl l.length):pathM i l=pathM (i - spl l.length) (l.drop (spl l.length))++[rootM (l.take (spl l.length))]:=by
 rw [pathM,dif_pos h,if_neg hi]
theorem pathM_one {i:Nat} {l:List (List Nat)} (h:l.length≤1):pathM i l=[]:=by
 rw [pathM,dif_neg (by omega)]
def climbM (x:List Nat):Nat→Nat→List (List Nat)→Option (List Nat)
 | i,n,ps=>
   if h:2≤n then
    (match ps.getLast? with
    | none=>none
    | some q=>if i<spl n then (climbM x i (spl n) ps.dropLast).map (fun y=>node y q) else (climbM x (i - spl n) (n - spl n) ps.dropLast).map (fun y=>node q y))
   else if ps=[] then some x else none
termination_by _ n _=>n
decreasing_by
 ·exact spl_lt h
 ·have:=spl_pos n;omega
theorem climbM_one {x:List Nat} {i n:Nat} {ps:List (List Nat)} (h:n≤1):climbM x i n ps=if ps=[] then some x else none:=by
 rw [climbM,dif_neg (by omega)]
theorem climbM_nil {x:List Nat} {i n:Nat} (h:2≤n):climbM x i n []=none:=by
 rw [climbM,dif_pos h]
 rfl
theorem climbM_left {x:List Nat} {i n:Nat} {ps:List (List Nat)} {q:List Nat} (h:2≤n) (hi:i<spl n):climbM x i n (ps++[q])=(climbM x i (spl n) ps).map (fun y=>node y q):=by
 rw [climbM,dif_pos h,List.getLast?_concat,List.dropLast_concat]
 exact if_pos hi
theorem climbM_right {x:List Nat} {i n:Nat} {ps:List (List Nat)} {q:List Nat} (h:2≤n) (hi: ¬i<spl n):climbM x i n (ps++[q])=(climbM x (i - spl n) (n - spl n) ps).map (fun y=>node q y):=by
 rw [climbM,dif_pos h,List.getLast?_concat,List.dropLast_concat]
 exact if_neg hi
theorem climbM_path (n:Nat): ∀(l:List (List Nat)) (i:Nat),l.length=n→i<n→climbM (l.getD i []) i n (pathM i l)=some (rootM l):=by
 induction n using Nat.strongRecOn with
 | ind n ih=>
   intro l i hl hi
   by_cases h2:2≤n
   ·have h2':2≤l.length:=by omega
    have h3:=spl_lt h2
    have h4:=spl_pos n
    by_cases h1:i<spl n
    ·rw [pathM_left h2' (by rw [hl];exact h1),climbM_left h2 h1,rootM_two h2',hl,← getD_take l i (spl n) h1,ih (spl n) h3 (l.take (spl n)) i (by rw [List.length_take];omega) h1]
     rfl
    ·have h5:=ih (n - spl n) (by omega) (l.drop (spl n)) (i - spl n) (by rw [List.length_drop];omega) (by omega)
     rw [getD_drop,show spl n+(i - spl n)=i by omega] at h5
     rw [pathM_right h2' (by rw [hl];exact h1),climbM_right h2 h1,rootM_two h2',hl,h5]
     rfl
   ·have:n=1:=by omega
    subst this
    have hi0:i=0:=by omega
    subst hi0
    rw [pathM_one (by omega),climbM_one (by omega),if_pos rfl,rootM_one hl]
theorem pathM_32 (n:Nat): ∀(l:List (List Nat)) (i:Nat),l.length=n→(∀x ∈ l,x.length=32)→ ∀p ∈ pathM i l,p.length=32:=by
 induction n using Nat.strongRecOn with
 | ind n ih=>
   intro l i hl h p hp
   by_cases h2:2≤n
   ·have h2':2≤l.length:=by omega
    have h3:=spl_lt h2
    have h4:=spl_pos n
    by_cases h1:i<spl l.length
    ·rw [pathM_left h2' h1] at hp
     rcases List.mem_append.1 hp with hp | hp
     ·exact ih (spl n) h3 (l.take (spl l.length)) i (by rw [List.length_take,hl];omega) (fun x hx=>h x (List.mem_of_mem_take hx)) p hp
     ·rw [List.mem_singleton.1 hp]
      exact rootM_len (fun x hx=>h x (List.mem_of_mem_drop hx))
    ·rw [pathM_right h2' h1] at hp
     rcases List.mem_append.1 hp with hp | hp
     ·exact ih (n - spl n) (by omega) (l.drop (spl l.length)) _ (by rw [List.length_drop,hl]) (fun x hx=>h x (List.mem_of_mem_drop hx)) p hp
     ·rw [List.mem_singleton.1 hp]
      exact rootM_len (fun x hx=>h x (List.mem_of_mem_take hx))
   ·rw [pathM_one (by omega)] at hp
    simp at hp
theorem pathM_lt (n:Nat): ∀(l:List (List Nat)) (i:Nat),l.length=n→(∀x ∈ l,∀y ∈ x,y<256)→ ∀p ∈ pathM i l,∀y ∈ p,y<256:=by
 induction n using Nat.strongRecOn with
 | ind n ih=>
   intro l i hl h p hp
   by_cases h2:2≤n
   ·have h2':2≤l.length:=by omega
    have h3:=spl_lt h2
    have h4:=spl_pos n
    by_cases h1:i<spl l.length
    ·rw [pathM_left h2' h1] at hp
     rcases List.mem_append.1 hp with hp | hp
     ·exact ih (spl n) h3 (l.take (spl l.length)) i (by rw [List.length_take,hl];omega) (fun x hx=>h x (List.mem_of_mem_take hx)) p hp
     ·rw [List.mem_singleton.1 hp]
      exact rootM_lt (fun x hx=>h x (List.mem_of_mem_drop hx))
    ·rw [pathM_right h2' h1] at hp
     rcases List.mem_append.1 hp with hp | hp
     ·exact ih (n - spl n) (by omega) (l.drop (spl l.length)) _ (by rw [List.length_drop,hl]) (fun x hx=>h x (List.mem_of_mem_drop hx)) p hp
     ·rw [List.mem_singleton.1 hp]
      exact rootM_lt (fun x hx=>h x (List.mem_of_mem_take hx))
   ·rw [pathM_one (by omega)] at hp
    simp at hp
theorem pathM_len (k:Nat): ∀(l:List (List Nat)) (i:Nat),l.length≤2 ^ k→(pathM i l).length≤k:=by
 induction k with
 | zero=>
   intro l i h
   rw [pathM_one (by simpa using h)]
   exact Nat.le_refl _
 | succ k ih=>
   intro l i h
   by_cases h2:2≤l.length
   ·have h3:=spl_ge h2
    have h5:=spl_lt h2
    have hk:spl l.length≤2 ^ k:=by
     unfold spl
     refine Nat.pow_le_pow_right (by decide) ?_
     have:Nat.log2 (l.length - 1)<k+1:=(Nat.log2_lt (by omega)).2 (by omega)
     omega
    by_cases h1:i<spl l.length
    ·rw [pathM_left h2 h1,List.length_append]
     have:=ih (l.take (spl l.length)) i (by rw [List.length_take];omega)
     simp only [List.length_cons,List.length_nil]
     omega
    ·rw [pathM_right h2 h1,List.length_append]
     have:=ih (l.drop (spl l.length)) (i - spl l.length) (by rw [List.length_drop];rw [Nat.pow_succ] at h;omega)
     simp only [List.length_cons,List.length_nil]
     omega
   ·rw [pathM_one (by omega)]
    exact Nat.zero_le _
end Mrk
end Go.Proofs.YtndlihclgdkpaaaGreatDoor
